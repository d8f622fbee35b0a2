/- All solutions up to a bound are told in order, and each comes down to a fundamental one that is told, too. No condition. -/
import Derived.Test.YtgpoljimomfbbaaPackFnAllHurwitz2
import Derived.Laws.BitsLemmas
-- PFspechuJump
namespace Go.Proofs.Ytgpoljimomfbbaa.P
open Go.RowKit Go.Proofs.YtgpoljimomfbbaaW.PrintWords Go.Proofs.YtgpoljimomfbbaaW.PrintLast
set_option linter.unusedVariables false
set_option linter.unusedSimpArgs false

/-! ### spec_huJump: function 78 -/
def spec_huJump.f (k : Nat) (l0 : List Int) (a1 : Int) (a2 : Int) : Option (List Int × Bool) := (spec_huOther.f k l0 a1 a2).bind fun t220 => ((spec_l1In.f t220 1 100000).bind fun t221 => (if t221 = true then ((spec_l1Own.f l0).bind fun t222 => (if 0 ≤ a2 then (if a2 < (t222.length : Int) then ((spec_huSort.f k (t222.set (a2 : Int).toNat t220)).bind fun t226 => (some (t226, true))) else (none)) else (none))) else (some (([] : List Int), false))))
theorem spec_huJump.mono : ∀ a0 a1 a2 k, LeO (spec_huJump.f k a0 a1 a2) (spec_huJump.f (k + 1) a0 a1 a2) := by
 intro a0 a1 a2 k
 unfold spec_huJump.f
 repeat' first
   | (with_reducible exact spec_huOther.mono _ _ _ _)
   | (with_reducible exact spec_huSort.mono _ _)
   | (with_reducible exact LeO.refl _)
   | (with_reducible exact LeO.none _)
   | (with_reducible refine LeO.ite ?_ ?_)
   | (with_reducible refine LeO.bind ?_ (fun _ => ?_))
   | exact spec_huOther.mono _ _ _ _
   | exact spec_huSort.mono _ _
   | exact LeO.none _
   | refine LeO.ite ?_ ?_
   | refine LeO.bind ?_ (fun _ => ?_)
set_option maxHeartbeats 8000000 in
set_option maxRecDepth 100000 in
theorem spec_huJump.calls (k : Nat) (A0 : Option Addr) (c0 : Nat) (l0 : List Int) (a1 : Int) (a2 : Int) (r1 : List Int) (r2 : Bool) (w : World) (hr0 : Kd.C (Kd.int .i64) w A0 l0.length l0) (hc0 : l0.length ≤ c0) (h : spec_huJump.f k l0 a1 a2 = some (r1, r2)) :
  Calls Try.prog 78 #[.slice A0 l0.length c0, .int .i64 a1, .int .i64 a2] w fun e w' => ∃ v0_ : Value, e = .returned (.tuple #[v0_, .bool r2]) ∧ Kd.R (Kd.int .i64) 3 w' w.heap.size (fun _ => True) v0_ r1 ∧ Below w.heap.size w w' := by
 have HR0 := Aside0.mk hr0
 have HC0 := Aside0.mk hc0
 clear hr0 hc0
 have HB := Aside0.mk (Below.refl w.heap.size w)
 have H : ((spec_huOther.f k l0 a1 a2).bind fun t220 => ((spec_l1In.f t220 1 100000).bind fun t221 => (if t221 = true then ((spec_l1Own.f l0).bind fun t222 => (if 0 ≤ a2 then (if a2 < (t222.length : Int) then ((spec_huSort.f k (t222.set (a2 : Int).toNat t220)).bind fun t226 => (some (t226, true))) else (none)) else (none))) else (some (([] : List Int), false))))) = some (r1, r2) := h
 clear h
 replace H := Option.bind_eq_some_iff.mp H
 obtain ⟨t220, A40, H⟩ := H
 replace H : ((spec_l1In.f t220 1 100000).bind fun t221 => (if t221 = true then ((spec_l1Own.f l0).bind fun t222 => (if 0 ≤ a2 then (if a2 < (t222.length : Int) then ((spec_huSort.f k (t222.set (a2 : Int).toNat t220)).bind fun t226 => (some (t226, true))) else (none)) else (none))) else (some (([] : List Int), false)))) = some (r1, r2) := H
 have A4 := Aside0.mk A40
 clear A40
 replace H := Option.bind_eq_some_iff.mp H
 obtain ⟨t221, A50, H⟩ := H
 replace H : (if t221 = true then ((spec_l1Own.f l0).bind fun t222 => (if 0 ≤ a2 then (if a2 < (t222.length : Int) then ((spec_huSort.f k (t222.set (a2 : Int).toNat t220)).bind fun t226 => (some (t226, true))) else (none)) else (none))) else (some (([] : List Int), false))) = some (r1, r2) := H
 have A5 := Aside0.mk A50
 clear A50
 by_cases c6 : t221 = true
 ·subst c6
  have H1 : ((spec_l1Own.f l0).bind fun t222 => (if 0 ≤ a2 then (if a2 < (t222.length : Int) then ((spec_huSort.f k (t222.set (a2 : Int).toNat t220)).bind fun t226 => (some (t226, true))) else (none)) else (none))) = some (r1, r2) := by rw [if_pos rfl] at H; exact H
  clear H
  have H := H1
  clear H1
  replace H := Option.bind_eq_some_iff.mp H
  obtain ⟨t222, A70, H⟩ := H
  replace H : (if 0 ≤ a2 then (if a2 < (t222.length : Int) then ((spec_huSort.f k (t222.set (a2 : Int).toNat t220)).bind fun t226 => (some (t226, true))) else (none)) else (none)) = some (r1, r2) := H
  have A7 := Aside0.mk A70
  clear A70
  by_cases c8 : 0 ≤ a2
  ·rw [if_pos c8] at H
   have c8b0 : decide (0 ≤ a2) = true := decide_eq_true c8
   clear c8
   by_cases c9 : a2 < (t222.length : Int)
   ·rw [if_pos c9] at H
    have c9b0 : decide (a2 < (t222.length : Int)) = true := decide_eq_true c9
    clear c9
    obtain ⟨y225, hy225⟩ : ∃ y_ : List Int, y_ = (t222.set (a2 : Int).toNat t220) := ⟨_, rfl⟩
    replace H : ((spec_huSort.f k y225).bind fun t226 => (some (t226, true))) = some (r1, r2) := by first | (rw [hy225]; with_reducible exact H) | (have H2_ := (Option.bind_some _ _).symm.trans H; rw [hy225]; with_reducible exact H2_) | (have H2_ := (Option.bind_some _ _).symm.trans H; with_reducible exact H2_) | with_reducible exact H | (rw [hy225]; exact H) | exact H
    have Ny225 := Aside0.mk hy225
    clear hy225
    replace H := Option.bind_eq_some_iff.mp H
    obtain ⟨t226, A110, H⟩ := H
    replace H : (some (t226, true)) = some (r1, r2) := H
    have A11 := Aside0.mk A110
    clear A110
    simp only [Option.some.injEq, Prod.mk.injEq] at H
    obtain ⟨rfl, rfl⟩ := H
    go_enter Try.func78, Try.ntmps78
    go_wp2_with (first | ((with_reducible refine gate_callee (f := 90) rfl ?_); refine goesL_ (some 13) rfl rfl Try.func90 (by kernel_rfl) rfl #[.slice A0 l0.length c0, .int .i64 a1, .int .i64 a2] rfl (by (try simp only [List.map_toArray, List.map_cons, List.map_nil]); first | done | rfl | (simp only [List.length_drop, List.length_take]; rfl)) ?_; (with_reducible refine (spec_huOther.calls k _ _ l0 a1 a2 t220 _ ?side1 ?side2 A4.out).mono ?_); (case side1 => repeat (first | exact HR0.out | (with_reducible refine Kd.C_alloc ?_ _) | (with_reducible refine Kd.C_drewN ?_ _) | (with_reducible refine Kd.C_drew ?_))); (case side2 => exact HC0.out); rintro e w12 ⟨rfl, hb⟩; refine ⟨_, rfl, ?_⟩; have n0_ := Aside0.mk (below_step (by repeat (first | (with_reducible first | exact HB.out | apply below_alloc | apply pw_below_drewN | apply below_drew1) | exact HB.out)) hb); clear HB; have HB := n0_; clear n0_; (try clear hb); (try clear hb2); (try clear hk); (try clear hi)) | ((with_reducible refine gate_callee (f := 54) rfl ?_); refine goesL_ (some 15) rfl rfl Try.func54 (by kernel_rfl) rfl #[.int .i64 t220, .int .i64 1, .int .i64 100000] rfl (by (try simp only [List.map_toArray, List.map_cons, List.map_nil]); first | done | rfl | (simp only [List.length_drop, List.length_take]; rfl)) ?_; (with_reducible refine (spec_l1In.calls t220 1 100000 true _ A5.out).mono ?_); rintro e w' ⟨rfl, ⟨nd, rfl⟩⟩; refine ⟨_, rfl, ?_⟩; (try (rw [drewN_self w12]; generalize hq_ : World.drewN w12 _ = w12; have n0_ : Aside0 (Below w.heap.size w w12) := ⟨by rw [← hq_]; exact (by repeat (first | (with_reducible first | exact HB.out | apply below_alloc | apply pw_below_drewN | apply below_drew1) | exact HB.out))⟩; clear HB hq_; have HB := n0_; clear n0_))) | ((with_reducible refine gate_callee (f := 55) rfl ?_); refine goesL_ (some 18) rfl rfl Try.func55 (by kernel_rfl) rfl #[.slice A0 l0.length c0] rfl (by (try simp only [List.map_toArray, List.map_cons, List.map_nil]); first | done | rfl | (simp only [List.length_drop, List.length_take]; rfl)) ?_; (with_reducible refine (spec_l1Own.calls _ _ l0 t222 _ ?side1 ?side2 A7.out).mono ?_); (case side1 => repeat (first | exact (Kd.C_below HR0.out HB.out) | (with_reducible refine Kd.C_alloc ?_ _) | (with_reducible refine Kd.C_drewN ?_ _) | (with_reducible refine Kd.C_drew ?_))); (case side2 => exact HC0.out); rintro e w13 ⟨v223, rfl, ho0, hb⟩; refine ⟨_, rfl, ?_⟩; have n0_ := Aside0.mk (Kd.R_lower ho0 (below_size (by repeat (first | (with_reducible first | exact HB.out | apply below_alloc | apply pw_below_drewN | apply below_drew1) | exact HB.out)))); have n1_ := Aside0.mk (below_step (by repeat (first | (with_reducible first | exact HB.out | apply below_alloc | apply pw_below_drewN | apply below_drew1) | exact HB.out)) hb); clear HB; have HO224 := n0_; have HB := n1_; clear n0_ n1_; (try clear hb); (try clear hb2); (try clear hk); (try clear hi); (try clear ho0); have p10 : 0 ≤ (a2 : Int) := of_decide_eq_true (by first | (with_reducible assumption) | assumption); have q10 : (a2 : Int) < ((t222.length : Int) : Int) := of_decide_eq_true (by first | (with_reducible assumption) | assumption); obtain ⟨go10, co10, eo10, gb10, gl10, cl10, HG10⟩ := Kd.R_form HO224.out (by omega); (first | cases eo10 | (injection eo10 with ea_ en_ ec_; (first | subst ea_ | (injection ea_ with ea_; subst ea_)); subst ec_; clear en_)); have GB10 := Aside0.mk gb10; have GG10 := Aside0.mk HG10; clear gb10 gl10 HG10; obtain ⟨hx10_0, hf10_0⟩ := Kd.R_celln 0 HO224.out (a2 : Int) p10 q10; replace p10 := eq_true p10; replace q10 := eq_true q10; obtain ⟨hy14_, hz14_⟩ := Kd.R_celln 0 HO224.out (a2 : Int) (of_decide_eq_true (by first | (with_reducible assumption) | assumption)) (of_decide_eq_true (by first | (with_reducible assumption) | assumption)); have HP14 := Kd.R_putg HO224.out (a2 : Int) t220) | ((with_reducible refine gate_store (t := 3) (p := 22) rfl ?_); refine store_event (t := 3) (p := 22) (v := ?vo_w15) (w1 := (w13.setCell ⟨go10, (a2 : Int).toNat, none⟩ (.int .i64 t220))) ?hg ?ho ?hn ?hr ?_; (case ho => rfl); (case hg => rfl); (case hn => rfl); (case hr => first | (go_simp; done) | (go_simp; rfl)); intro w15 hw; have hg : w13.grownBy w15 (some go10) := (by rw [hw]; exact HP14.2); have hp_ : Kd.R (Kd.int .i64) 3 w15 w.heap.size (fun _ => True) (.slice (some ⟨go10, 0, none⟩) t222.length co10) y225 := (by rw [hw, Ny225.out]; exact HP14.1); clear HP14; have n0_ := Aside0.mk (hp_); have n1_ := Aside0.mk ((by rw [hw]; exact below_set (HB.out) GB10.out : Below w.heap.size w w15)); clear HO224; clear HB; have HO224 := n0_; have HB := n1_; clear n0_ n1_; clear hg hw hp_) | ((with_reducible refine gate_callee (f := 103) rfl ?_); refine goesL_ (some 24) rfl rfl Try.func103 (by kernel_rfl) rfl #[.slice (some ⟨go10, 0, none⟩) y225.length co10] rfl (by (try simp only [List.map_toArray, List.map_cons, List.map_nil]); first | done | (rw [show y225.length = t222.length from (Kd.R_reads' HO224.out).1.symm] <;> rfl) | rfl | (simp only [List.length_drop, List.length_take]; rfl)) ?_; (with_reducible refine (spec_huSort.calls k _ _ y225 t226 _ ?side1 ?side2 A11.out).mono ?_); (case side1 => repeat (first | exact (Kd.R_reads' HO224.out).2.2 | (with_reducible refine Kd.C_alloc ?_ _) | (with_reducible refine Kd.C_drewN ?_ _) | (with_reducible refine Kd.C_drew ?_))); (case side2 => rw [show y225.length = t222.length from (Kd.R_reads' HO224.out).1.symm]; exact (Kd.R_reads' HO224.out).2.1); rintro e w16 ⟨v227, rfl, ho0, hb⟩; refine ⟨_, rfl, ?_⟩; have n0_ := Aside0.mk (Kd.R_elder' (by (with_reducible repeat (first | apply Kd.R_alloc | apply Kd.R_drewN | apply Kd.R_drew)); exact HO224.out) (Kd.R_base ho0) hb); have n1_ := Aside0.mk (Kd.R_lower (Kd.R_new' ho0 (Kd.R_lt (by (with_reducible repeat (first | apply Kd.R_alloc | apply Kd.R_drewN | apply Kd.R_drew)); exact HO224.out))) (below_size (by repeat (first | (with_reducible first | exact HB.out | apply below_alloc | apply pw_below_drewN | apply below_drew1) | exact HB.out)))); have n2_ := Aside0.mk (below_step (by repeat (first | (with_reducible first | exact HB.out | apply below_alloc | apply pw_below_drewN | apply below_drew1) | exact HB.out)) hb); clear HO224; clear HB; have HO224 := n0_; have HO228 := n1_; have HB := n2_; clear n0_ n1_ n2_; (try clear hb); (try clear hb2); (try clear hk); (try clear hi); (try clear ho0)))
    go_ret2
    exact ⟨_, by first | rfl | (simp [errW_none, errW_some] <;> rfl) | (simp [*, errW_none, errW_some] <;> rfl), by (with_reducible repeat (first | apply Kd.R_alloc | apply Kd.R_drewN | apply Kd.R_drew)); exact Kd.R_mono HO228.out (fun _ hk => trivial), by repeat (first | (with_reducible first | exact HB.out | apply below_alloc | apply pw_below_drewN | apply below_drew1) | exact HB.out)⟩
   ·rw [if_neg c9] at H
    exact absurd H (by simp)
  ·rw [if_neg c8] at H
   exact absurd H (by simp)
 ·replace c6 := Bool.eq_false_iff.mpr c6
  subst c6
  have H1 : (some (([] : List Int), false)) = some (r1, r2) := by rw [if_neg (show ¬ (false = true) by decide)] at H; exact H
  clear H
  have H := H1
  clear H1
  simp only [Option.some.injEq, Prod.mk.injEq] at H
  obtain ⟨rfl, rfl⟩ := H
  go_enter Try.func78, Try.ntmps78
  go_wp2_with (first | ((with_reducible refine gate_callee (f := 90) rfl ?_); refine goesL_ (some 13) rfl rfl Try.func90 (by kernel_rfl) rfl #[.slice A0 l0.length c0, .int .i64 a1, .int .i64 a2] rfl (by (try simp only [List.map_toArray, List.map_cons, List.map_nil]); first | done | rfl | (simp only [List.length_drop, List.length_take]; rfl)) ?_; (with_reducible refine (spec_huOther.calls k _ _ l0 a1 a2 t220 _ ?side1 ?side2 A4.out).mono ?_); (case side1 => repeat (first | exact HR0.out | (with_reducible refine Kd.C_alloc ?_ _) | (with_reducible refine Kd.C_drewN ?_ _) | (with_reducible refine Kd.C_drew ?_))); (case side2 => exact HC0.out); rintro e w17 ⟨rfl, hb⟩; refine ⟨_, rfl, ?_⟩; have n0_ := Aside0.mk (below_step (by repeat (first | (with_reducible first | exact HB.out | apply below_alloc | apply pw_below_drewN | apply below_drew1) | exact HB.out)) hb); clear HB; have HB := n0_; clear n0_; (try clear hb); (try clear hb2); (try clear hk); (try clear hi)) | ((with_reducible refine gate_callee (f := 54) rfl ?_); refine goesL_ (some 15) rfl rfl Try.func54 (by kernel_rfl) rfl #[.int .i64 t220, .int .i64 1, .int .i64 100000] rfl (by (try simp only [List.map_toArray, List.map_cons, List.map_nil]); first | done | rfl | (simp only [List.length_drop, List.length_take]; rfl)) ?_; (with_reducible refine (spec_l1In.calls t220 1 100000 false _ A5.out).mono ?_); rintro e w' ⟨rfl, ⟨nd, rfl⟩⟩; refine ⟨_, rfl, ?_⟩))
  go_ret2
  exact ⟨_, by first | rfl | (simp [errW_none, errW_some] <;> rfl) | (simp [*, errW_none, errW_some] <;> rfl), by first | exact Kd.R_nil _ _ _ _ _ | exact Kd.N_nil _ _ _ _ _ | exact Kd.V_nil _ _ _ _ _ | exact Kd.Q_nil _ _ _ _ _ | exact Kd.S_nil _ _ _ _ _, by repeat (first | (with_reducible first | exact HB.out | apply below_alloc | apply pw_below_drewN | apply below_drew1) | exact HB.out)⟩

end Go.Proofs.Ytgpoljimomfbbaa.P

-- PFimplisSolution
namespace Go.Proofs.Ytgpoljimomfbbaa.P
open Go.RowKit Go.Proofs.YtgpoljimomfbbaaW.PrintWords Go.Proofs.YtgpoljimomfbbaaW.PrintLast
set_option linter.unusedVariables false
set_option linter.unusedSimpArgs false

/-! ### impl_isSolution: function 50 -/
def impl_isSolution.f (k : Nat) (l0 : List Int) (a1 : Int) (a2 : Int) : Option (Bool) := (impl_areGiven.f a1 a2).bind fun t254 => (if t254 = true then ((impl_isHurwitz.f k l0 a1 a2).bind fun t255 => (some t255)) else (some false))
theorem impl_isSolution.mono : ∀ a0 a1 a2 k, LeO (impl_isSolution.f k a0 a1 a2) (impl_isSolution.f (k + 1) a0 a1 a2) := by
 intro a0 a1 a2 k
 unfold impl_isSolution.f
 repeat' first
   | (with_reducible exact impl_isHurwitz.mono _ _ _ _)
   | (with_reducible exact LeO.refl _)
   | (with_reducible exact LeO.none _)
   | (with_reducible refine LeO.ite ?_ ?_)
   | (with_reducible refine LeO.bind ?_ (fun _ => ?_))
   | exact impl_isHurwitz.mono _ _ _ _
   | exact LeO.none _
   | refine LeO.ite ?_ ?_
   | refine LeO.bind ?_ (fun _ => ?_)
set_option maxHeartbeats 8000000 in
set_option maxRecDepth 100000 in
theorem impl_isSolution.calls (k : Nat) (A0 : Option Addr) (c0 : Nat) (l0 : List Int) (a1 : Int) (a2 : Int) (r : Bool) (w : World) (hr0 : Kd.C (Kd.int .i64) w A0 l0.length l0) (hc0 : l0.length ≤ c0) (h : impl_isSolution.f k l0 a1 a2 = some r) :
  Calls Try.prog 50 #[.slice A0 l0.length c0, .int .i64 a1, .int .i64 a2] w fun e w' => e = .returned (.bool r) ∧ Below w.heap.size w w' := by
 have HR0 := Aside0.mk hr0
 have HC0 := Aside0.mk hc0
 clear hr0 hc0
 have HB := Aside0.mk (Below.refl w.heap.size w)
 have H : ((impl_areGiven.f a1 a2).bind fun t254 => (if t254 = true then ((impl_isHurwitz.f k l0 a1 a2).bind fun t255 => (some t255)) else (some false))) = some r := h
 clear h
 replace H := Option.bind_eq_some_iff.mp H
 obtain ⟨t254, A40, H⟩ := H
 replace H : (if t254 = true then ((impl_isHurwitz.f k l0 a1 a2).bind fun t255 => (some t255)) else (some false)) = some r := H
 have A4 := Aside0.mk A40
 clear A40
 by_cases c5 : t254 = true
 ·subst c5
  have H1 : ((impl_isHurwitz.f k l0 a1 a2).bind fun t255 => (some t255)) = some r := by rw [if_pos rfl] at H; exact H
  clear H
  have H := H1
  clear H1
  replace H := Option.bind_eq_some_iff.mp H
  obtain ⟨t255, A60, H⟩ := H
  replace H : (some t255) = some r := H
  have A6 := Aside0.mk A60
  clear A60
  obtain rfl := Option.some.inj H
  go_enter Try.func50, Try.ntmps50
  go_wp2_with (first | ((with_reducible refine gate_callee (f := 67) rfl ?_); refine goesL_ (some 9) rfl rfl Try.func67 (by kernel_rfl) rfl #[.int .i64 a1, .int .i64 a2] rfl (by (try simp only [List.map_toArray, List.map_cons, List.map_nil]); first | done | rfl | (simp only [List.length_drop, List.length_take]; rfl)) ?_; (with_reducible refine (impl_areGiven.calls a1 a2 true _ A4.out).mono ?_); rintro e w' ⟨rfl, ⟨nd, rfl⟩⟩; refine ⟨_, rfl, ?_⟩) | (go_at_call 91; (with_reducible refine (impl_isHurwitz.calls k _ _ l0 a1 a2 t255 _ ?side1 ?side2 A6.out).mono ?_); (case side1 => repeat (first | exact HR0.out | (with_reducible refine Kd.C_alloc ?_ _) | (with_reducible refine Kd.C_drewN ?_ _) | (with_reducible refine Kd.C_drew ?_))); (case side2 => exact HC0.out); rintro e w7 ⟨rfl, hb⟩; have n0_ := Aside0.mk (below_step (by repeat (first | (with_reducible first | exact HB.out | apply below_alloc | apply pw_below_drewN | apply below_drew1) | exact HB.out)) hb); clear HB; have HB := n0_; clear n0_; (try clear hb); (try clear hb2); (try clear hk); (try clear hi)))
  go_ret
  exact ⟨by first | rfl | (simp [errW_none, errW_some] <;> rfl) | (simp [*, errW_none, errW_some] <;> rfl), by repeat (first | (with_reducible first | exact HB.out | apply below_alloc | apply pw_below_drewN | apply below_drew1) | exact HB.out)⟩
 ·replace c5 := Bool.eq_false_iff.mpr c5
  subst c5
  have H1 : (some false) = some r := by rw [if_neg (show ¬ (false = true) by decide)] at H; exact H
  clear H
  have H := H1
  clear H1
  obtain rfl := Option.some.inj H
  go_enter Try.func50, Try.ntmps50
  go_wp2_with (first | ((with_reducible refine gate_callee (f := 67) rfl ?_); refine goesL_ (some 9) rfl rfl Try.func67 (by kernel_rfl) rfl #[.int .i64 a1, .int .i64 a2] rfl (by (try simp only [List.map_toArray, List.map_cons, List.map_nil]); first | done | rfl | (simp only [List.length_drop, List.length_take]; rfl)) ?_; (with_reducible refine (impl_areGiven.calls a1 a2 false _ A4.out).mono ?_); rintro e w' ⟨rfl, ⟨nd, rfl⟩⟩; refine ⟨_, rfl, ?_⟩))
  go_ret
  exact ⟨by first | rfl | (simp [errW_none, errW_some] <;> rfl) | (simp [*, errW_none, errW_some] <;> rfl), by repeat (first | (with_reducible first | exact HB.out | apply below_alloc | apply pw_below_drewN | apply below_drew1) | exact HB.out)⟩

end Go.Proofs.Ytgpoljimomfbbaa.P

-- PFimplotherRoot
namespace Go.Proofs.Ytgpoljimomfbbaa.P
open Go.RowKit Go.Proofs.YtgpoljimomfbbaaW.PrintWords Go.Proofs.YtgpoljimomfbbaaW.PrintLast
set_option linter.unusedVariables false
set_option linter.unusedSimpArgs false

/-! ### impl_otherRoot: function 100 -/
def impl_otherRoot.l0 : Nat → List Int → Int → Int → List Int → Int → Int → Option (Int)
 | 0, _, _, _, _, _, _ => none
 | k + 1, x0, x2, x7, x11, x12, x13 => if x13 < x12 then (if 0 ≤ x13 then (if x13 < (x11.length : Int) then (if x13 = x2 then (impl_otherRoot.l0 k x0 x2 x7 x11 x12 (wrap64 (x13 + 1))) else (impl_otherRoot.l0 k x0 x2 (wrap64 (x7 * (rd x11 x13))) x11 x12 (wrap64 (x13 + 1)))) else (none)) else (none)) else (if 0 ≤ x2 then (if x2 < (x0.length : Int) then (some (wrap64 (x7 - (rd x0 x2)))) else (none)) else (none))
def impl_otherRoot.f (k : Nat) (l0 : List Int) (a1 : Int) (a2 : Int) : Option (Int) := impl_otherRoot.l0 k l0 a2 a1 l0 (l0.length : Int) 0
theorem impl_otherRoot.mono_l : ∀ k, (∀ y0 y1 y2 y3 y4 y5, LeO (impl_otherRoot.l0 k y0 y1 y2 y3 y4 y5) (impl_otherRoot.l0 (k + 1) y0 y1 y2 y3 y4 y5))
 | 0 => fun _ _ _ _ _ _ r h => by simp [impl_otherRoot.l0] at h
 | k + 1 => by
  have ih0 := impl_otherRoot.mono_l k
  ·intro y0 y1 y2 y3 y4 y5
   unfold impl_otherRoot.l0
   repeat' first
   | (with_reducible exact ih0 _ _ _ _ _ _)
   | (with_reducible exact LeO.refl _)
   | (with_reducible exact LeO.none _)
   | (with_reducible refine LeO.ite ?_ ?_)
   | (with_reducible refine LeO.bind ?_ (fun _ => ?_))
   | exact ih0 _ _ _ _ _ _
   | exact LeO.none _
   | refine LeO.ite ?_ ?_
   | refine LeO.bind ?_ (fun _ => ?_)
theorem impl_otherRoot.mono : ∀ a0 a1 a2 k, LeO (impl_otherRoot.f k a0 a1 a2) (impl_otherRoot.f (k + 1) a0 a1 a2) := by
 intro a0 a1 a2 k
 have ih0 := impl_otherRoot.mono_l k
 unfold impl_otherRoot.f
 repeat' first
   | (with_reducible exact ih0 _ _ _ _ _ _)
   | (with_reducible exact LeO.refl _)
   | (with_reducible exact LeO.none _)
   | (with_reducible refine LeO.ite ?_ ?_)
   | (with_reducible refine LeO.bind ?_ (fun _ => ?_))
   | exact ih0 _ _ _ _ _ _
   | exact LeO.none _
   | refine LeO.ite ?_ ?_
   | refine LeO.bind ?_ (fun _ => ?_)
set_option maxHeartbeats 8000000 in
set_option maxRecDepth 100000 in
theorem impl_otherRoot.calls (k : Nat) (A0 : Option Addr) (c0 : Nat) (l0 : List Int) (a1 : Int) (a2 : Int) (r : Int) (w : World) (hr0 : Kd.C (Kd.int .i64) w A0 l0.length l0) (hc0 : l0.length ≤ c0) (h : impl_otherRoot.f k l0 a1 a2 = some r) :
  Calls Try.prog 100 #[.slice A0 l0.length c0, .int .i64 a1, .int .i64 a2] w fun e w' => e = .returned (.int .i64 r) ∧ Drawn0 w w' := by
 have HR0 := Aside0.mk hr0
 have HC0 := Aside0.mk hc0
 clear hr0 hc0
 have H : (impl_otherRoot.l0 k l0 a2 a1 l0 (l0.length : Int) 0) = some r := h
 clear h
 have H' := Aside0.mk H
 clear H
 go_enter Try.func100, Try.ntmps100
 go_wp2
 go_loopg [7, 13] k (fun kq v7 v13 w' => ∃ (x7_1 : Int) (x13_1 : Int), v7 = .int .i64 x7_1 ∧ v13 = .int .i64 x13_1 ∧ Aside0 (impl_otherRoot.l0 kq l0 a2 x7_1 l0 (l0.length : Int) x13_1 = some r) ∧ Aside0 (kq ≤ k) ∧ Drawn0 w w')
 case atStart => exact ⟨(a1), (0), (by first | rfl | (simp; done) | (simp [*]; done)), (by first | rfl | (simp; done) | (simp [*]; done)), H', ⟨Nat.le_refl _⟩, by repeat (first | exact Drawn0.refl _ | apply Drawn0.step)⟩
 case round =>
  clear H'
  try clear c1
  try clear p2
  obtain ⟨x7_1, x13_1, rfl, rfl, HA, HK1, ⟨m1, rfl⟩⟩ := hrel
  cases gk with
  | zero => exact absurd HA.out (by simp [impl_otherRoot.l0])
  | succ k1 =>
   have H := HA.out
   clear HA
   simp only [impl_otherRoot.l0] at H
   by_cases c4 : x13_1 < (l0.length : Int)
   ·rw [if_pos c4] at H
    have c4b0 : decide (x13_1 < (l0.length : Int)) = true := decide_eq_true c4
    clear c4
    by_cases c5 : 0 ≤ x13_1
    ·rw [if_pos c5] at H
     have c5b0 : decide (0 ≤ x13_1) = true := decide_eq_true c5
     clear c5
     by_cases c6 : x13_1 < (l0.length : Int)
     ·rw [if_pos c6] at H
      have c6b0 : decide (x13_1 < (l0.length : Int)) = true := decide_eq_true c6
      clear c6
      by_cases c7 : x13_1 = a2
      ·rw [if_pos c7] at H
       have c7b0 : (x13_1 == a2) = true := beq_iff_eq.mpr c7
       have c7b1 : (x13_1 != a2) = false := bne_eq_false_iff_eq.mpr c7
       clear c7
       have H' := Aside0.mk H
       clear H
       have p265 : 0 ≤ (x13_1 : Int) := of_decide_eq_true (by first | (with_reducible assumption) | assumption)
       have q265 : x13_1 < (l0.length : Int) := of_decide_eq_true (by first | (with_reducible assumption) | assumption)
       obtain ⟨ad265, e265, hx265_0⟩ := Kd.at_int HR0.out x13_1 p265 q265
       cases e265
       replace p265 := eq_true p265
       replace q265 := eq_true q265
       go_wp2
       go_roundg k1
       case measure => have := HK1.out; omega
       case rel => exact ⟨(x7_1), (wrap64 (x13_1 + 1)), (by first | rfl | (simp; done) | (simp [*]; done)), (by first | rfl | (simp; done) | (simp [*]; done)), H', ⟨by have := HK1.out; omega⟩, by repeat (first | exact Drawn0.refl _ | apply Drawn0.step)⟩
      ·rw [if_neg c7] at H
       have c7b0 : (x13_1 == a2) = false := beq_eq_false_iff_ne.mpr c7
       have c7b1 : (x13_1 != a2) = true := bne_iff_ne.mpr c7
       have H' := Aside0.mk H
       clear H
       have p265 : 0 ≤ (x13_1 : Int) := of_decide_eq_true (by first | (with_reducible assumption) | assumption)
       have q265 : x13_1 < (l0.length : Int) := of_decide_eq_true (by first | (with_reducible assumption) | assumption)
       obtain ⟨ad265, e265, hx265_0⟩ := Kd.at_int HR0.out x13_1 p265 q265
       cases e265
       replace p265 := eq_true p265
       replace q265 := eq_true q265
       go_wp2
       go_roundg k1
       case measure => have := HK1.out; omega
       case rel => exact ⟨(wrap64 (x7_1 * (rd l0 x13_1))), (wrap64 (x13_1 + 1)), (by first | rfl | (simp; done) | (simp [*]; done)), (by first | rfl | (simp; done) | (simp [*]; done)), H', ⟨by have := HK1.out; omega⟩, by repeat (first | exact Drawn0.refl _ | apply Drawn0.step)⟩
     ·rw [if_neg c6] at H
      exact absurd H (by simp)
    ·rw [if_neg c5] at H
     exact absurd H (by simp)
   ·rw [if_neg c4] at H
    have c4b0 : decide (x13_1 < (l0.length : Int)) = false := decide_eq_false c4
    clear c4
    by_cases c8 : 0 ≤ a2
    ·rw [if_pos c8] at H
     have c8b0 : decide (0 ≤ a2) = true := decide_eq_true c8
     clear c8
     by_cases c9 : a2 < (l0.length : Int)
     ·rw [if_pos c9] at H
      have c9b0 : decide (a2 < (l0.length : Int)) = true := decide_eq_true c9
      clear c9
      obtain rfl := Option.some.inj H
      have p266 : 0 ≤ (a2 : Int) := of_decide_eq_true (by first | (with_reducible assumption) | assumption)
      have q266 : a2 < (l0.length : Int) := of_decide_eq_true (by first | (with_reducible assumption) | assumption)
      obtain ⟨ad266, e266, hx266_0⟩ := Kd.at_int HR0.out a2 p266 q266
      cases e266
      replace p266 := eq_true p266
      replace q266 := eq_true q266
      go_wp2
      go_ret
      exact ⟨by first | rfl | (simp; done) | (simp [*]; done), by repeat (first | exact Drawn0.refl _ | apply Drawn0.step)⟩
     ·rw [if_neg c9] at H
      exact absurd H (by simp)
    ·rw [if_neg c8] at H
     exact absurd H (by simp)

end Go.Proofs.Ytgpoljimomfbbaa.P

-- PFimplisFundamental
namespace Go.Proofs.Ytgpoljimomfbbaa.P
open Go.RowKit Go.Proofs.YtgpoljimomfbbaaW.PrintWords Go.Proofs.YtgpoljimomfbbaaW.PrintLast
set_option linter.unusedVariables false
set_option linter.unusedSimpArgs false

/-! ### impl_isFundamental: function 71 -/
def impl_isFundamental.f (k : Nat) (l0 : List Int) (a1 : Int) : Option (Bool) := (impl_otherRoot.f k l0 a1 0).bind fun t410 => (if 0 < (l0.length : Int) then ((impl_within.f t410 1 (wrap64 ((rd l0 0) - 1))).bind fun t412 => (some (!t412))) else (none))
theorem impl_isFundamental.mono : ∀ a0 a1 k, LeO (impl_isFundamental.f k a0 a1) (impl_isFundamental.f (k + 1) a0 a1) := by
 intro a0 a1 k
 unfold impl_isFundamental.f
 repeat' first
   | (with_reducible exact impl_otherRoot.mono _ _ _ _)
   | (with_reducible exact LeO.refl _)
   | (with_reducible exact LeO.none _)
   | (with_reducible refine LeO.ite ?_ ?_)
   | (with_reducible refine LeO.bind ?_ (fun _ => ?_))
   | exact impl_otherRoot.mono _ _ _ _
   | exact LeO.none _
   | refine LeO.ite ?_ ?_
   | refine LeO.bind ?_ (fun _ => ?_)
set_option maxHeartbeats 8000000 in
set_option maxRecDepth 100000 in
theorem impl_isFundamental.calls (k : Nat) (A0 : Option Addr) (c0 : Nat) (l0 : List Int) (a1 : Int) (r : Bool) (w : World) (hr0 : Kd.C (Kd.int .i64) w A0 l0.length l0) (hc0 : l0.length ≤ c0) (h : impl_isFundamental.f k l0 a1 = some r) :
  Calls Try.prog 71 #[.slice A0 l0.length c0, .int .i64 a1] w fun e w' => e = .returned (.bool r) ∧ Drawn0 w w' := by
 have HR0 := Aside0.mk hr0
 have HC0 := Aside0.mk hc0
 clear hr0 hc0
 have H : ((impl_otherRoot.f k l0 a1 0).bind fun t410 => (if 0 < (l0.length : Int) then ((impl_within.f t410 1 (wrap64 ((rd l0 0) - 1))).bind fun t412 => (some (!t412))) else (none))) = some r := h
 clear h
 replace H := Option.bind_eq_some_iff.mp H
 obtain ⟨t410, A30, H⟩ := H
 replace H : (if 0 < (l0.length : Int) then ((impl_within.f t410 1 (wrap64 ((rd l0 0) - 1))).bind fun t412 => (some (!t412))) else (none)) = some r := H
 have A3 := Aside0.mk A30
 clear A30
 by_cases c4 : 0 < (l0.length : Int)
 ·rw [if_pos c4] at H
  have c4b0 : decide (0 < (l0.length : Int)) = true := decide_eq_true c4
  have c4b1 : decide (0 < l0.length) = true := decide_eq_true (by omega)
  clear c4
  replace H := Option.bind_eq_some_iff.mp H
  obtain ⟨t412, A50, H⟩ := H
  replace H : (some (!t412)) = some r := H
  have A5 := Aside0.mk A50
  clear A50
  obtain rfl := Option.some.inj H
  have p411 : 0 ≤ (0 : Int) := (by omega); have q411 : 0 < (l0.length : Int) := of_decide_eq_true (by first | (with_reducible assumption) | assumption); obtain ⟨ad411, e411, hx411_0⟩ := Kd.at_int HR0.out 0 p411 q411; cases e411; have qi411 : (0 < l0.length) = True := eq_true (by omega); (try rw [show ((0 : Int)).toNat = 0 from rfl] at hx411_0); (try rw [Addr.add_zero'] at hx411_0); replace p411 := eq_true p411; replace q411 := eq_true q411
  go_enter Try.func71, Try.ntmps71
  go_wp2_with (first | (go_at_call 100; (with_reducible refine (impl_otherRoot.calls k _ _ l0 a1 0 t410 _ ?side1 ?side2 A3.out).mono ?_); (case side1 => repeat (first | exact HR0.out | (with_reducible refine Kd.C_alloc ?_ _) | (with_reducible refine Kd.C_drewN ?_ _) | (with_reducible refine Kd.C_drew ?_))); (case side2 => exact HC0.out); rintro e w' ⟨rfl, ⟨nd, rfl⟩⟩; (try first | exact ⟨rfl, _, World.drewN_drewN _ _ _⟩ | exact ⟨rfl, _, Eq.trans (World.drewN_drewN _ _ _) (congrArg (World.drewN _) (Nat.add_assoc _ _ _))⟩)) | (go_at_call 57; (with_reducible refine (impl_within.calls t410 1 (wrap64 ((rd l0 0) - 1)) t412 _ A5.out).mono ?_); rintro e w' ⟨rfl, ⟨nd, rfl⟩⟩; (try first | exact ⟨rfl, _, World.drewN_drewN _ _ _⟩ | exact ⟨rfl, _, Eq.trans (World.drewN_drewN _ _ _) (congrArg (World.drewN _) (Nat.add_assoc _ _ _))⟩)))
  repeat (go_quiet (first | (go_at_call 100; (with_reducible refine (impl_otherRoot.calls k _ _ l0 a1 0 t410 _ ?side1 ?side2 A3.out).mono ?_); (case side1 => repeat (first | exact HR0.out | (with_reducible refine Kd.C_alloc ?_ _) | (with_reducible refine Kd.C_drewN ?_ _) | (with_reducible refine Kd.C_drew ?_))); (case side2 => exact HC0.out); rintro e w' ⟨rfl, ⟨nd, rfl⟩⟩; (try first | exact ⟨rfl, _, World.drewN_drewN _ _ _⟩ | exact ⟨rfl, _, Eq.trans (World.drewN_drewN _ _ _) (congrArg (World.drewN _) (Nat.add_assoc _ _ _))⟩)) | (go_at_call 57; (with_reducible refine (impl_within.calls t410 1 (wrap64 ((rd l0 0) - 1)) t412 _ A5.out).mono ?_); rintro e w' ⟨rfl, ⟨nd, rfl⟩⟩; (try first | exact ⟨rfl, _, World.drewN_drewN _ _ _⟩ | exact ⟨rfl, _, Eq.trans (World.drewN_drewN _ _ _) (congrArg (World.drewN _) (Nat.add_assoc _ _ _))⟩))); try go_wp2_with (first | (go_at_call 100; (with_reducible refine (impl_otherRoot.calls k _ _ l0 a1 0 t410 _ ?side1 ?side2 A3.out).mono ?_); (case side1 => repeat (first | exact HR0.out | (with_reducible refine Kd.C_alloc ?_ _) | (with_reducible refine Kd.C_drewN ?_ _) | (with_reducible refine Kd.C_drew ?_))); (case side2 => exact HC0.out); rintro e w' ⟨rfl, ⟨nd, rfl⟩⟩; (try first | exact ⟨rfl, _, World.drewN_drewN _ _ _⟩ | exact ⟨rfl, _, Eq.trans (World.drewN_drewN _ _ _) (congrArg (World.drewN _) (Nat.add_assoc _ _ _))⟩)) | (go_at_call 57; (with_reducible refine (impl_within.calls t410 1 (wrap64 ((rd l0 0) - 1)) t412 _ A5.out).mono ?_); rintro e w' ⟨rfl, ⟨nd, rfl⟩⟩; (try first | exact ⟨rfl, _, World.drewN_drewN _ _ _⟩ | exact ⟨rfl, _, Eq.trans (World.drewN_drewN _ _ _) (congrArg (World.drewN _) (Nat.add_assoc _ _ _))⟩))))
  go_ret
  exact ⟨by first | rfl | (simp; done) | (simp [*]; done), by repeat (first | exact Drawn0.refl _ | apply Drawn0.step)⟩
 ·rw [if_neg c4] at H
  exact absurd H (by simp)

end Go.Proofs.Ytgpoljimomfbbaa.P

-- PFslicesReverseintint
namespace Go.Proofs.Ytgpoljimomfbbaa.P
open Go.RowKit Go.Proofs.YtgpoljimomfbbaaW.PrintWords Go.Proofs.YtgpoljimomfbbaaW.PrintLast
set_option linter.unusedVariables false
set_option linter.unusedSimpArgs false

/-! ### slices_Reverse_int_int: function 102 -/
def slices_Reverse_int_int.l0 : Nat → List Int → Int → Int → Option (List Int)
 | 0, _, _, _ => none
 | k + 1, x0, x2, x3 => if x2 < x3 then (if 0 ≤ x3 then (if x3 < (x0.length : Int) then (if 0 ≤ x2 then (if x2 < (x0.length : Int) then (slices_Reverse_int_int.l0 k ((x0.set (x2 : Int).toNat (rd x0 x3)).set (x3 : Int).toNat (rd x0 x2)) (wrap64 (x2 + 1)) (wrap64 (x3 - 1))) else (none)) else (none)) else (none)) else (none)) else (some x0)
def slices_Reverse_int_int.f (k : Nat) (l0 : List Int) : Option (List Int) := slices_Reverse_int_int.l0 k l0 0 (wrap64 ((l0.length : Int) - 1))
theorem slices_Reverse_int_int.mono_l : ∀ k, (∀ y0 y1 y2, LeO (slices_Reverse_int_int.l0 k y0 y1 y2) (slices_Reverse_int_int.l0 (k + 1) y0 y1 y2))
 | 0 => fun _ _ _ r h => by simp [slices_Reverse_int_int.l0] at h
 | k + 1 => by
  have ih0 := slices_Reverse_int_int.mono_l k
  ·intro y0 y1 y2
   unfold slices_Reverse_int_int.l0
   repeat' first
   | (with_reducible exact ih0 _ _ _)
   | (with_reducible exact LeO.refl _)
   | (with_reducible exact LeO.none _)
   | (with_reducible refine LeO.ite ?_ ?_)
   | (with_reducible refine LeO.bind ?_ (fun _ => ?_))
   | exact ih0 _ _ _
   | exact LeO.none _
   | refine LeO.ite ?_ ?_
   | refine LeO.bind ?_ (fun _ => ?_)
theorem slices_Reverse_int_int.mono : ∀ a0 k, LeO (slices_Reverse_int_int.f k a0) (slices_Reverse_int_int.f (k + 1) a0) := by
 intro a0 k
 have ih0 := slices_Reverse_int_int.mono_l k
 unfold slices_Reverse_int_int.f
 repeat' first
   | (with_reducible exact ih0 _ _ _)
   | (with_reducible exact LeO.refl _)
   | (with_reducible exact LeO.none _)
   | (with_reducible refine LeO.ite ?_ ?_)
   | (with_reducible refine LeO.bind ?_ (fun _ => ?_))
   | exact ih0 _ _ _
   | exact LeO.none _
   | refine LeO.ite ?_ ?_
   | refine LeO.bind ?_ (fun _ => ?_)
def slices_Reverse_int_int.T3 : Bool × List (List Nat × List Nat) := (true, [([], []), ([], []), ([], []), ([], []), ([], []), ([], []), ([4, 5], [4, 5]), ([6], [6]), ([], []), ([], []), ([8, 9], [8, 9]), ([10], [10]), ([0, 1, 0, 1, 4, 5, 6, 7, 11], [0, 1]), ([12, 7, 0, 1, 4, 5, 6, 7, 11], [7, 12]), ([2, 3, 0, 1, 2, 3, 4, 5, 6, 7, 8, 9, 10, 11, 12, 13], [2, 3]), ([14, 11, 13, 0, 1, 2, 3, 4, 5, 6, 7, 8, 9, 10, 11, 12, 13], [11, 14])])
def slices_Reverse_int_int.B3 : List Nat := [0, 0, 0, 0, 0, 0, 48, 112, 0, 0, 768, 1792, 4083, 8179, 16383, 32767]
theorem slices_Reverse_int_int.tab3 : rtab .any (opsOf Try.f102 3) = slices_Reverse_int_int.T3 := by kernel_rfl
theorem slices_Reverse_int_int.bits3 : waitsOk slices_Reverse_int_int.T3.2 slices_Reverse_int_int.B3 = true := by kernel_rfl
set_option maxHeartbeats 8000000 in
set_option maxRecDepth 100000 in
theorem slices_Reverse_int_int.calls (k : Nat) (P0_ : Nat → Prop) (u9000_ : Value) (l0 : List Int) (r : List Int) (w0 w : World) (hB : Below w0.heap.size w0 w) (ho0 : Kd.R (Kd.int .i64) 3 w w0.heap.size P0_ u9000_ l0) (h : slices_Reverse_int_int.f k l0 = some r) :
  Calls Try.prog 102 #[u9000_] w fun e w' => e = .returned (.tuple #[]) ∧ Kd.R (Kd.int .i64) 3 w' w0.heap.size (fun k_ => (P0_ k_ ∨ w.heap.size ≤ k_)) u9000_ r ∧ Below w0.heap.size w0 w' ∧ Kept w w' (fun k_ => P0_ k_) := by
 have HO0 := Aside0.mk (show Kd.R (Kd.int .i64) 3 w w0.heap.size (fun k_ => (P0_ k_ ∨ w.heap.size ≤ k_)) u9000_ l0 from Kd.R_mono ho0 (fun k_ hk => (.inl hk)))
 have HK := Aside0.mk (Kept.refl w (fun k_ => P0_ k_))
 have HW0 := Aside0.mk hB.size
 have HB := Aside0.mk hB
 clear hB
 have H : (slices_Reverse_int_int.l0 k l0 0 (wrap64 ((l0.length : Int) - 1))) = some r := h
 clear h
 have H' := Aside0.mk H
 clear H
 obtain ⟨Ao2, co2, eo2⟩ := Kd.R_slice HO0.out
 subst eo2
 go_enter Try.func102, Try.ntmps102
 go_wp2
 go_loopg [2, 3] k (fun kq v2 v3 w' => ∃ (x0_1 : List Int) (x2_1 : Int) (x3_1 : Int), v2 = .int .i64 x2_1 ∧ v3 = .int .i64 x3_1 ∧ Aside0 (slices_Reverse_int_int.l0 kq x0_1 x2_1 x3_1 = some r) ∧ Aside0 (kq ≤ k) ∧ Aside0 (Kd.R (Kd.int .i64) 3 w' w0.heap.size (fun k_ => (P0_ k_ ∨ w.heap.size ≤ k_)) (.slice Ao2 l0.length co2) x0_1) ∧ Aside0 (Kept w w' (fun k_ => P0_ k_)) ∧ Aside0 (Below w0.heap.size w0 w'))
 case atStart => exact ⟨(l0), (0), (wrap64 ((l0.length : Int) - 1)), (by first | rfl | (simp; done) | (simp [*]; done)), (by first | rfl | (simp; done) | (simp [*]; done)), H', ⟨Nat.le_refl _⟩, ⟨by (with_reducible repeat (first | apply Kd.R_alloc | apply Kd.R_drewN | apply Kd.R_drew)); exact HO0.out⟩, ⟨by repeat (first | (with_reducible first | exact HK.out | apply Kept.alloc | apply Kept.drewN | apply Kept.drew) | exact HK.out)⟩, ⟨by repeat (first | (with_reducible first | exact HB.out | apply below_alloc | apply pw_below_drewN | apply below_drew1) | exact HB.out)⟩⟩
 case round =>
  clear H'
  try clear c1
  try clear p2
  obtain ⟨x0_1, x2_1, x3_1, rfl, rfl, HA, HK1, HO_0, HK, HB⟩ := hrel
  have hl0_1 := (Kd.R_reads' HO_0.out).1
  rw [hl0_1] at HO_0
  (try simp only [hl0_1])
  cases gk with
  | zero => exact absurd HA.out (by simp [slices_Reverse_int_int.l0])
  | succ k1 =>
   have H := HA.out
   clear HA
   simp only [slices_Reverse_int_int.l0] at H
   by_cases c3 : x2_1 < x3_1
   ·rw [if_pos c3] at H
    have c3b0 : decide (x2_1 < x3_1) = true := decide_eq_true c3
    clear c3
    by_cases c4 : 0 ≤ x3_1
    ·rw [if_pos c4] at H
     have c4b0 : decide (0 ≤ x3_1) = true := decide_eq_true c4
     clear c4
     by_cases c5 : x3_1 < (x0_1.length : Int)
     ·rw [if_pos c5] at H
      have c5b0 : decide (x3_1 < (x0_1.length : Int)) = true := decide_eq_true c5
      clear c5
      by_cases c6 : 0 ≤ x2_1
      ·rw [if_pos c6] at H
       have c6b0 : decide (0 ≤ x2_1) = true := decide_eq_true c6
       clear c6
       by_cases c7 : x2_1 < (x0_1.length : Int)
       ·rw [if_pos c7] at H
        have c7b0 : decide (x2_1 < (x0_1.length : Int)) = true := decide_eq_true c7
        clear c7
        obtain ⟨y269, hy269⟩ : ∃ y_ : List Int, y_ = (x0_1.set (x2_1 : Int).toNat (rd x0_1 x3_1)) := ⟨_, rfl⟩
        replace H : (slices_Reverse_int_int.l0 k1 (y269.set (x3_1 : Int).toNat (rd x0_1 x2_1)) (wrap64 (x2_1 + 1)) (wrap64 (x3_1 - 1))) = some r := by first | (rw [hy269]; with_reducible exact H) | (have H2_ := (Option.bind_some _ _).symm.trans H; rw [hy269]; with_reducible exact H2_) | (have H2_ := (Option.bind_some _ _).symm.trans H; with_reducible exact H2_) | with_reducible exact H | (rw [hy269]; exact H) | exact H
        have Ny269 := Aside0.mk hy269
        clear hy269
        obtain ⟨y270, hy270⟩ : ∃ y_ : List Int, y_ = (y269.set (x3_1 : Int).toNat (rd x0_1 x2_1)) := ⟨_, rfl⟩
        replace H : (slices_Reverse_int_int.l0 k1 y270 (wrap64 (x2_1 + 1)) (wrap64 (x3_1 - 1))) = some r := by first | (rw [hy270]; with_reducible exact H) | (have H2_ := (Option.bind_some _ _).symm.trans H; rw [hy270]; with_reducible exact H2_) | (have H2_ := (Option.bind_some _ _).symm.trans H; with_reducible exact H2_) | with_reducible exact H | (rw [hy270]; exact H) | exact H
        have Ny270 := Aside0.mk hy270
        clear hy270
        have H' := Aside0.mk H
        clear H
        try go_wp2
        have n0_ := Aside0.mk (Kd.R_drew HO_0.out)
        have n1_ := Aside0.mk (Kept.drew HK.out)
        have n2_ := Aside0.mk (below_drew1 HB.out)
        clear HO_0
        clear HK
        clear HB
        have HO_0 := n0_
        have HK := n1_
        have HB := n2_
        clear n0_ n1_ n2_
        have p267 : 0 ≤ (x3_1 : Int) := of_decide_eq_true (by first | (with_reducible assumption) | assumption)
        have q267 : x3_1 < (x0_1.length : Int) := of_decide_eq_true (by first | (with_reducible assumption) | assumption)
        obtain ⟨ad267, e267, hx267_0⟩ := Kd.at_int (Kd.R_reads' HO_0.out).2.2 x3_1 p267 q267
        cases e267
        replace p267 := eq_true p267
        replace q267 := eq_true q267
        have p268 : 0 ≤ (x2_1 : Int) := of_decide_eq_true (by first | (with_reducible assumption) | assumption)
        have q268 : x2_1 < (x0_1.length : Int) := of_decide_eq_true (by first | (with_reducible assumption) | assumption)
        obtain ⟨ad268, e268, hx268_0⟩ := Kd.at_int (Kd.R_reads' HO_0.out).2.2 x2_1 p268 q268
        obtain rfl : ad267 = ad268 := (by injection e268)
        replace p268 := eq_true p268
        replace q268 := eq_true q268
        have p8 : 0 ≤ (x2_1 : Int) := of_decide_eq_true (by first | (with_reducible assumption) | assumption)
        have q8 : (x2_1 : Int) < ((x0_1.length : Int) : Int) := of_decide_eq_true (by first | (with_reducible assumption) | assumption)
        obtain ⟨go8, co8, eo8, gb8, gl8, cl8, HG8⟩ := Kd.R_form HO_0.out (by omega)
        (first | cases eo8 | (injection eo8 with ea_ en_ ec_; (first | subst ea_ | (injection ea_ with ea_; subst ea_)); subst ec_; clear en_))
        have GB8 := Aside0.mk gb8
        have GG8 := Aside0.mk HG8
        clear gb8 gl8 HG8
        have HMgo8 := Aside0.mk (show (P0_ go8 ∨ w.heap.size ≤ go8) from (HO_0.out.1 _ rfl))
        (first | simp only [add_plain] at hx267_0 | skip)
        (first | simp only [add_plain] at hx268_0 | skip)
        obtain ⟨hx8_0, hf8_0⟩ := Kd.R_celln 0 HO_0.out (x2_1 : Int) p8 q8
        replace p8 := eq_true p8
        replace q8 := eq_true q8
        have HP11 := Kd.R_putn HO_0.out (x2_1 : Int) (rd x0_1 x3_1)
        rw [← Ny269.out] at HP11
        have HQ11 := Aside0.mk HP11
        clear HP11
        have p9 : 0 ≤ (x3_1 : Int) := of_decide_eq_true (by first | (with_reducible assumption) | assumption)
        have q9 : (x3_1 : Int) < ((x0_1.length : Int) : Int) := of_decide_eq_true (by first | (with_reducible assumption) | assumption)
        obtain ⟨hx9_0, hf9_0⟩ := Kd.R_celln 0 HQ11.out (x3_1 : Int) p9 q9
        replace p9 := eq_true p9
        replace q9 := eq_true q9
        have HP12 := Kd.R_putn HQ11.out (x3_1 : Int) (rd x0_1 x2_1)
        rw [← Ny270.out] at HP12
        have HQ12 := Aside0.mk HP12
        clear HP12
        refine start_ (n := 16) (S := fun w' => w'.cell? ⟨go8, (x3_1).toNat, none⟩ = some (.int .i64 (rd x0_1 x3_1)) ∧ w'.cell? ⟨go8, (x2_1).toNat, none⟩ = some (.int .i64 (rd x0_1 x2_1))) (ds := [13, 15]) #[false, false, false, false, false, false, false, false, false, false, false, false, false, false, false, false] (by kernel_rfl) rfl rfl ⟨hx267_0, hx268_0⟩ (fun hHeld => ?_); refine with_tabW slices_Reverse_int_int.tab3 slices_Reverse_int_int.bits3 (fun HT_ HW_ => ?_)
        generalize wr.drew = w10 at HO_0 HK HB GG8 HQ11 HQ12 hf8_0 hf9_0 hx267_0 hx268_0 hx8_0 hx9_0 hHeld ⊢
        refine pure_ (i := 0) (N := some 14) (v := ?_) (a' := ?_) #[true, false, false, false, false, false, false, false, false, false, false, false, false, false, false, false] rfl rfl (any_of HT_.out (by kernel_rfl)) (fun _ _ _ h => h) (Or.inl ⟨by rfl, ?_⟩) ?_ ?_
        rotate_left
        ·intro w'
         go_simp
         with_reducible rfl
        rotate_left
        ·simp only [Act.put, List.setIfInBounds_toArray, List.set_cons_zero, List.set_cons_succ, i64_w, i32_w]
         rfl
        refine pure_ (i := 1) (N := some 15) (v := ?_) (a' := ?_) #[true, true, false, false, false, false, false, false, false, false, false, false, false, false, false, false] rfl rfl (any_of HT_.out (by kernel_rfl)) (fun _ _ _ h => h) (Or.inl ⟨by rfl, ?_⟩) ?_ ?_
        rotate_left
        ·intro w'
         go_simp
         with_reducible rfl
        rotate_left
        ·simp only [Act.put, List.setIfInBounds_toArray, List.set_cons_zero, List.set_cons_succ, i64_w, i32_w]
         rfl
        refine pure_ (i := 2) (N := some 16) (v := ?_) (a' := ?_) #[true, true, true, false, false, false, false, false, false, false, false, false, false, false, false, false] rfl rfl (any_of HT_.out (by kernel_rfl)) (fun _ _ _ h => h) (Or.inl ⟨by rfl, ?_⟩) ?_ ?_
        rotate_left
        ·intro w'
         go_simp
         with_reducible rfl
        rotate_left
        ·simp only [Act.put, List.setIfInBounds_toArray, List.set_cons_zero, List.set_cons_succ, i64_w, i32_w]
         rfl
        refine pure_ (i := 3) (N := some 17) (v := ?_) (a' := ?_) #[true, true, true, true, false, false, false, false, false, false, false, false, false, false, false, false] rfl rfl (any_of HT_.out (by kernel_rfl)) (fun _ _ _ h => h) (Or.inl ⟨by rfl, ?_⟩) ?_ ?_
        rotate_left
        ·intro w'
         go_simp
         with_reducible rfl
        rotate_left
        ·simp only [Act.put, List.setIfInBounds_toArray, List.set_cons_zero, List.set_cons_succ, i64_w, i32_w]
         rfl
        refine pure_ (i := 4) (N := some 18) (v := ?_) (a' := ?_) #[true, true, true, true, true, false, false, false, false, false, false, false, false, false, false, false] rfl rfl (any_of HT_.out (by kernel_rfl)) (fun _ _ _ h => h) (Or.inl ⟨by rfl, ?_⟩) ?_ ?_
        rotate_left
        ·intro w'
         go_simp
         with_reducible rfl
        rotate_left
        ·simp only [Act.put, List.setIfInBounds_toArray, List.set_cons_zero, List.set_cons_succ, i64_w, i32_w]
         rfl
        refine pure_ (i := 5) (N := some 19) (v := ?_) (a' := ?_) #[true, true, true, true, true, true, false, false, false, false, false, false, false, false, false, false] rfl rfl (any_of HT_.out (by kernel_rfl)) (fun _ _ _ h => h) (Or.inl ⟨by rfl, ?_⟩) ?_ ?_
        rotate_left
        ·intro w'
         go_simp
         with_reducible rfl
        rotate_left
        ·simp only [Act.put, List.setIfInBounds_toArray, List.set_cons_zero, List.set_cons_succ, i64_w, i32_w]
         rfl
        refine pure_ (i := 6) (N := some 20) (v := ?_) (a' := ?_) #[true, true, true, true, true, true, true, false, false, false, false, false, false, false, false, false] rfl rfl (any_of HT_.out (by kernel_rfl)) (fun _ _ _ h => h) (Or.inl ⟨by rfl, ?_⟩) ?_ ?_
        rotate_left
        ·intro w'
         go_simp
         with_reducible rfl
        rotate_left
        ·simp only [Act.put, List.setIfInBounds_toArray, List.set_cons_zero, List.set_cons_succ, i64_w, i32_w]
         rfl
        refine pure_ (i := 8) (N := some 22) (v := ?_) (a' := ?_) #[true, true, true, true, true, true, true, false, true, false, false, false, false, false, false, false] rfl rfl (any_of HT_.out (by kernel_rfl)) (fun _ _ _ h => h) (Or.inl ⟨by rfl, ?_⟩) ?_ ?_
        rotate_left
        ·intro w'
         go_simp
         with_reducible rfl
        rotate_left
        ·simp only [Act.put, List.setIfInBounds_toArray, List.set_cons_zero, List.set_cons_succ, i64_w, i32_w]
         rfl
        refine pure_ (i := 9) (N := some 23) (v := ?_) (a' := ?_) #[true, true, true, true, true, true, true, false, true, true, false, false, false, false, false, false] rfl rfl (any_of HT_.out (by kernel_rfl)) (fun _ _ _ h => h) (Or.inl ⟨by rfl, ?_⟩) ?_ ?_
        rotate_left
        ·intro w'
         go_simp
         with_reducible rfl
        rotate_left
        ·simp only [Act.put, List.setIfInBounds_toArray, List.set_cons_zero, List.set_cons_succ, i64_w, i32_w]
         rfl
        refine pure_ (i := 10) (N := some 24) (v := ?_) (a' := ?_) #[true, true, true, true, true, true, true, false, true, true, true, false, false, false, false, false] rfl rfl (any_of HT_.out (by kernel_rfl)) (fun _ _ _ h => h) (Or.inl ⟨by rfl, ?_⟩) ?_ ?_
        rotate_left
        ·intro w'
         go_simp
         with_reducible rfl
        rotate_left
        ·simp only [Act.put, List.setIfInBounds_toArray, List.set_cons_zero, List.set_cons_succ, i64_w, i32_w]
         rfl
        refine take_ (i := 7) (N := some 21) (v := ?_) (a' := ?_) #[true, true, true, true, true, true, true, true, true, true, true, false, false, false, false, false] rfl rfl (take_ofW HT_.out HW_.out (by kernel_rfl)) (fun _ _ _ h => h) (Or.inl ⟨by rfl, ?_⟩) hHeld ?_ ?_
        rotate_left
        ·rintro w' ⟨s0, s1⟩
         go_simp
         with_reducible rfl
        rotate_left
        ·simp only [Act.put, List.setIfInBounds_toArray, List.set_cons_zero, List.set_cons_succ, i64_w, i32_w]
         rfl
        refine take_ (i := 11) (N := some 25) (v := ?_) (a' := ?_) #[true, true, true, true, true, true, true, true, true, true, true, true, false, false, false, false] rfl rfl (take_ofW HT_.out HW_.out (by kernel_rfl)) (fun _ _ _ h => h) (Or.inl ⟨by rfl, ?_⟩) hHeld ?_ ?_
        rotate_left
        ·rintro w' ⟨s0, s1⟩
         go_simp
         with_reducible rfl
        rotate_left
        ·simp only [Act.put, List.setIfInBounds_toArray, List.set_cons_zero, List.set_cons_succ, i64_w, i32_w]
         rfl
        refine pure_ (i := 12) (N := some 26) (v := ?_) (a' := ?_) #[true, true, true, true, true, true, true, true, true, true, true, true, true, false, false, false] rfl rfl (any_of HT_.out (by kernel_rfl)) (fun _ _ _ h => h) (Or.inl ⟨by rfl, ?_⟩) ?_ ?_
        rotate_left
        ·intro w'
         go_simp
         with_reducible rfl
        rotate_left
        ·simp only [Act.put, List.setIfInBounds_toArray, List.set_cons_zero, List.set_cons_succ, i64_w, i32_w]
         rfl
        refine last_ (i := 13) (N := none) #[true, true, true, true, true, true, true, true, true, true, true, true, true, true, false, false] rfl rfl (one_of HT_.out (by kernel_rfl)) (by decide) (fun K hK => ?_)
        refine skip_ (w1 := ?_) (by rfl) rfl ?_ ?_
        rotate_left
        ·go_simp
         rfl
        refine hK.out _ _ ?_
        clear hK K
        refine pure_ (i := 14) (N := some 27) (v := ?_) (a' := ?_) #[true, true, true, true, true, true, true, true, true, true, true, true, true, true, true, false] rfl rfl (any_of HT_.out (by kernel_rfl)) (fun _ _ _ h => h) (Or.inl ⟨by rfl, ?_⟩) ?_ ?_
        rotate_left
        ·intro w'
         go_simp
         with_reducible rfl
        rotate_left
        ·simp only [Act.put, List.setIfInBounds_toArray, List.set_cons_zero, List.set_cons_succ, i64_w, i32_w]
         rfl
        refine last_ (i := 15) (N := none) #[true, true, true, true, true, true, true, true, true, true, true, true, true, true, true, true] rfl rfl (one_of HT_.out (by kernel_rfl)) (by decide) (fun K hK => ?_)
        refine skip_ (w1 := ?_) (by rfl) rfl ?_ ?_
        rotate_left
        ·go_simp
         rfl
        refine hK.out _ _ ?_
        clear hK K
        refine done_ (done_of HT_.out (by kernel_rfl)) ?_
        try go_wp2
        (try simp only [← hl0_1])
        go_roundg k1
        case measure => have := HK1.out; omega
        case rel => exact ⟨(y270), (wrap64 (x2_1 + 1)), (wrap64 (x3_1 - 1)), (by first | rfl | (simp; done) | (simp [*]; done)), (by first | rfl | (simp; done) | (simp [*]; done)), H', ⟨by have := HK1.out; omega⟩, ⟨by (try simp only [hl0_1]); (with_reducible repeat (first | apply Kd.R_alloc | apply Kd.R_drewN | apply Kd.R_drew)); exact HQ12.out⟩, ⟨by repeat (first | (with_reducible first | exact HK.out | apply Kept.alloc | apply Kept.drewN | apply Kept.drew | refine Kept.setCell ?_ HMgo8.out _ | refine Kept.setCell ?_ HMgo8.out _) | exact HK.out)⟩, ⟨by repeat (first | (with_reducible first | exact HB.out | apply below_alloc | apply pw_below_drewN | apply below_drew1 | refine below_set ?_ GB8.out | refine below_set ?_ GB8.out) | exact HB.out)⟩⟩
       ·rw [if_neg c7] at H
        exact absurd H (by simp)
      ·rw [if_neg c6] at H
       exact absurd H (by simp)
     ·rw [if_neg c5] at H
      exact absurd H (by simp)
    ·rw [if_neg c4] at H
     exact absurd H (by simp)
   ·rw [if_neg c3] at H
    have c3b0 : decide (x2_1 < x3_1) = false := decide_eq_false c3
    clear c3
    obtain rfl := Option.some.inj H
    go_wp2
    first | go_end0 | ((try simp only [Exit.inBlock, Exit.then]); refine bodyPost_ret (results_none rfl _ _ _) rfl ?_)
    exact ⟨by first | rfl | (simp [errW_none, errW_some] <;> rfl) | (simp [*, errW_none, errW_some] <;> rfl), (by first | exact (by (with_reducible repeat (first | apply Kd.R_alloc | apply Kd.R_drewN | apply Kd.R_drew)); exact HO_0.out) | (simp only [hl0_1]; exact (by (with_reducible repeat (first | apply Kd.R_alloc | apply Kd.R_drewN | apply Kd.R_drew)); exact HO_0.out))), by repeat (first | (with_reducible first | exact HB.out | apply below_alloc | apply pw_below_drewN | apply below_drew1) | exact HB.out), by repeat (first | (with_reducible first | exact HK.out | apply Kept.alloc | apply Kept.drewN | apply Kept.drew) | exact HK.out)⟩

end Go.Proofs.Ytgpoljimomfbbaa.P

-- PFvHas
namespace Go.Proofs.Ytgpoljimomfbbaa.P
open Go.RowKit Go.Proofs.YtgpoljimomfbbaaW.PrintWords Go.Proofs.YtgpoljimomfbbaaW.PrintLast
set_option linter.unusedVariables false
set_option linter.unusedSimpArgs false

/-! ### laws_vHas: function 31 -/
def laws_vHas.l0 : Nat → List Int → List (List Int) → Int → Int → Option (Bool)
 | 0, _, _, _, _ => none
 | k + 1, x1, x7, x8, x9 => if x9 < x8 then (if 0 ≤ x9 then (if x9 < (x7.length : Int) then ((laws_vSame.f k x1 (rd_L1 x7 x9)).bind fun t452 => (if t452 = true then (some true) else (laws_vHas.l0 k x1 x7 x8 (wrap64 (x9 + 1))))) else (none)) else (none)) else (some false)
def laws_vHas.f (k : Nat) (l0 : List (List Int)) (l1 : List Int) : Option (Bool) := laws_vHas.l0 k l1 l0 (l0.length : Int) 0
theorem laws_vHas.mono_l : ∀ k, (∀ y0 y1 y2 y3, LeO (laws_vHas.l0 k y0 y1 y2 y3) (laws_vHas.l0 (k + 1) y0 y1 y2 y3))
 | 0 => fun _ _ _ _ r h => by simp [laws_vHas.l0] at h
 | k + 1 => by
  have ih0 := laws_vHas.mono_l k
  ·intro y0 y1 y2 y3
   unfold laws_vHas.l0
   repeat' first
   | (with_reducible exact ih0 _ _ _ _)
   | (with_reducible exact laws_vSame.mono _ _ _)
   | (with_reducible exact LeO.refl _)
   | (with_reducible exact LeO.none _)
   | (with_reducible refine LeO.ite ?_ ?_)
   | (with_reducible refine LeO.bind ?_ (fun _ => ?_))
   | exact ih0 _ _ _ _
   | exact laws_vSame.mono _ _ _
   | exact LeO.none _
   | refine LeO.ite ?_ ?_
   | refine LeO.bind ?_ (fun _ => ?_)
theorem laws_vHas.mono : ∀ a0 a1 k, LeO (laws_vHas.f k a0 a1) (laws_vHas.f (k + 1) a0 a1) := by
 intro a0 a1 k
 have ih0 := laws_vHas.mono_l k
 unfold laws_vHas.f
 repeat' first
   | (with_reducible exact ih0 _ _ _ _)
   | (with_reducible exact laws_vSame.mono _ _ _)
   | (with_reducible exact LeO.refl _)
   | (with_reducible exact LeO.none _)
   | (with_reducible refine LeO.ite ?_ ?_)
   | (with_reducible refine LeO.bind ?_ (fun _ => ?_))
   | exact ih0 _ _ _ _
   | exact laws_vSame.mono _ _ _
   | exact LeO.none _
   | refine LeO.ite ?_ ?_
   | refine LeO.bind ?_ (fun _ => ?_)
set_option maxHeartbeats 8000000 in
set_option maxRecDepth 100000 in
theorem laws_vHas.calls (k : Nat) (A0 : Option Addr) (c0 : Nat) (l0 : List (List Int)) (A1 : Option Addr) (c1 : Nat) (l1 : List Int) (r : Bool) (w : World) (hr0 : Kd.C (Kd.slice 3 (Kd.int .i64)) w A0 l0.length l0) (hc0 : l0.length ≤ c0) (hr1 : Kd.C (Kd.int .i64) w A1 l1.length l1) (hc1 : l1.length ≤ c1) (h : laws_vHas.f k l0 l1 = some r) :
  Calls Try.prog 31 #[.slice A0 l0.length c0, .slice A1 l1.length c1] w fun e w' => e = .returned (.bool r) ∧ Drawn0 w w' := by
 have HR0 := Aside0.mk hr0
 have HC0 := Aside0.mk hc0
 clear hr0 hc0
 have HR1 := Aside0.mk hr1
 have HC1 := Aside0.mk hc1
 clear hr1 hc1
 have H : (laws_vHas.l0 k l1 l0 (l0.length : Int) 0) = some r := h
 clear h
 have H' := Aside0.mk H
 clear H
 go_enter Try.func31, Try.ntmps31
 go_wp2
 go_loopg [9] k (fun kq v9 w' => ∃ (x9_1 : Int), v9 = .int .i64 x9_1 ∧ Aside0 (laws_vHas.l0 kq l1 l0 (l0.length : Int) x9_1 = some r) ∧ Aside0 (kq ≤ k) ∧ Drawn0 w w')
 case atStart => exact ⟨(0), (by first | rfl | (simp; done) | (simp [*]; done)), H', ⟨Nat.le_refl _⟩, by repeat (first | exact Drawn0.refl _ | apply Drawn0.step)⟩
 case round =>
  clear H'
  try clear c1
  try clear p2
  obtain ⟨x9_1, rfl, HA, HK1, ⟨m1, rfl⟩⟩ := hrel
  cases gk with
  | zero => exact absurd HA.out (by simp [laws_vHas.l0])
  | succ k1 =>
   have H := HA.out
   clear HA
   simp only [laws_vHas.l0] at H
   by_cases c3 : x9_1 < (l0.length : Int)
   ·rw [if_pos c3] at H
    have c3b0 : decide (x9_1 < (l0.length : Int)) = true := decide_eq_true c3
    clear c3
    by_cases c4 : 0 ≤ x9_1
    ·rw [if_pos c4] at H
     have c4b0 : decide (0 ≤ x9_1) = true := decide_eq_true c4
     clear c4
     by_cases c5 : x9_1 < (l0.length : Int)
     ·rw [if_pos c5] at H
      have c5b0 : decide (x9_1 < (l0.length : Int)) = true := decide_eq_true c5
      clear c5
      replace H := Option.bind_eq_some_iff.mp H
      obtain ⟨t452, A60, H⟩ := H
      replace H : (if t452 = true then (some true) else (laws_vHas.l0 k1 l1 l0 (l0.length : Int) (wrap64 (x9_1 + 1)))) = some r := H
      have A6 := Aside0.mk A60
      clear A60
      by_cases c7 : t452 = true
      ·subst c7
       have H1 : (some true) = some r := by rw [if_pos rfl] at H; exact H
       clear H
       have H := H1
       clear H1
       obtain rfl := Option.some.inj H
       have p451 : 0 ≤ (x9_1 : Int) := of_decide_eq_true (by first | (with_reducible assumption) | assumption)
       have q451 : x9_1 < (l0.length : Int) := of_decide_eq_true (by first | (with_reducible assumption) | assumption)
       obtain ⟨ad451, A451_0, c451_0, e451, hx451_0, hl451_0, hi451_0⟩ := at_L1 HR0.out x9_1 p451 q451
       cases e451
       have HR451_0 := Aside0.mk hi451_0
       have HC451_0 := Aside0.mk hl451_0
       clear hi451_0 hl451_0
       replace p451 := eq_true p451
       replace q451 := eq_true q451
       go_wp2_with (first | ((with_reducible refine gate_callee (f := 29) rfl ?_); refine goesL_ (some 15) rfl rfl Try.func29 (by kernel_rfl) rfl #[.slice A1 l1.length c1, .slice A451_0 (rd_L1 l0 x9_1).length c451_0] rfl (by (try simp only [List.map_toArray, List.map_cons, List.map_nil]); first | done | rfl | (simp only [List.length_drop, List.length_take]; rfl)) ?_; (with_reducible refine (laws_vSame.calls k1 _ _ l1 _ _ (rd_L1 l0 x9_1) true _ ?side1 ?side2 ?side3 ?side4 A6.out).mono ?_); (case side1 => repeat (first | exact HR1.out | (with_reducible refine Kd.C_alloc ?_ _) | (with_reducible refine Kd.C_drewN ?_ _) | (with_reducible refine Kd.C_drew ?_))); (case side2 => exact HC1.out); (case side3 => repeat (first | exact HR451_0.out | (with_reducible refine Kd.C_alloc ?_ _) | (with_reducible refine Kd.C_drewN ?_ _) | (with_reducible refine Kd.C_drew ?_))); (case side4 => exact HC451_0.out); rintro e w' ⟨rfl, ⟨nd, rfl⟩⟩; refine ⟨_, rfl, ?_⟩))
       go_ret
       exact ⟨by first | rfl | (simp; done) | (simp [*]; done), by repeat (first | exact Drawn0.refl _ | apply Drawn0.step)⟩
      ·replace c7 := Bool.eq_false_iff.mpr c7
       subst c7
       have H1 : (laws_vHas.l0 k1 l1 l0 (l0.length : Int) (wrap64 (x9_1 + 1))) = some r := by rw [if_neg (show ¬ (false = true) by decide)] at H; exact H
       clear H
       have H := H1
       clear H1
       have H' := Aside0.mk H
       clear H
       have p451 : 0 ≤ (x9_1 : Int) := of_decide_eq_true (by first | (with_reducible assumption) | assumption)
       have q451 : x9_1 < (l0.length : Int) := of_decide_eq_true (by first | (with_reducible assumption) | assumption)
       obtain ⟨ad451, A451_0, c451_0, e451, hx451_0, hl451_0, hi451_0⟩ := at_L1 HR0.out x9_1 p451 q451
       cases e451
       have HR451_0 := Aside0.mk hi451_0
       have HC451_0 := Aside0.mk hl451_0
       clear hi451_0 hl451_0
       replace p451 := eq_true p451
       replace q451 := eq_true q451
       go_wp2_with (first | ((with_reducible refine gate_callee (f := 29) rfl ?_); refine goesL_ (some 15) rfl rfl Try.func29 (by kernel_rfl) rfl #[.slice A1 l1.length c1, .slice A451_0 (rd_L1 l0 x9_1).length c451_0] rfl (by (try simp only [List.map_toArray, List.map_cons, List.map_nil]); first | done | rfl | (simp only [List.length_drop, List.length_take]; rfl)) ?_; (with_reducible refine (laws_vSame.calls k1 _ _ l1 _ _ (rd_L1 l0 x9_1) false _ ?side1 ?side2 ?side3 ?side4 A6.out).mono ?_); (case side1 => repeat (first | exact HR1.out | (with_reducible refine Kd.C_alloc ?_ _) | (with_reducible refine Kd.C_drewN ?_ _) | (with_reducible refine Kd.C_drew ?_))); (case side2 => exact HC1.out); (case side3 => repeat (first | exact HR451_0.out | (with_reducible refine Kd.C_alloc ?_ _) | (with_reducible refine Kd.C_drewN ?_ _) | (with_reducible refine Kd.C_drew ?_))); (case side4 => exact HC451_0.out); rintro e w' ⟨rfl, ⟨nd, rfl⟩⟩; refine ⟨_, rfl, ?_⟩))
       go_roundg k1
       case measure => have := HK1.out; omega
       case rel => exact ⟨(wrap64 (x9_1 + 1)), (by first | rfl | (simp; done) | (simp [*]; done)), H', ⟨by have := HK1.out; omega⟩, by repeat (first | exact Drawn0.refl _ | apply Drawn0.step)⟩
     ·rw [if_neg c5] at H
      exact absurd H (by simp)
    ·rw [if_neg c4] at H
     exact absurd H (by simp)
   ·rw [if_neg c3] at H
    have c3b0 : decide (x9_1 < (l0.length : Int)) = false := decide_eq_false c3
    clear c3
    obtain rfl := Option.some.inj H
    go_wp2
    go_ret
    exact ⟨by first | rfl | (simp; done) | (simp [*]; done), by repeat (first | exact Drawn0.refl _ | apply Drawn0.step)⟩

end Go.Proofs.Ytgpoljimomfbbaa.P

-- PFvBefore
namespace Go.Proofs.Ytgpoljimomfbbaa.P
open Go.RowKit Go.Proofs.YtgpoljimomfbbaaW.PrintWords Go.Proofs.YtgpoljimomfbbaaW.PrintLast
set_option linter.unusedVariables false
set_option linter.unusedSimpArgs false

/-! ### laws_vBefore: function 32 -/
mutual
def laws_vBefore.l0 : Nat → List Int → List Int → Int → Option (Bool)
 | 0, _, _, _ => none
 | k + 1, x0, x1, x5 => if x5 < (x0.length : Int) then (laws_vBefore.j1 k x0 x1 x5 (decide (x5 < (x1.length : Int)))) else (laws_vBefore.j1 k x0 x1 x5 false)
def laws_vBefore.j1 : Nat → List Int → List Int → Int → Bool → Option (Bool)
 | 0, _, _, _, _ => none
 | k + 1, x0, x1, x5, x15 => if x15 = true then (if 0 ≤ x5 then (if x5 < (x0.length : Int) then (if x5 < (x1.length : Int) then (if (rd x0 x5) = (rd x1 x5) then (laws_vBefore.l0 k x0 x1 (wrap64 (x5 + 1))) else (some (decide ((rd x0 x5) < (rd x1 x5))))) else (none)) else (none)) else (none)) else (some (decide ((x0.length : Int) < (x1.length : Int))))
end
def laws_vBefore.f (k : Nat) (l0 : List Int) (l1 : List Int) : Option (Bool) := laws_vBefore.l0 k l0 l1 0
theorem laws_vBefore.mono_l : ∀ k, (∀ y0 y1 y2, LeO (laws_vBefore.l0 k y0 y1 y2) (laws_vBefore.l0 (k + 1) y0 y1 y2)) ∧ (∀ y0 y1 y2 y3, LeO (laws_vBefore.j1 k y0 y1 y2 y3) (laws_vBefore.j1 (k + 1) y0 y1 y2 y3))
 | 0 => ⟨fun _ _ _ r h => by simp [laws_vBefore.l0] at h, fun _ _ _ _ r h => by simp [laws_vBefore.j1] at h⟩
 | k + 1 => by
  obtain ⟨ih0, ih1⟩ := laws_vBefore.mono_l k
  refine ⟨?_, ?_⟩
  ·intro y0 y1 y2
   unfold laws_vBefore.l0
   repeat' first
   | (with_reducible exact ih0 _ _ _)
   | (with_reducible exact ih1 _ _ _ _)
   | (with_reducible exact LeO.refl _)
   | (with_reducible exact LeO.none _)
   | (with_reducible refine LeO.ite ?_ ?_)
   | (with_reducible refine LeO.bind ?_ (fun _ => ?_))
   | exact ih0 _ _ _
   | exact ih1 _ _ _ _
   | exact LeO.none _
   | refine LeO.ite ?_ ?_
   | refine LeO.bind ?_ (fun _ => ?_)
  ·intro y0 y1 y2 y3
   unfold laws_vBefore.j1
   repeat' first
   | (with_reducible exact ih0 _ _ _)
   | (with_reducible exact ih1 _ _ _ _)
   | (with_reducible exact LeO.refl _)
   | (with_reducible exact LeO.none _)
   | (with_reducible refine LeO.ite ?_ ?_)
   | (with_reducible refine LeO.bind ?_ (fun _ => ?_))
   | exact ih0 _ _ _
   | exact ih1 _ _ _ _
   | exact LeO.none _
   | refine LeO.ite ?_ ?_
   | refine LeO.bind ?_ (fun _ => ?_)
theorem laws_vBefore.mono : ∀ a0 a1 k, LeO (laws_vBefore.f k a0 a1) (laws_vBefore.f (k + 1) a0 a1) := by
 intro a0 a1 k
 obtain ⟨ih0, ih1⟩ := laws_vBefore.mono_l k
 unfold laws_vBefore.f
 repeat' first
   | (with_reducible exact ih0 _ _ _)
   | (with_reducible exact ih1 _ _ _ _)
   | (with_reducible exact LeO.refl _)
   | (with_reducible exact LeO.none _)
   | (with_reducible refine LeO.ite ?_ ?_)
   | (with_reducible refine LeO.bind ?_ (fun _ => ?_))
   | exact ih0 _ _ _
   | exact ih1 _ _ _ _
   | exact LeO.none _
   | refine LeO.ite ?_ ?_
   | refine LeO.bind ?_ (fun _ => ?_)
set_option maxHeartbeats 8000000 in
set_option maxRecDepth 100000 in
theorem laws_vBefore.calls (k : Nat) (A0 : Option Addr) (c0 : Nat) (l0 : List Int) (A1 : Option Addr) (c1 : Nat) (l1 : List Int) (r : Bool) (w : World) (hr0 : Kd.C (Kd.int .i64) w A0 l0.length l0) (hc0 : l0.length ≤ c0) (hr1 : Kd.C (Kd.int .i64) w A1 l1.length l1) (hc1 : l1.length ≤ c1) (h : laws_vBefore.f k l0 l1 = some r) :
  Calls Try.prog 32 #[.slice A0 l0.length c0, .slice A1 l1.length c1] w fun e w' => e = .returned (.bool r) ∧ Drawn0 w w' := by
 have HR0 := Aside0.mk hr0
 have HC0 := Aside0.mk hc0
 clear hr0 hc0
 have HR1 := Aside0.mk hr1
 have HC1 := Aside0.mk hc1
 clear hr1 hc1
 have H : (laws_vBefore.l0 k l0 l1 0) = some r := h
 clear h
 have H' := Aside0.mk H
 clear H
 go_enter Try.func32, Try.ntmps32
 go_wp2
 repeat (go_quiet (fail); try go_wp2)
 go_loopg [5] k (fun kq v5 w' => ∃ (x5_1 : Int), v5 = .int .i64 x5_1 ∧ Aside0 (laws_vBefore.l0 kq l0 l1 x5_1 = some r) ∧ Aside0 (kq ≤ k) ∧ Drawn0 w w')
 case atStart => exact ⟨(0), (by first | rfl | (simp; done) | (simp [*]; done)), H', ⟨Nat.le_refl _⟩, by repeat (first | exact Drawn0.refl _ | apply Drawn0.step)⟩
 case round =>
  clear H'
  try clear c1
  try clear p2
  obtain ⟨x5_1, rfl, HA, HK1, ⟨m1, rfl⟩⟩ := hrel
  cases gk with
  | zero => exact absurd HA.out (by simp [laws_vBefore.l0])
  | succ k1 =>
   have H := HA.out
   clear HA
   simp only [laws_vBefore.l0] at H
   have HC3 := Aside0.mk H
   clear H
   go_upto_region 2 with (fail)
   repeat (go_quiet (fail); go_upto_region 2 with (fail))
   go_cut [15] (fun v15 wc => ∃ (kq : Nat) (x15_2 : Bool), v15 = .bool x15_2 ∧ Aside0 (laws_vBefore.j1 kq l0 l1 x5_1 x15_2 = some r) ∧ Aside0 (kq ≤ k1) ∧ Drawn0 w wc)
   case first =>
    have H := HC3.out
    clear HC3
    by_cases c4 : x5_1 < (l0.length : Int)
    ·rw [if_pos c4] at H
     have c4b0 : decide (x5_1 < (l0.length : Int)) = true := decide_eq_true c4
     clear c4
     (first | rw [c4b0] | (simp only [i64_w, i32_w]; rw [c4b0]) | skip)
     have H' := Aside0.mk H
     clear H
     go_wp2
     repeat (go_quiet (fail); try go_wp2)
     go_meet
     case rel => exact ⟨_, (decide (x5_1 < (l1.length : Int))), (by first | rfl | (simp; done) | (simp [*]; done)), H', ⟨by have := HK1.out; first | omega | exact Nat.le_refl _⟩, by repeat (first | exact Drawn0.refl _ | apply Drawn0.step)⟩
    ·rw [if_neg c4] at H
     have c4b0 : decide (x5_1 < (l0.length : Int)) = false := decide_eq_false c4
     clear c4
     (first | rw [c4b0] | (simp only [i64_w, i32_w]; rw [c4b0]) | skip)
     have H' := Aside0.mk H
     clear H
     go_wp2
     repeat (go_quiet (fail); try go_wp2)
     go_meet
     case rel => exact ⟨_, (false), (by first | rfl | (simp; done) | (simp [*]; done)), H', ⟨by have := HK1.out; first | omega | exact Nat.le_refl _⟩, by repeat (first | exact Drawn0.refl _ | apply Drawn0.step)⟩
   case rest =>
    clear HC3
    try clear c1
    try clear p2
    try clear c3
    try clear c4
    try clear c4b0
    try clear p2
    obtain ⟨kq, x15_2, rfl, HA, HJ2, ⟨mc2, rfl⟩⟩ := hcut
    cases kq with
    | zero => exact absurd HA.out (by simp [laws_vBefore.j1])
    | succ kj2 =>
     have H := HA.out
     clear HA
     simp only [laws_vBefore.j1] at H
     by_cases c5 : x15_2 = true
     ·subst c5
      have H1 : (if 0 ≤ x5_1 then (if x5_1 < (l0.length : Int) then (if x5_1 < (l1.length : Int) then (if (rd l0 x5_1) = (rd l1 x5_1) then (laws_vBefore.l0 kj2 l0 l1 (wrap64 (x5_1 + 1))) else (some (decide ((rd l0 x5_1) < (rd l1 x5_1))))) else (none)) else (none)) else (none)) = some r := by rw [if_pos rfl] at H; exact H
      clear H
      have H := H1
      clear H1
      by_cases c6 : 0 ≤ x5_1
      ·rw [if_pos c6] at H
       have c6b0 : decide (0 ≤ x5_1) = true := decide_eq_true c6
       clear c6
       by_cases c7 : x5_1 < (l0.length : Int)
       ·rw [if_pos c7] at H
        have c7b0 : decide (x5_1 < (l0.length : Int)) = true := decide_eq_true c7
        clear c7
        by_cases c8 : x5_1 < (l1.length : Int)
        ·rw [if_pos c8] at H
         have c8b0 : decide (x5_1 < (l1.length : Int)) = true := decide_eq_true c8
         clear c8
         by_cases c9 : (rd l0 x5_1) = (rd l1 x5_1)
         ·rw [if_pos c9] at H
          have c9b0 : ((rd l0 x5_1) == (rd l1 x5_1)) = true := beq_iff_eq.mpr c9
          have c9b1 : ((rd l0 x5_1) != (rd l1 x5_1)) = false := bne_eq_false_iff_eq.mpr c9
          clear c9
          have H' := Aside0.mk H
          clear H
          have p453 : 0 ≤ (x5_1 : Int) := of_decide_eq_true (by first | (with_reducible assumption) | assumption)
          have q453 : x5_1 < (l0.length : Int) := of_decide_eq_true (by first | (with_reducible assumption) | assumption)
          obtain ⟨ad453, e453, hx453_0⟩ := Kd.at_int HR0.out x5_1 p453 q453
          cases e453
          replace p453 := eq_true p453
          replace q453 := eq_true q453
          have p454 : 0 ≤ (x5_1 : Int) := of_decide_eq_true (by first | (with_reducible assumption) | assumption)
          have q454 : x5_1 < (l1.length : Int) := of_decide_eq_true (by first | (with_reducible assumption) | assumption)
          obtain ⟨ad454, e454, hx454_0⟩ := Kd.at_int HR1.out x5_1 p454 q454
          cases e454
          replace p454 := eq_true p454
          replace q454 := eq_true q454
          go_wp2
          repeat (go_quiet (fail); try go_wp2)
          go_roundg kj2
          case measure => have := HK1.out; have := HJ2.out; omega
          case rel => exact ⟨(wrap64 (x5_1 + 1)), (by first | rfl | (simp; done) | (simp [*]; done)), H', ⟨by have := HK1.out; have := HJ2.out; omega⟩, by repeat (first | exact Drawn0.refl _ | apply Drawn0.step)⟩
         ·rw [if_neg c9] at H
          have c9b0 : ((rd l0 x5_1) == (rd l1 x5_1)) = false := beq_eq_false_iff_ne.mpr c9
          have c9b1 : ((rd l0 x5_1) != (rd l1 x5_1)) = true := bne_iff_ne.mpr c9
          obtain rfl := Option.some.inj H
          have p453 : 0 ≤ (x5_1 : Int) := of_decide_eq_true (by first | (with_reducible assumption) | assumption)
          have q453 : x5_1 < (l0.length : Int) := of_decide_eq_true (by first | (with_reducible assumption) | assumption)
          obtain ⟨ad453, e453, hx453_0⟩ := Kd.at_int HR0.out x5_1 p453 q453
          cases e453
          replace p453 := eq_true p453
          replace q453 := eq_true q453
          have p454 : 0 ≤ (x5_1 : Int) := of_decide_eq_true (by first | (with_reducible assumption) | assumption)
          have q454 : x5_1 < (l1.length : Int) := of_decide_eq_true (by first | (with_reducible assumption) | assumption)
          obtain ⟨ad454, e454, hx454_0⟩ := Kd.at_int HR1.out x5_1 p454 q454
          cases e454
          replace p454 := eq_true p454
          replace q454 := eq_true q454
          have p455 : 0 ≤ (x5_1 : Int) := of_decide_eq_true (by first | (with_reducible assumption) | assumption)
          have q455 : x5_1 < (l0.length : Int) := of_decide_eq_true (by first | (with_reducible assumption) | assumption)
          obtain ⟨ad455, e455, hx455_0⟩ := Kd.at_int HR0.out x5_1 p455 q455
          obtain rfl : ad453 = ad455 := (by injection e455)
          replace p455 := eq_true p455
          replace q455 := eq_true q455
          have p456 : 0 ≤ (x5_1 : Int) := of_decide_eq_true (by first | (with_reducible assumption) | assumption)
          have q456 : x5_1 < (l1.length : Int) := of_decide_eq_true (by first | (with_reducible assumption) | assumption)
          obtain ⟨ad456, e456, hx456_0⟩ := Kd.at_int HR1.out x5_1 p456 q456
          obtain rfl : ad454 = ad456 := (by injection e456)
          replace p456 := eq_true p456
          replace q456 := eq_true q456
          go_wp2
          repeat (go_quiet (fail); try go_wp2)
          go_ret
          exact ⟨by first | rfl | (simp; done) | (simp [*]; done), by repeat (first | exact Drawn0.refl _ | apply Drawn0.step)⟩
        ·rw [if_neg c8] at H
         exact absurd H (by simp)
       ·rw [if_neg c7] at H
        exact absurd H (by simp)
      ·rw [if_neg c6] at H
       exact absurd H (by simp)
     ·replace c5 := Bool.eq_false_iff.mpr c5
      subst c5
      have H1 : (some (decide ((l0.length : Int) < (l1.length : Int)))) = some r := by rw [if_neg (show ¬ (false = true) by decide)] at H; exact H
      clear H
      have H := H1
      clear H1
      obtain rfl := Option.some.inj H
      go_wp2
      repeat (go_quiet (fail); try go_wp2)
      go_ret
      exact ⟨by first | rfl | (simp; done) | (simp [*]; done), by repeat (first | exact Drawn0.refl _ | apply Drawn0.step)⟩

end Go.Proofs.Ytgpoljimomfbbaa.P

-- PFmarkIntS
namespace Go.Proofs.Ytgpoljimomfbbaa.P
open Go.RowKit Go.Proofs.YtgpoljimomfbbaaW.PrintWords Go.Proofs.YtgpoljimomfbbaaW.PrintLast
set_option linter.unusedVariables false
set_option linter.unusedSimpArgs false

/-! ### laws_markIntS: function 14 -/
end Go.Proofs.Ytgpoljimomfbbaa.P

-- PFheldIntS
namespace Go.Proofs.Ytgpoljimomfbbaa.P
open Go.RowKit Go.Proofs.YtgpoljimomfbbaaW.PrintWords Go.Proofs.YtgpoljimomfbbaaW.PrintLast
set_option linter.unusedVariables false
set_option linter.unusedSimpArgs false

/-! ### laws_heldIntS: function 53 -/
end Go.Proofs.Ytgpoljimomfbbaa.P

-- UmarkIntS
namespace Go.Proofs.Ytgpoljimomfbbaa.P
set_option linter.unusedVariables false
set_option linter.unusedSimpArgs false
open Go.RowKit Go.Proofs.YtgpoljimomfbbaaW.PrintWords Go.Proofs.YtgpoljimomfbbaaW.PrintLast

end Go.Proofs.Ytgpoljimomfbbaa.P

-- GmarkIntSS
namespace Go.Proofs.Ytgpoljimomfbbaa.P
open Go.RowKit Go.Proofs.YtgpoljimomfbbaaW.PrintWords Go.Proofs.YtgpoljimomfbbaaW.PrintLast
set_option linter.unusedVariables false
set_option linter.unusedSimpArgs false

abbrev KII : Kd (List Int) := Kd.slice 3 (Kd.int .i64)
end Go.Proofs.Ytgpoljimomfbbaa.P

-- UrowsSS
namespace Go.Proofs.Ytgpoljimomfbbaa.P
set_option linter.unusedVariables false
set_option linter.unusedSimpArgs false
open Go.RowKit Go.Proofs.YtgpoljimomfbbaaW.PrintWords Go.Proofs.YtgpoljimomfbbaaW.PrintLast

/-- Two values that lead to one block are no two rows of ours. -/
def Apart (u v : Value) : Prop := ∀ k, u.ownBlock = some k → v.ownBlock ≠ some k
theorem Apart.symm {u v : Value} (h : Apart u v) : Apart v u := fun k hv hu => h k hu hv
/-- The values of a row of rows. -/
structure RowVals (w : World) (base : Nat) (ok : Nat → Prop) (vs : List Value) (L : List (List Int)) : Prop where
  len : vs.length = L.length
  row : ∀ (j : Nat) (u : Value) (x : List Int), vs[j]? = some u → L[j]? = some x → Kd.R (Kd.int .i64) 3 w base ok u x
  apart : vs.Pairwise Apart
theorem S_vals {w : World} {base : Nat} {ok : Nat → Prop} {v : Value} {L : List (List Int)} (h : Kd.S KII 22 w base ok v L) :
    ∃ vs, (∀ k, v.ownBlock = some k → ok k) ∧ w.ownsRow base 22 1 v L.length vs ∧ RowVals w base (fun k => ok k ∧ some k ≠ v.ownBlock) vs L := by
  obtain ⟨f, h0, inner, ho, hl, hr⟩ := h
  rw [List.length_zipIdx] at ho hl
  have hl' : inner.length = L.length := by rw [hl]; exact Nat.mul_one _
  have hrow : ∀ (j : Nat) (u : Value) (x : List Int), inner[j]? = some u → L[j]? = some x → Kd.R (Kd.int .i64) 3 w base (fun k => (ok k ∧ some k ≠ v.ownBlock) ∧ f k = j) u x := by
    intro j u x hu hx
    obtain ⟨u', he, hR⟩ := hr j (x, j) (Kd.zip_at hx)
    have hj : j < inner.length := (List.getElem?_eq_some_iff.1 hu).1
    have h1 : (inner.drop (j * (Kd.tag f KII).sz)).take (Kd.tag f KII).sz = [inner[j]] := by
      show (inner.drop (j * 1)).take 1 = _
      rw [Nat.mul_one, List.drop_eq_getElem_cons hj]
      rfl
    rw [h1] at he
    have h2 : inner[j] = u := by rw [List.getElem?_eq_getElem hj] at hu; exact Option.some.inj hu
    have h3 : u' = u := by rw [← h2]; exact (List.cons.inj he).1.symm
    subst h3
    exact hR
  refine ⟨inner, h0, ho, hl', fun j u x hu hx => Kd.R_mono (hrow j u x hu hx) (fun k hk => hk.1), ?_⟩
  rw [List.pairwise_iff_getElem]
  intro i j hi hj hij k hik hjk
  have hxi := hrow i _ _ (List.getElem?_eq_getElem hi) (List.getElem?_eq_getElem (show i < L.length by omega))
  have hxj := hrow j _ _ (List.getElem?_eq_getElem hj) (List.getElem?_eq_getElem (show j < L.length by omega))
  have e1 := (hxi.1 k hik).2
  have e2 := (hxj.1 k hjk).2
  omega
end Go.Proofs.Ytgpoljimomfbbaa.P

-- UrowsVals
namespace Go.Proofs.Ytgpoljimomfbbaa.P
set_option linter.unusedVariables false
set_option linter.unusedSimpArgs false
open Go.RowKit Go.Proofs.YtgpoljimomfbbaaW.PrintWords Go.Proofs.YtgpoljimomfbbaaW.PrintLast
theorem RowVals.own {w : World} {base : Nat} {ok : Nat → Prop} {vs : List Value} {L : List (List Int)} (h : RowVals w base ok vs L) {u : Value} (hu : u ∈ vs) {k : Nat} (hk : u.ownBlock = some k) : ok k ∧ base ≤ k ∧ k < w.heap.size := by
  obtain ⟨j, hj, rfl⟩ := List.getElem_of_mem hu
  have hL : j < L.length := by have := h.len; omega
  have hr := Kd.R_bound (h.row j vs[j] L[j] (List.getElem?_eq_getElem hj) (List.getElem?_eq_getElem hL))
  have := hr.1 k hk
  exact ⟨this.1, this.2.1, this.2.2.1⟩
/-- Rows in a later world. -/
theorem RowVals.step {w w1 : World} {base : Nat} {ok ok' : Nat → Prop} {vs : List Value} {L : List (List Int)} (h : RowVals w base ok vs L) (hm : ∀ k, ok k → k < w.heap.size → w1.heap[k]? = w.heap[k]?) (ho : ∀ k, ok k → k < w.heap.size → ok' k) : RowVals w1 base ok' vs L where
  len := h.len
  row := fun j u x hu hx => by
    have hr := h.row j u x hu hx
    exact Kd.R_mono (Kd.R_step (Kd.R_bound hr) (fun k hk hlt => hm k hk.1 hlt)) (fun k hk => ho k hk.1 hk.2.2.1)
  apart := h.apart
end Go.Proofs.Ytgpoljimomfbbaa.P

-- UrowsRest
namespace Go.Proofs.Ytgpoljimomfbbaa.P
set_option linter.unusedVariables false
set_option linter.unusedSimpArgs false
open Go.RowKit Go.Proofs.YtgpoljimomfbbaaW.PrintWords Go.Proofs.YtgpoljimomfbbaaW.PrintLast

/-- A block that is none of those that are left. -/
def Free (g : Nat) (ns : List Value) (k : Nat) : Prop := k ≠ g ∧ ∀ u ∈ ns, u.ownBlock ≠ some k
theorem Free.tail {g : Nat} {n : Value} {ns : List Value} {k : Nat} (h : Free g (n :: ns) k) : Free g ns k := ⟨h.1, fun u hu => h.2 u (List.mem_cons_of_mem _ hu)⟩
/-- What is left of a row of rows behind its first off rows. -/
structure Rest (w : World) (base g off : Nat) (ns : List Value) (bs : List (List Int)) : Prop where
  lt : ns ≠ [] → g < w.heap.size
  cell : ∀ (j : Nat) (u : Value), ns[j]? = some u → w.cell? ⟨g, off + j, none⟩ = some u
  rows : RowVals w base (fun k => k ≠ g ∧ k < w.heap.size ∧ ∃ u ∈ ns, u.ownBlock = some k) ns bs
theorem Rest.step {w w1 : World} {base g off : Nat} {ns : List Value} {bs : List (List Int)} (h : Rest w base g off ns bs) (hs : w.heap.size ≤ w1.heap.size) (hm : ∀ k, ¬ Free g ns k → k < w.heap.size → w1.heap[k]? = w.heap[k]?) : Rest w1 base g off ns bs where
  lt := fun hne => by have := h.lt hne; omega
  cell := fun j u hu => by
    rw [← h.cell j u hu]
    unfold World.cell?
    have hne : ns ≠ [] := by rintro rfl; simp at hu
    rw [hm g (fun hf => hf.1 rfl) (h.lt hne)]
  rows := h.rows.step (fun k hk hlt => hm k (fun hf => by obtain ⟨_, _, u, hu, e⟩ := hk; exact hf.2 u hu e) hlt) (fun k hk hlt => ⟨hk.1, by omega, hk.2.2⟩)
theorem Rest.below {w w1 : World} {base g off : Nat} {ns : List Value} {bs : List (List Int)} (h : Rest w base g off ns bs) (hb : Below w.heap.size w w1) : Rest w1 base g off ns bs :=
  h.step hb.size (fun k _ hk => hb.block k hk)
theorem Rest.tail {w : World} {base g off : Nat} {n : Value} {ns : List Value} {b : List Int} {bs : List (List Int)} (h : Rest w base g off (n :: ns) (b :: bs)) : Rest w base g (off + 1) ns bs where
  lt := fun _ => h.lt (by simp)
  cell := fun j u hu => by
    have := h.cell (j + 1) u (by simpa using hu)
    rw [show off + 1 + j = off + (j + 1) from by omega]
    exact this
  rows := {
    len := by have := h.rows.len; simpa using this
    row := fun j u x hu hx => by
      have hr := h.rows.row (j + 1) u x (by simpa using hu) (by simpa using hx)
      have hr2 := Kd.R_bound (Kd.R_tight rfl hr)
      refine Kd.R_mono hr2 (fun k hk => ?_)
      have := hr.1 k hk.1.symm
      exact ⟨this.1, this.2.1, u, List.mem_of_getElem? hu, hk.1.symm⟩
    apart := (List.pairwise_cons.1 h.rows.apart).2 }
theorem Rest.head {w : World} {base g off : Nat} {n : Value} {ns : List Value} {b : List Int} {bs : List (List Int)} (h : Rest w base g off (n :: ns) (b :: bs)) :
    ∃ A c, n = .slice A b.length c ∧ b.length ≤ c ∧ w.cell? ⟨g, off, none⟩ = some (.slice A b.length c) ∧ Kd.R (Kd.int .i64) 3 w base (fun k => some k = n.ownBlock) n b ∧ (∀ k, some k = n.ownBlock → Free g ns k ∧ k < w.heap.size) := by
  have hr := h.rows.row 0 n b rfl rfl
  have hr2 := Kd.R_tight rfl hr
  obtain ⟨A, c, e⟩ := Kd.R_slice hr
  refine ⟨A, c, e, ?_, ?_, hr2, fun k hk => ?_⟩
  · rw [e] at hr
    exact (Kd.R_reads' hr).2.1
  · rw [← e]
    have := h.cell 0 n rfl
    simpa using this
  · have h1 := hr.1 k hk.symm
    refine ⟨⟨h1.1, fun u hu e2 => ?_⟩, h1.2.1⟩
    exact (List.pairwise_cons.1 h.rows.apart).1 u hu k hk.symm e2
/-- What a call has made, to be walked. -/
theorem rest_of {w : World} {base B : Nat} {v : Value} {bs : List (List Int)} (h : Kd.S KII 22 w B (fun _ => True) v bs) (hb : base ≤ B) :
    ∃ A g c ns, v = .slice A bs.length c ∧ (bs ≠ [] → ∃ ad : Addr, A = some ad ∧ ad = ⟨g, 0, none⟩) ∧ Rest w base g 0 ns bs ∧ B ≤ g ∧ (∀ u ∈ ns, ∀ k, u.ownBlock = some k → B ≤ k) := by
  obtain ⟨vs, h0, hown, hv⟩ := S_vals h
  obtain ⟨hlen, hcase⟩ := hown
  have hge : ∀ u ∈ vs, ∀ k, u.ownBlock = some k → B ≤ k := fun u hu k hk => (hv.own hu hk).2.1
  rcases hcase with ⟨ev, hn⟩ | ⟨g, cap, cur, ev, hg, hb2, hc, hm, hcs, ht⟩
  · have e0 : bs = [] := List.eq_nil_of_length_eq_zero hn
    subst e0
    have e1 : vs = [] := List.eq_nil_of_length_eq_zero (by simpa using hlen)
    subst e1
    subst ev
    exact ⟨none, B, 0, [], rfl, fun h => absurd rfl h, ⟨fun h => absurd rfl h, fun j u hu => by simp at hu, ⟨rfl, fun j u x hu => by simp at hu, List.Pairwise.nil⟩⟩, Nat.le_refl _, fun u hu => by simp at hu⟩
  · subst ev
    have hgl : g < w.heap.size := by
      rcases Nat.lt_or_ge g w.heap.size with h1 | h1
      · exact h1
      · rw [Array.getElem?_eq_none h1] at hb2
        simp at hb2
    refine ⟨some ⟨g, 0, none⟩, g, cap, vs, rfl, fun _ => ⟨_, rfl, rfl⟩, ⟨fun _ => hgl, fun j u hu => ?_, ?_⟩, hg, hge⟩
    · have hj := (List.getElem?_eq_some_iff.1 hu).1
      have h1 : cur[j]? = some u := by
        have h2 : (cur.toList.take (bs.length * 1))[j]? = vs[j]? := by rw [ht]
        have hjb : j < bs.length * 1 := by omega
        rw [List.getElem?_take_of_lt hjb] at h2
        rw [← hu]
        simpa using h2
      simp [World.cell?, hb2, h1]
    · refine { len := hv.len, row := fun j u x hu hx => ?_, apart := hv.apart }
      have hr := hv.row j u x hu hx
      have hr2 := Kd.R_bound (Kd.R_tight rfl hr)
      refine Kd.R_lower (Kd.R_mono hr2 (fun k hk => ?_)) hb
      have h1 := hr.1 k hk.1.symm
      refine ⟨fun e => h1.2 (by rw [e]; rfl), hk.2.2.1, u, List.mem_of_getElem? hu, hk.1.symm⟩
end Go.Proofs.Ytgpoljimomfbbaa.P

-- PFspecl1Curone
namespace Go.Proofs.Ytgpoljimomfbbaa.P
open Go.RowKit Go.Proofs.YtgpoljimomfbbaaW.PrintWords Go.Proofs.YtgpoljimomfbbaaW.PrintLast
set_option linter.unusedVariables false
set_option linter.unusedSimpArgs false

/-! ### spec_l1Cur_one: function 84 -/
end Go.Proofs.Ytgpoljimomfbbaa.P

-- Udraw
namespace Go.Proofs.Ytgpoljimomfbbaa.P
set_option linter.unusedVariables false
set_option linter.unusedSimpArgs false
open Go.RowKit Go.Proofs.YtgpoljimomfbbaaW.PrintWords Go.Proofs.YtgpoljimomfbbaaW.PrintLast Go.Proofs.YtgpoljimomfbbaaW.PrintMore

theorem wrap_u64 (n : Int) : IntKind.u64.wrap n = n % 18446744073709551616 := by simp [IntKind.wrap, IntKind.bits, IntKind.signed]
theorem mask255 (n : Int) : ∃ v, wrap64 (Go.bits .and .u64 (IntKind.u64.wrap n / 1099511627776) 255) = v ∧ 0 ≤ v ∧ v ≤ 255 := by
  have h0 : 0 ≤ IntKind.u64.wrap n := by rw [wrap_u64]; omega
  have h1 : IntKind.u64.wrap n < 18446744073709551616 := by rw [wrap_u64]; omega
  generalize IntKind.u64.wrap n = m at h0 h1
  have h2 : Go.bits .and .u64 (m / 1099511627776) 255 = (m / 1099511627776) % 256 :=
    bits_mask .u64 64 (by decide) (fun n a b => by rw [wrap_u64]; have : (2 : Int) ^ 64 = 18446744073709551616 := by decide
                                                   omega) 8 (by decide) _ (by omega) (by have : (2 : Int) ^ 64 = 18446744073709551616 := by decide
                                                                                         omega)
  rw [h2]
  exact ⟨_, rfl, by rw [w64 (by omega) (by omega)]; omega, by rw [w64 (by omega) (by omega)]; omega⟩
def Bytes (code : List Int) : Prop := ∀ x ∈ code, 0 ≤ x ∧ x ≤ 255
theorem bytes_of_u8 {code : List Int} (h : ∀ x ∈ code, (Lit.int .u8 x).wf = true) : Bytes code := fun x hx => by
  have := h x hx
  simp [Lit.wf, IntKind.min, IntKind.max, IntKind.signed, IntKind.bits] at this
  omega
theorem next_ok (code : List Int) (hc : Bytes code) (at_ seed : Int) (h0 : 0 ≤ at_) (h1 : at_ ≤ 1000000000) : ∃ v seed', spec_l1Cur_next.f code at_ seed = some (v, at_ + 1, seed') ∧ 0 ≤ v ∧ v ≤ 255 := by
  have w1 : wrap64 (at_ + 1) = at_ + 1 := w64 (by omega) (by omega)
  unfold spec_l1Cur_next.f
  rw [w1]
  by_cases h2 : at_ < (code.length : Int)
  · have hm : rd code at_ ∈ code := by
      have h3 : at_.toNat < code.length := by omega
      have h4 : rd code at_ = code[at_.toNat] := by
        have := rd_lt code at_.toNat h3
        rwa [Int.toNat_of_nonneg h0] at this
      rw [h4]
      exact List.getElem_mem h3
    have hb := hc _ hm
    have w2 : wrap64 (rd code at_) = rd code at_ := w64 (by omega) (by omega)
    rw [if_pos h2, if_pos h0, if_pos (by omega), w2]
    exact ⟨_, _, rfl, hb.1, hb.2⟩
  · rw [if_neg h2, if_neg (by omega)]
    obtain ⟨v, e, hv⟩ := mask255 ((IntKind.u64.wrap ((IntKind.u64.wrap (seed * 6364136223846793005)) + 0)) + 1442695040888963407)
    rw [e]
    exact ⟨_, _, rfl, hv.1, hv.2⟩
theorem pick_ok (code : List Int) (hc : Bytes code) (at_ seed n : Int) (h0 : 0 ≤ at_) (h1 : at_ ≤ 999999999) (hn : n ≤ 1000000000000) : ∃ v at' seed', spec_l1Cur_pick.f code at_ seed n = some (v, at', seed') ∧ 0 ≤ v ∧ (1 ≤ n → v < n) ∧ at_ ≤ at' ∧ at' ≤ at_ + 2 := by
  unfold spec_l1Cur_pick.f
  by_cases h2 : n ≤ 1
  · rw [if_pos h2]
    exact ⟨_, _, _, rfl, by omega, fun _ => by omega, by omega, by omega⟩
  · rw [if_neg h2]
    obtain ⟨v, s1, e1, hv⟩ := next_ok code hc at_ seed h0 (by omega)
    rw [e1]
    simp only [Option.bind_some]
    have hn0 : ¬ n = 0 := by omega
    by_cases h3 : n > 200
    · obtain ⟨v2, s2, e2, hv2⟩ := next_ok code hc (at_ + 1) s1 (by omega) (by omega)
      have w1 : wrap64 (wrap64 (v * 256) + v2) = v * 256 + v2 := by rw [w64 (x := v * 256) (by omega) (by omega), w64 (by omega) (by omega)]
      have t1 : Int.tmod (v * 256 + v2) n = (v * 256 + v2) % n := Int.tmod_eq_emod_of_nonneg (by omega)
      rw [if_pos h3, e2]
      simp only [Option.bind_some, hn0, if_false, w1, t1]
      exact ⟨_, _, _, rfl, Int.emod_nonneg _ hn0, fun _ => Int.emod_lt_of_pos _ (by omega), by omega, by omega⟩
    · have t1 : Int.tmod v n = v % n := Int.tmod_eq_emod_of_nonneg hv.1
      rw [if_neg h3, if_neg hn0, t1]
      exact ⟨_, _, _, rfl, Int.emod_nonneg _ hn0, fun _ => Int.emod_lt_of_pos _ (by omega), by omega, by omega⟩
theorem among_ok (code : List Int) (hc : Bytes code) (at_ seed : Int) (l : List Int) (h0 : 0 ≤ at_) (h1 : at_ ≤ 999999999) (hl : 1 ≤ l.length) (hl2 : l.length ≤ 1000) : ∃ v at' seed', spec_l1Cur_among.f code at_ seed l = some (v, at', seed') ∧ v ∈ l ∧ at_ ≤ at' ∧ at' ≤ at_ + 2 := by
  obtain ⟨v, a, s, e, h2, h5, h3, h4⟩ := pick_ok code hc at_ seed (l.length : Int) h0 h1 (by omega)
  have h6 := h5 (by omega)
  have h7 : v.toNat < l.length := by omega
  have h8 : rd l v = l[v.toNat] := by
    have := rd_lt l v.toNat h7
    rwa [Int.toNat_of_nonneg h2] at this
  unfold spec_l1Cur_among.f
  rw [e]
  simp only [Option.bind_some]
  rw [if_pos h2, if_pos h6]
  exact ⟨_, _, _, rfl, by rw [h8]; exact List.getElem_mem h7, h3, h4⟩
end Go.Proofs.Ytgpoljimomfbbaa.P

-- Uall
namespace Go.Proofs.Ytgpoljimomfbbaa.P
set_option linter.unusedVariables false
set_option linter.unusedSimpArgs false
open Go.RowKit Go.Proofs.YtgpoljimomfbbaaW.PrintWords Go.Proofs.YtgpoljimomfbbaaW.PrintLast

theorem l1In_inB (x lo hi : Int) : spec_l1In.f x lo hi = some (inB lo hi x) := by
  unfold spec_l1In.f inB
  by_cases h : lo ≤ x <;> simp [h]
theorem l1All_upto (l : List Int) (lo hi : Int) (hn : l.length ≤ 4611686018427387904) (d : Nat) : ∀ i : Nat, i + d = l.length → Ev (fun k => spec_l1All.l0 k lo hi l (l.length : Int) (i : Int)) ((l.drop i).all (inB lo hi)) := by
  induction d with
  | zero =>
    intro i hid
    refine Ev.step (f := fun _ => some true) (fun k => by simp only [spec_l1All.l0]; rw [if_neg (by omega)]) ?_
    rw [List.drop_eq_nil_of_le (by omega)]
    exact Ev.is rfl
  | succ d ih =>
    intro i hid
    refine Ev.step (f := fun k => if inB lo hi (rd l (i : Int)) = true then spec_l1All.l0 k lo hi l (l.length : Int) ((i + 1 : Nat) : Int) else some false) (fun k => ?_) ?_
    · simp only [spec_l1All.l0]
      rw [if_pos (by omega), if_pos (by omega), if_pos (by omega), l1In_inB, w64_succ (n := l.length) (by omega) hn]
      rfl
    · rw [rd_drop l i (by omega), List.all_cons]
      cases hB : inB lo hi (rd l (i : Int)) with
      | true =>
        simp only [if_true, Bool.true_and]
        exact ih (i + 1) (by omega)
      | false =>
        simp only [Bool.false_eq_true, if_false, Bool.false_and]
        exact Ev.is rfl
theorem l1All_ev (l : List Int) (lo hi : Int) (hn : l.length ≤ 4611686018427387904) : Ev (fun k => spec_l1All.f k l lo hi) (l.all (inB lo hi)) := by
  unfold spec_l1All.f
  exact l1All_upto l lo hi hn l.length 0 (by omega)
end Go.Proofs.Ytgpoljimomfbbaa.P

-- Uhurwitz
namespace Go.Proofs.Ytgpoljimomfbbaa.P
set_option linter.unusedVariables false
set_option linter.unusedSimpArgs false
open Go.RowKit Go.Proofs.YtgpoljimomfbbaaW.PrintWords Go.Proofs.YtgpoljimomfbbaaW.PrintLast Go.Proofs.YtgpoljimomfbbaaW.PrintMore

def sqs : List Int → Int
  | [] => 0
  | x :: l => x * x + sqs l
def prd : List Int → Int
  | [] => 1
  | x :: l => x * prd l
def fallsFrom (p : Int) : List Int → Bool
  | [] => true
  | x :: l => decide (x ≤ p) && fallsFrom x l
def falls : List Int → Bool
  | [] => true
  | x :: l => fallsFrom x l
/-- Three or four numbers, none rising, that solve Hurwitz's equation. -/
def huIs (l : List Int) (a b : Int) : Bool := decide (3 ≤ l.length ∧ l.length ≤ 4) && (l.all (inB 1 100000) && (falls l && decide (sqs l = a * prd l + b)))
def huGv (a b : Int) : Bool := inB 1 20 a && inB (-50) 50 b
theorem inB_iff {lo hi x : Int} : inB lo hi x = true ↔ lo ≤ x ∧ x ≤ hi := by simp [inB]
theorem all_iff {l : List Int} {lo hi : Int} : l.all (inB lo hi) = true ↔ ∀ x ∈ l, lo ≤ x ∧ x ≤ hi := by simp [List.all_eq_true, inB]

theorem beq_dec (a b : Int) : (a == b) = decide (a = b) := by by_cases h : a = b <;> simp [h]
theorem within_inB (x lo hi : Int) : impl_within.f x lo hi = some (inB lo hi x) := by
  unfold impl_within.f inB
  by_cases h : lo ≤ x <;> simp [h]
theorem huGiven_is (a b : Int) : spec_huGiven.f a b = some (huGv a b) := by
  unfold spec_huGiven.f huGv
  rw [l1In_inB, l1In_inB]
  cases inB 1 20 a <;> rfl
theorem areGiven_is (a b : Int) : impl_areGiven.f a b = some (huGv a b) := by
  unfold impl_areGiven.f huGv
  rw [within_inB, within_inB]
  cases inB 1 20 a <;> rfl

theorem prd_pos {l : List Int} (h : ∀ x ∈ l, 1 ≤ x) : 1 ≤ prd l := by
  induction l with
  | nil => simp [prd]
  | cons x l ih =>
    have h1 := h x (List.mem_cons_self)
    have h2 := ih (fun y hy => h y (List.mem_cons_of_mem _ hy))
    have h3 := Int.mul_le_mul h1 h2 (by omega) (by omega)
    simp only [prd]
    omega
theorem sqs_bd {l : List Int} (h : ∀ x ∈ l, 1 ≤ x ∧ x ≤ 100000) : 0 ≤ sqs l ∧ sqs l ≤ 10000000000 * (l.length : Int) := by
  induction l with
  | nil => simp [sqs]
  | cons x l ih =>
    have h1 := h x (List.mem_cons_self)
    have h2 := ih (fun y hy => h y (List.mem_cons_of_mem _ hy))
    have h3 : x * x ≤ 100000 * 100000 := Int.mul_le_mul h1.2 h1.2 (by omega) (by omega)
    have h4 : 0 ≤ x * x := Int.mul_nonneg (by omega) (by omega)
    simp only [sqs, List.length_cons]
    omega
theorem drop_all {l : List Int} {P : Int → Prop} (h : ∀ x ∈ l, P x) (i : Nat) : ∀ x ∈ l.drop i, P x := fun x hx => h x (List.mem_of_mem_drop hx)
theorem rd_mem {l : List Int} {i : Nat} (h : i < l.length) : rd l (i : Int) ∈ l := by rw [rd_lt l i h]; exact List.getElem_mem h

theorem sq_bd {x : Int} (hx : 1 ≤ x ∧ x ≤ 100000) : 1 ≤ x * x ∧ x * x ≤ 10000000000 := by
  have h3 : x * x ≤ 100000 * 100000 := Int.mul_le_mul hx.2 hx.2 (by omega) (by omega)
  have h4 : 1 * 1 ≤ x * x := Int.mul_le_mul hx.1 hx.1 (by omega) (by omega)
  omega
theorem huSquares_upto (l : List Int) (hl : ∀ x ∈ l, 1 ≤ x ∧ x ≤ 100000) (hn : l.length ≤ 1000000) (d : Nat) : ∀ (i : Nat) (s : Int), i + d = l.length → 0 ≤ s → s + 10000000000 * (d : Int) ≤ 9000000000000000000 → Ev (fun k => spec_huSquares.l0 k s l (l.length : Int) (i : Int)) (s + sqs (l.drop i)) := by
  induction d with
  | zero =>
    intro i s hid h0 h1
    refine Ev.step (f := fun _ => some s) (fun k => by simp only [spec_huSquares.l0]; rw [if_neg (by omega)]) ?_
    rw [List.drop_eq_nil_of_le (by omega), sqs, Int.add_zero]
    exact Ev.is rfl
  | succ d ih =>
    intro i s hid h0 h1
    have hx := sq_bd (hl _ (rd_mem (l := l) (i := i) (by omega)))
    have w1 : wrap64 (rd l (i : Int) * rd l (i : Int)) = rd l (i : Int) * rd l (i : Int) := w64 (by omega) (by omega)
    have w2 : wrap64 (s + rd l (i : Int) * rd l (i : Int)) = s + rd l (i : Int) * rd l (i : Int) := w64 (by omega) (by omega)
    refine Ev.step (f := fun k => spec_huSquares.l0 k (s + rd l (i : Int) * rd l (i : Int)) l (l.length : Int) ((i + 1 : Nat) : Int)) (fun k => ?_) ?_
    · simp only [spec_huSquares.l0]
      rw [if_pos (by omega), if_pos (by omega), if_pos (by omega), w1, w2, w64_succ (n := l.length) (by omega) (by omega)]
    · rw [rd_drop l i (by omega), sqs, ← Int.add_assoc]
      exact ih (i + 1) _ (by omega) (by omega) (by omega)
theorem huSquares_ev (l : List Int) (hl : ∀ x ∈ l, 1 ≤ x ∧ x ≤ 100000) (hn : l.length ≤ 1000000) : Ev (fun k => spec_huSquares.f k l) (sqs l) := by
  unfold spec_huSquares.f
  have h := huSquares_upto l hl hn l.length 0 0 (by omega) (by omega) (by omega)
  rw [List.drop_zero, Int.zero_add] at h
  exact h

theorem cap_mul {y q C : Int} (h0 : 0 ≤ y) (hq : 1 ≤ q) (hC : 0 ≤ C) : min (min y C * q) C = min (y * q) C := by
  by_cases h : y ≤ C
  · rw [Int.min_eq_left h]
  · have h1 : min y C = C := Int.min_eq_right (by omega)
    rw [h1]
    have h2 : C ≤ C * q := by have := Int.mul_le_mul (Int.le_refl C) hq (by omega) hC; omega
    have h3 : y ≤ y * q := by have := Int.mul_le_mul (Int.le_refl y) hq (by omega) h0; omega
    rw [Int.min_eq_right h2, Int.min_eq_right (by omega)]
theorem least_is (a b : Int) : spec_l1Least.f a b = some (min a b) := by
  unfold spec_l1Least.f
  by_cases h : a < b
  · rw [if_pos h, Int.min_eq_left (by omega)]
  · rw [if_neg h, Int.min_eq_right (by omega)]
theorem mul_bd2 {p x P X : Int} (h1 : 0 ≤ p) (h2 : p ≤ P) (h3 : 1 ≤ x) (h4 : x ≤ X) : 0 ≤ p * x ∧ p * x ≤ P * X ∧ p ≤ p * x := by
  have h5 := Int.mul_le_mul (Int.le_refl p) h3 (by omega) h1
  exact ⟨Int.mul_nonneg h1 (by omega), Int.mul_le_mul h2 h4 (by omega) (by omega), by omega⟩
theorem huProduct_upto (l : List Int) (hl : ∀ x ∈ l, 1 ≤ x ∧ x ≤ 100000) (hn : l.length ≤ 1000000) (d : Nat) : ∀ (i : Nat) (p : Int), i + d = l.length → 0 ≤ p → p ≤ 1000000000000 → Ev (fun k => spec_huProduct.l0 k p l (l.length : Int) (i : Int)) (min (p * prd (l.drop i)) 1000000000000) := by
  induction d with
  | zero =>
    intro i p hid h0 h1
    refine Ev.step (f := fun _ => some p) (fun k => by simp only [spec_huProduct.l0]; rw [if_neg (by omega)]) ?_
    rw [List.drop_eq_nil_of_le (by omega), prd, Int.mul_one, Int.min_eq_left h1]
    exact Ev.is rfl
  | succ d ih =>
    intro i p hid h0 h1
    have hx := hl _ (rd_mem (l := l) (i := i) (by omega))
    have hb := mul_bd2 h0 h1 hx.1 hx.2
    have w1 : wrap64 (p * rd l (i : Int)) = p * rd l (i : Int) := w64 (by omega) (by omega)
    refine Ev.step (f := fun k => spec_huProduct.l0 k (min (p * rd l (i : Int)) 1000000000000) l (l.length : Int) ((i + 1 : Nat) : Int)) (fun k => ?_) ?_
    · simp only [spec_huProduct.l0]
      rw [if_pos (by omega), if_pos (by omega), if_pos (by omega), w1, least_is, w64_succ (n := l.length) (by omega) (by omega)]
      rfl
    · have hq := prd_pos (fun x hx => (drop_all hl (i + 1) x hx).1)
      rw [rd_drop l i (by omega), prd, ← Int.mul_assoc, ← cap_mul (by omega) hq (by omega)]
      exact ih (i + 1) _ (by omega) (by omega) (by omega)
theorem huProduct_ev (l : List Int) (a : Int) (ha : 0 ≤ a ∧ a ≤ 1000000000000) (hl : ∀ x ∈ l, 1 ≤ x ∧ x ≤ 100000) (hn : l.length ≤ 1000000) : Ev (fun k => spec_huProduct.f k l a) (min (a * prd l) 1000000000000) := by
  unfold spec_huProduct.f
  have h := huProduct_upto l hl hn l.length 0 a (by omega) ha.1 ha.2
  rw [List.drop_zero] at h
  exact h

theorem huGood_falls (l : List Int) (a b : Int) (r : Bool) (hn : l.length ≤ 1000000) (hend : Ev (fun k => (spec_huSquares.f k l).bind fun t112 => ((spec_huProduct.f k l a).bind fun t113 => (some (t112 == (wrap64 (t113 + b)))))) r) (d : Nat) : ∀ (i : Nat), 1 ≤ i → i + d = l.length → Ev (fun k => spec_huGood.l0 k l a b (i : Int)) (fallsFrom (rd l ((i - 1 : Nat) : Int)) (l.drop i) && r) := by
  induction d with
  | zero =>
    intro i h1 hid
    refine Ev.step (fun k => by simp only [spec_huGood.l0]; rw [if_neg (by omega)]) ?_
    rw [List.drop_eq_nil_of_le (by omega), fallsFrom, Bool.true_and]
    exact hend
  | succ d ih =>
    intro i h1 hid
    have w1 : wrap64 ((i : Int) - 1) = ((i - 1 : Nat) : Int) := by rw [w64 (by omega) (by omega)]; omega
    refine Ev.step (f := fun k => if rd l (i : Int) > rd l ((i - 1 : Nat) : Int) then some false else spec_huGood.l0 k l a b ((i + 1 : Nat) : Int)) (fun k => ?_) ?_
    · simp only [spec_huGood.l0]
      rw [w1, if_pos (by omega), if_pos (by omega), if_pos (by omega), if_pos (by omega), w64_succ (n := l.length) (by omega) (by omega)]
    · rw [rd_drop l i (by omega), fallsFrom]
      by_cases h : rd l (i : Int) > rd l ((i - 1 : Nat) : Int)
      · simp only [h, if_true]
        rw [decide_eq_false (by omega), Bool.false_and, Bool.false_and]
        exact Ev.is rfl
      · simp only [h, if_false]
        rw [decide_eq_true (by omega), Bool.true_and]
        have h2 := ih (i + 1) (by omega) (by omega)
        rw [Nat.add_sub_cancel] at h2
        exact h2
theorem falls_ge (l : List Int) (h : 1 ≤ l.length) : falls l = fallsFrom (rd l ((1 - 1 : Nat) : Int)) (l.drop 1) := by
  cases l with
  | nil => simp at h
  | cons x l => rfl
theorem huGood_ev (l : List Int) (a b : Int) (h : huGv a b = true) (hn : l.length ≤ 4611686018427387904) : Ev (fun k => spec_huGood.f k l a b) (huIs l a b) := by
  unfold spec_huGood.f huIs
  simp only [huGv, inB_iff, Bool.and_eq_true] at h
  rw [l1In_inB]
  refine Ev.bind0 rfl ?_
  by_cases h3 : 3 ≤ l.length ∧ l.length ≤ 4
  · have h4 : inB 3 4 (l.length : Int) = true := by rw [inB_iff]; omega
    rw [h4, decide_eq_true h3, Bool.true_and]
    simp only [if_true]
    refine Ev.bind (l1All_ev l 1 100000 hn) ?_
    cases hA : l.all (inB 1 100000) with
    | false =>
      simp only [Bool.false_and, Bool.not_false]
      exact Ev.step (f := fun _ => some false) (fun k => by simp only [spec_huGood.j0, if_true]) (Ev.is rfl)
    | true =>
      have hl := all_iff.1 hA
      simp only [Bool.true_and, Bool.not_true]
      refine Ev.step (f := fun k => spec_huGood.l0 k l a b ((1 : Nat) : Int)) (fun k => by simp only [spec_huGood.j0, Bool.false_eq_true, if_false]; rfl) ?_
      rw [falls_ge l (by omega)]
      refine huGood_falls l a b _ (by omega) ?_ (l.length - 1) 1 (by omega) (by omega)
      refine Ev.bind (huSquares_ev l hl (by omega)) (Ev.bind (huProduct_ev l a (by omega) hl (by omega)) (Ev.is ?_))
      have hs := sqs_bd hl
      have hp := prd_pos (fun x hx => (hl x hx).1)
      have hap := mul_bd2 (p := a) (x := prd l) (P := 20) (X := prd l) (by omega) (by omega) hp (by omega)
      generalize a * prd l = q at hap
      have w1 : wrap64 (min q 1000000000000 + b) = min q 1000000000000 + b := w64 (by omega) (by omega)
      rw [w1]
      congr 1
      rw [beq_dec]
      exact decide_eq_decide.2 (by omega)
  · have h4 : inB 3 4 (l.length : Int) = false := by rw [Bool.eq_false_iff]; intro h5; rw [inB_iff] at h5; omega
    rw [h4, decide_eq_false h3, Bool.false_and]
    simp only [Bool.false_eq_true, if_false]
    exact Ev.step (f := fun _ => some false) (fun k => by simp only [spec_huGood.j0, if_true]) (Ev.is rfl)

theorem isHurwitz_upto (l : List Int) (hl : ∀ x ∈ l, 1 ≤ x ∧ x ≤ 100000) (hn : l.length ≤ 4) (b : Int) (hb : -50 ≤ b ∧ b ≤ 50) (d : Nat) : ∀ (i : Nat) (s p : Int), i + d = l.length → 0 ≤ s → s + 10000000000 * (d : Int) ≤ 9000000000000000000 → 0 ≤ p → p ≤ 100000000000 → Ev (fun k => impl_isHurwitz.l0 k l b s p l (l.length : Int) (i : Int)) ((if i = 0 then falls (l.drop i) else fallsFrom (rd l ((i - 1 : Nat) : Int)) (l.drop i)) && decide (s + sqs (l.drop i) = min (p * prd (l.drop i)) 100000000000 + b)) := by
  induction d with
  | zero =>
    intro i s p hid h0 h1 h2 h3
    refine Ev.step (f := fun _ => some (s == wrap64 (p + b))) (fun k => by simp only [impl_isHurwitz.l0]; rw [if_neg (by omega)]) ?_
    rw [List.drop_eq_nil_of_le (by omega), sqs, prd, Int.add_zero, Int.mul_one, Int.min_eq_left h3, w64 (by omega) (by omega)]
    refine Ev.is ?_
    rw [beq_dec]
    simp [falls, fallsFrom]
  | succ d ih =>
    intro i s p hid h0 h1 h2 h3
    have hx := hl _ (rd_mem (l := l) (i := i) (by omega))
    have hs := sq_bd hx
    have hp := mul_bd2 h2 h3 hx.1 hx.2
    have w1 : wrap64 (rd l (i : Int) * rd l (i : Int)) = rd l (i : Int) * rd l (i : Int) := w64 (by omega) (by omega)
    have w2 : wrap64 (s + rd l (i : Int) * rd l (i : Int)) = s + rd l (i : Int) * rd l (i : Int) := w64 (by omega) (by omega)
    have w3 : wrap64 (p * rd l (i : Int)) = p * rd l (i : Int) := w64 (by omega) (by omega)
    have hq := prd_pos (fun x hx => (drop_all hl (i + 1) x hx).1)
    have hmn : mn (p * rd l (i : Int)) 100000000000 = min (p * rd l (i : Int)) 100000000000 := by
      unfold mn
      split <;> omega
    have hnext := ih (i + 1) (s + rd l (i : Int) * rd l (i : Int)) (min (p * rd l (i : Int)) 100000000000) (by omega) (by omega) (by omega) (by omega) (by omega)
    rw [if_neg (by omega), Nat.add_sub_cancel, cap_mul (by omega) hq (by omega), Int.add_assoc, Int.mul_assoc] at hnext
    by_cases hi : i = 0
    · subst hi
      refine Ev.step (f := fun k => impl_isHurwitz.l0 k l b (s + rd l ((0 : Nat) : Int) * rd l ((0 : Nat) : Int)) (min (p * rd l ((0 : Nat) : Int)) 100000000000) l (l.length : Int) ((0 + 1 : Nat) : Int)) (fun k => ?_) ?_
      · simp only [impl_isHurwitz.l0]
        rw [if_pos (by omega), if_pos (by omega), if_pos (by omega), if_neg (by omega), w1, w2, w3, hmn, w64_succ (n := l.length) (by omega) (by omega)]
      · rw [if_pos rfl, rd_drop l 0 (by omega), falls, sqs, prd]
        exact hnext
    · have w4 : wrap64 ((i : Int) - 1) = ((i - 1 : Nat) : Int) := by rw [w64 (by omega) (by omega)]; omega
      refine Ev.step (f := fun k => if rd l ((i - 1 : Nat) : Int) < rd l (i : Int) then some false else impl_isHurwitz.l0 k l b (s + rd l (i : Int) * rd l (i : Int)) (min (p * rd l (i : Int)) 100000000000) l (l.length : Int) ((i + 1 : Nat) : Int)) (fun k => ?_) ?_
      · simp only [impl_isHurwitz.l0]
        rw [if_pos (by omega), if_pos (by omega), if_pos (by omega), if_pos (by omega), w4, if_pos (by omega), if_pos (by omega), w1, w2, w3, hmn, w64_succ (n := l.length) (by omega) (by omega)]
      · rw [if_neg hi, rd_drop l i (by omega), fallsFrom, sqs, prd]
        by_cases h : rd l ((i - 1 : Nat) : Int) < rd l (i : Int)
        · simp only [h, if_true]
          rw [decide_eq_false (by omega), Bool.false_and, Bool.false_and]
          exact Ev.is rfl
        · simp only [h, if_false]
          rw [decide_eq_true (by omega), Bool.true_and]
          exact hnext
theorem isHurwitz_ev (l : List Int) (a b : Int) (h : huGv a b = true) : Ev (fun k => impl_isHurwitz.f k l a b) (huIs l a b) := by
  unfold impl_isHurwitz.f huIs
  simp only [huGv, inB_iff, Bool.and_eq_true] at h
  rw [within_inB]
  refine Ev.bind0 rfl ?_
  by_cases h3 : 3 ≤ l.length ∧ l.length ≤ 4
  · have h4 : inB 3 4 (l.length : Int) = true := by rw [inB_iff]; omega
    rw [h4, decide_eq_true h3, Bool.true_and]
    simp only [if_true]
    refine Ev.bind0 rfl ?_
    cases hA : l.all (inB 1 100000) with
    | false =>
      simp only [Bool.false_and, Bool.not_false]
      exact Ev.step (f := fun _ => some false) (fun k => by simp only [impl_isHurwitz.j0, if_true]) (Ev.is rfl)
    | true =>
      have hl := all_iff.1 hA
      simp only [Bool.true_and, Bool.not_true]
      refine Ev.step (f := fun k => impl_isHurwitz.l0 k l b 0 a l (l.length : Int) ((0 : Nat) : Int)) (fun k => by simp only [impl_isHurwitz.j0, Bool.false_eq_true, if_false]; rfl) ?_
      have hE := isHurwitz_upto l hl (by omega) b h.2 l.length 0 0 a (by omega) (by omega) (by omega) (by omega) (by omega)
      rw [if_pos rfl, List.drop_zero, Int.zero_add] at hE
      have hs := sqs_bd hl
      have hp := prd_pos (fun x hx => (hl x hx).1)
      have hap := mul_bd2 (p := a) (x := prd l) (P := 20) (X := prd l) (by omega) (by omega) hp (by omega)
      have he : decide (sqs l = a * prd l + b) = decide (sqs l = min (a * prd l) 100000000000 + b) := by
        generalize a * prd l = q at hap
        exact decide_eq_decide.2 (by omega)
      rw [he]
      exact hE
  · have h4 : inB 3 4 (l.length : Int) = false := by rw [Bool.eq_false_iff]; intro h5; rw [inB_iff] at h5; omega
    rw [h4, decide_eq_false h3, Bool.false_and]
    simp only [Bool.false_eq_true, if_false]
    exact Ev.step (f := fun _ => some false) (fun k => by simp only [impl_isHurwitz.j0, if_true]) (Ev.is rfl)

/-- What a solution's numbers are. -/
theorem huIs_iff {l : List Int} {a b : Int} : huIs l a b = true ↔ (3 ≤ l.length ∧ l.length ≤ 4) ∧ (∀ x ∈ l, 1 ≤ x ∧ x ≤ 100000) ∧ falls l = true ∧ sqs l = a * prd l + b := by
  simp only [huIs, Bool.and_eq_true, decide_eq_true_eq, all_iff]

/-- The other root. -/
def oth (l : List Int) (a : Int) (i : Nat) : Int := a * prd (l.eraseIdx i) - rd l (i : Int)
def prdBut (i : Nat) : Nat → List Int → Int
  | _, [] => 1
  | j, x :: l => (if j = i then 1 else x) * prdBut i (j + 1) l
theorem prdBut_past (i : Nat) (l : List Int) : ∀ j, i < j → prdBut i j l = prd l := by
  induction l with
  | nil => intro j h; rfl
  | cons x l ih =>
    intro j h
    rw [prdBut, prd, if_neg (by omega), ih (j + 1) (by omega)]
theorem prdBut_erase (l : List Int) : ∀ (j i : Nat), prdBut (j + i) j l = prd (l.eraseIdx i) := by
  induction l with
  | nil => intro j i; rfl
  | cons x l ih =>
    intro j i
    cases i with
    | zero => rw [prdBut, if_pos (by omega), Int.one_mul, List.eraseIdx_cons_zero, prdBut_past _ _ _ (by omega)]
    | succ i => rw [prdBut, if_neg (by omega), List.eraseIdx_cons_succ, prd, show j + (i + 1) = (j + 1) + i by omega, ih (j + 1) i]
theorem prdBut_pos (i : Nat) (l : List Int) (h : ∀ x ∈ l, 1 ≤ x) : ∀ j, 1 ≤ prdBut i j l := by
  induction l with
  | nil => intro j; simp [prdBut]
  | cons x l ih =>
    intro j
    have h1 := h x List.mem_cons_self
    have h2 := ih (fun y hy => h y (List.mem_cons_of_mem _ hy)) (j + 1)
    rw [prdBut]
    split
    · omega
    · have := Int.mul_le_mul h1 h2 (by omega) (by omega)
      omega
theorem otherRoot_upto (l : List Int) (hl : ∀ x ∈ l, 1 ≤ x ∧ x ≤ 100000) (hn : l.length ≤ 1000000) (t : Nat) (ht : t < l.length) (d : Nat) : ∀ (i : Nat) (p : Int), i + d = l.length → 1 ≤ p → p * prdBut t i (l.drop i) ≤ 1000000000000 → Ev (fun k => impl_otherRoot.l0 k l (t : Int) p l (l.length : Int) (i : Int)) (p * prdBut t i (l.drop i) - rd l (t : Int)) := by
  have hr := hl _ (rd_mem ht)
  induction d with
  | zero =>
    intro i p hid h0 h1
    rw [List.drop_eq_nil_of_le (by omega), prdBut, Int.mul_one] at h1 ⊢
    refine Ev.step (f := fun _ => some (p - rd l (t : Int))) (fun k => by simp only [impl_otherRoot.l0]; rw [if_neg (by omega), if_pos (by omega), if_pos (by omega), w64 (by omega) (by omega)]) (Ev.is rfl)
  | succ d ih =>
    intro i p hid h0 h1
    have hx := hl _ (rd_mem (l := l) (i := i) (by omega))
    rw [rd_drop l i (by omega), prdBut] at h1 ⊢
    have hq := prdBut_pos t (l.drop (i + 1)) (fun x hx => (drop_all hl (i + 1) x hx).1) (i + 1)
    by_cases h : i = t
    · subst h
      rw [if_pos rfl, Int.one_mul] at h1 ⊢
      refine Ev.step (f := fun k => impl_otherRoot.l0 k l (i : Int) p l (l.length : Int) ((i + 1 : Nat) : Int)) (fun k => ?_) (ih (i + 1) p (by omega) h0 h1)
      simp only [impl_otherRoot.l0]
      rw [if_pos (by omega), if_pos (by omega), if_pos (by omega), if_pos trivial, w64_succ (n := l.length) (by omega) (by omega)]
    · rw [if_neg h, ← Int.mul_assoc] at h1 ⊢
      have hb := mul_bd2 (p := p) (P := p) (by omega) (by omega) hx.1 hx.2
      have hb2 := mul_bd2 (p := p * rd l (i : Int)) (P := p * rd l (i : Int)) (by omega) (by omega) hq (Int.le_refl _)
      refine Ev.step (f := fun k => impl_otherRoot.l0 k l (t : Int) (p * rd l (i : Int)) l (l.length : Int) ((i + 1 : Nat) : Int)) (fun k => ?_) (ih (i + 1) _ (by omega) (by omega) h1)
      simp only [impl_otherRoot.l0]
      rw [if_pos (by omega), if_pos (by omega), if_pos (by omega), if_neg (by omega), w64 (x := p * rd l (i : Int)) (by omega) (by omega), w64_succ (n := l.length) (by omega) (by omega)]
theorem otherRoot_ev (l : List Int) (a : Int) (i : Nat) (hl : ∀ x ∈ l, 1 ≤ x ∧ x ≤ 100000) (hn : l.length ≤ 1000000) (hi : i < l.length) (ha : 1 ≤ a) (hp : a * prd (l.eraseIdx i) ≤ 1000000000000) : Ev (fun k => impl_otherRoot.f k l a (i : Int)) (oth l a i) := by
  unfold impl_otherRoot.f oth
  have he := prdBut_erase l 0 i
  rw [Nat.zero_add] at he
  have h := otherRoot_upto l hl hn i hi l.length 0 a (by omega) ha (by rw [List.drop_zero, he]; exact hp)
  rw [List.drop_zero, he] at h
  exact h
theorem own_is (l : List Int) (h : l.length < 17592186044416) : spec_l1Own.f l = some l := by
  unfold spec_l1Own.f
  simp [h]
theorem huOther_ev (l : List Int) (a : Int) (i : Nat) (hl : ∀ x ∈ l, 1 ≤ x ∧ x ≤ 100000) (hn : l.length ≤ 1000000) (hi : i < l.length) (ha : 1 ≤ a ∧ a ≤ 1000000000000) (hp : a * prd (l.eraseIdx i) ≤ 1000000000000) : Ev (fun k => spec_huOther.f k l a (i : Int)) (oth l a i) := by
  unfold spec_huOther.f oth
  have w1 : wrap64 ((i : Int) + 1) = ((i + 1 : Nat) : Int) := w64_succ (n := l.length) hi (by omega)
  simp only [w1, Int.toNat_natCast]
  have hr := hl _ (rd_mem hi)
  have c1 : (0 : Int) ≤ (i : Int) := by omega
  have c2 : (i : Int) ≤ (l.length : Int) := by omega
  have c3 : (0 : Int) ≤ ((i + 1 : Nat) : Int) := by omega
  have c4 : ((i + 1 : Nat) : Int) ≤ (l.length : Int) := by omega
  have c5 : (i : Int) < (l.length : Int) := by omega
  simp only [c1, c2, c3, c4, c5, if_true]
  refine Ev.bind0 (own_is _ (by rw [List.length_take]; omega)) ?_
  have hlen : (l.take i).length + (l.drop (i + 1)).length < 17592186044416 := by rw [List.length_take, List.length_drop]; omega
  simp only [hlen, if_true]
  have he : l.take i ++ l.drop (i + 1) = l.eraseIdx i := (List.eraseIdx_eq_take_drop_succ ..).symm
  rw [he]
  have hle : ∀ x ∈ l.eraseIdx i, 1 ≤ x ∧ x ≤ 100000 := fun x hx => hl x (List.mem_of_mem_eraseIdx hx)
  have hq := prd_pos (fun x hx => (hle x hx).1)
  have hb := mul_bd2 (p := a) (P := a) (by omega) (by omega) hq (Int.le_refl _)
  refine Ev.bind (huProduct_ev (l.eraseIdx i) a (by omega) hle (by have := List.length_eraseIdx_le l i; omega)) (Ev.is ?_)
  rw [Int.min_eq_left hp, w64 (by omega) (by omega)]
/-- The product is one number times the others'. -/
theorem prd_erase (l : List Int) (i : Nat) (hi : i < l.length) : prd l = rd l (i : Int) * prd (l.eraseIdx i) := by
  induction l generalizing i with
  | nil => simp at hi
  | cons x l ih =>
    cases i with
    | zero => simp [prd, rd]
    | succ i =>
      have h1 : i < l.length := by simpa using hi
      rw [List.eraseIdx_cons_succ, prd, prd, ih i h1, rd_lt _ _ hi, rd_lt _ _ h1, List.getElem_cons_succ]
      grind
theorem sqs_mem (l : List Int) (i : Nat) (hi : i < l.length) : sqs l = rd l (i : Int) * rd l (i : Int) + sqs (l.eraseIdx i) := by
  induction l generalizing i with
  | nil => simp at hi
  | cons x l ih =>
    cases i with
    | zero => simp [sqs, rd]
    | succ i =>
      have h1 : i < l.length := by simpa using hi
      rw [List.eraseIdx_cons_succ, sqs, sqs, ih i h1, rd_lt _ _ hi, rd_lt _ _ h1, List.getElem_cons_succ]
      omega
/-- In a solution the others' product is not too great. -/
theorem huIs_bd {l : List Int} {a b : Int} (hg : huGv a b = true) (h : huIs l a b = true) (i : Nat) (hi : i < l.length) : 1 ≤ a ∧ a ≤ 20 ∧ 1 ≤ a * prd (l.eraseIdx i) ∧ a * prd (l.eraseIdx i) ≤ 40000000050 := by
  obtain ⟨h1, h2, h3, h4⟩ := huIs_iff.1 h
  simp only [huGv, inB_iff, Bool.and_eq_true] at hg
  have hs := sqs_bd h2
  have hr := h2 _ (rd_mem hi)
  have hq := prd_pos (l := l.eraseIdx i) (fun x hx => (h2 x (List.mem_of_mem_eraseIdx hx)).1)
  rw [prd_erase l i hi] at h4
  have hb := mul_bd2 (p := a) (P := a) (by omega) (by omega) hq (Int.le_refl _)
  have hb2 := mul_bd2 (p := a * prd (l.eraseIdx i)) (P := a * prd (l.eraseIdx i)) (by omega) (by omega) hr.1 hr.2
  have he : a * (rd l (i : Int) * prd (l.eraseIdx i)) = a * prd (l.eraseIdx i) * rd l (i : Int) := by grind
  rw [he] at h4
  omega
theorem other_both {l : List Int} {a b : Int} (hg : huGv a b = true) (h : huIs l a b = true) (i : Nat) (hi : i < l.length) : Ev (fun k => impl_otherRoot.f k l a (i : Int)) (oth l a i) ∧ Ev (fun k => spec_huOther.f k l a (i : Int)) (oth l a i) := by
  have hb := huIs_bd hg h i hi
  obtain ⟨h1, h2, h3, h4⟩ := huIs_iff.1 h
  exact ⟨otherRoot_ev l a i h2 (by omega) hi (by omega) (by omega), huOther_ev l a i h2 (by omega) hi (by omega) (by omega)⟩
end Go.Proofs.Ytgpoljimomfbbaa.P

-- UhuAt
namespace Go.Proofs.Ytgpoljimomfbbaa.P
set_option linter.unusedVariables false
set_option linter.unusedSimpArgs false
open Go.RowKit Go.Proofs.YtgpoljimomfbbaaW.PrintWords Go.Proofs.YtgpoljimomfbbaaW.PrintLast Go.Proofs.YtgpoljimomfbbaaW.PrintMore

def huSol (l : List Int) (a b : Int) : Bool := huGv a b && huIs l a b
theorem isSolution_ev (l : List Int) (a b : Int) : Ev (fun k => impl_isSolution.f k l a b) (huSol l a b) := by
  unfold impl_isSolution.f huSol
  refine Ev.bind0 (areGiven_is a b) ?_
  cases hg : huGv a b with
  | false =>
    simp only [Bool.false_eq_true, if_false, Bool.false_and]
    exact Ev.is rfl
  | true =>
    simp only [if_true, Bool.true_and]
    exact Ev.bind (isHurwitz_ev l a b hg) (Ev.is rfl)
theorem huSol_iff {l : List Int} {a b : Int} : huSol l a b = true ↔ huGv a b = true ∧ huIs l a b = true := by simp [huSol]
end Go.Proofs.Ytgpoljimomfbbaa.P
