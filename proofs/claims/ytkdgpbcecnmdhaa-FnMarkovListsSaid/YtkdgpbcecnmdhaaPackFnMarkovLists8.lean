/- All triples up to a bound are told in order, with all that are below them, and each number is the greatest one of those that are told. No condition. -/
import Derived.Test.YtkdgpbcecnmdhaaPackFnMarkovLists7
-- PFFnMarkovLists
namespace Go.Proofs.Ytkdgpbcecnmdhaa.P
open Go.RowKit Go.Proofs.YtkdgpbcecnmdhaaW.PrintWords Go.Proofs.YtkdgpbcecnmdhaaW.PrintLast Go.Proofs.YtkdgpbcecnmdhaaW.PrintWords.Kd
set_option linter.unusedVariables false
set_option linter.unusedSimpArgs false

set_option maxHeartbeats 8000000 in
set_option maxRecDepth 100000 in
theorem laws_FnMarkovLists.calls (k : Nat) (A0 : Option Addr) (c0 : Nat) (l0 : List Int) (A1 : Option Addr) (c1 : Nat) (l1 : List Int) (r : Bool) (w : World) (hr0 : Kd.C (Kd.int .u8) w A0 l0.length l0) (hc0 : l0.length ≤ c0) (hr1 : Kd.C (Kd.int .u8) w A1 l1.length l1) (hc1 : l1.length ≤ c1) (h : laws_FnMarkovLists.f k l0 l1 = some r) :
  Calls Try.prog 7 #[.slice A0 l0.length c0, .slice A1 l1.length c1] w fun e w' => e = .returned (.bool r) ∧ Below w.heap.size w w' := by
 have HR0 := Aside0.mk hr0
 have HC0 := Aside0.mk hc0
 clear hr0 hc0
 have HR1 := Aside0.mk hr1
 have HC1 := Aside0.mk hc1
 clear hr1 hc1
 have HB := Aside0.mk (Below.refl w.heap.size w)
 have H : ((laws_big.f l0 l1).bind fun t437 => (if t437 = true then (some true) else ((spec_DrawMarkovUpTo.f l0).bind fun t438 => ((impl_MarkovUpTo.f k t438).bind fun bt439 => ((spec_MarkovUpTo.f k t438).bind fun bt443 => ((impl_MarkovNumbersUpTo.f k t438).bind fun bt447 => ((spec_MarkovNumbersUpTo.f k t438).bind fun bt451 => (if (bt439.2 != bt443.2) = true then (laws_FnMarkovLists.j0 k l1 t438 bt439.1 bt447.1 true) else ((laws_dLists.f k bt439.1 bt443.1).bind fun t455 => (if t455 = true then (if (bt447.2 != bt451.2) = true then (laws_FnMarkovLists.j0 k l1 t438 bt439.1 bt447.1 true) else ((laws_dSame.f k bt447.1 bt451.1).bind fun t456 => (if t456 = true then (laws_FnMarkovLists.j0 k l1 t438 bt439.1 bt447.1 (bt447.2 != bt439.2)) else (laws_FnMarkovLists.j0 k l1 t438 bt439.1 bt447.1 true)))) else (laws_FnMarkovLists.j0 k l1 t438 bt439.1 bt447.1 true))))))))))) = some r := h
 clear h
 replace H := Option.bind_eq_some_iff.mp H
 obtain ⟨t437, A30, H⟩ := H
 replace H : (if t437 = true then (some true) else ((spec_DrawMarkovUpTo.f l0).bind fun t438 => ((impl_MarkovUpTo.f k t438).bind fun bt439 => ((spec_MarkovUpTo.f k t438).bind fun bt443 => ((impl_MarkovNumbersUpTo.f k t438).bind fun bt447 => ((spec_MarkovNumbersUpTo.f k t438).bind fun bt451 => (if (bt439.2 != bt443.2) = true then (laws_FnMarkovLists.j0 k l1 t438 bt439.1 bt447.1 true) else ((laws_dLists.f k bt439.1 bt443.1).bind fun t455 => (if t455 = true then (if (bt447.2 != bt451.2) = true then (laws_FnMarkovLists.j0 k l1 t438 bt439.1 bt447.1 true) else ((laws_dSame.f k bt447.1 bt451.1).bind fun t456 => (if t456 = true then (laws_FnMarkovLists.j0 k l1 t438 bt439.1 bt447.1 (bt447.2 != bt439.2)) else (laws_FnMarkovLists.j0 k l1 t438 bt439.1 bt447.1 true)))) else (laws_FnMarkovLists.j0 k l1 t438 bt439.1 bt447.1 true)))))))))) = some r := H
 have A3 := Aside0.mk A30
 clear A30
 by_cases c4 : t437 = true
 ·subst c4
  have H1 : (some true) = some r := by rw [if_pos rfl] at H; exact H
  clear H; have H := H1; clear H1
  obtain rfl := Option.some.inj H
  go_enter Try.func7, Try.ntmps7
  go_wp2_with (first | ((with_reducible refine gate_callee (f := 22) rfl ?_); refine goesL_ (some 34) rfl rfl Try.func22 (by kernel_rfl) rfl #[.slice A0 l0.length c0, .slice A1 l1.length c1] rfl (by (try simp only [List.map_toArray, List.map_cons, List.map_nil]); first | done | rfl) ?_; (with_reducible refine (laws_big.calls _ _ l0 _ _ l1 true _ ?side1 ?side2 ?side3 ?side4 A3.out).mono ?_); (case side1 => repeat (first | exact HR0.out | (with_reducible first | refine C_alloc ?_ _ | refine C_drewN ?_ _ | refine C_drew ?_))); (case side2 => exact HC0.out); (case side3 => repeat (first | exact HR1.out | (with_reducible first | refine C_alloc ?_ _ | refine C_drewN ?_ _ | refine C_drew ?_))); (case side4 => exact HC1.out); rintro e w' ⟨rfl, ⟨nd, rfl⟩⟩; refine ⟨_, rfl, ?_⟩))
  go_ret
  exact ⟨by first | rfl | (simp [*] <;> rfl), by repeat (first | (with_reducible first | exact HB.out | apply below_alloc | apply pw_below_drewN | apply below_drew1) | exact HB.out)⟩
 ·as_aux_lemma =>
  replace c4 := Bool.eq_false_iff.mpr c4
  subst c4
  have H1 : ((spec_DrawMarkovUpTo.f l0).bind fun t438 => ((impl_MarkovUpTo.f k t438).bind fun bt439 => ((spec_MarkovUpTo.f k t438).bind fun bt443 => ((impl_MarkovNumbersUpTo.f k t438).bind fun bt447 => ((spec_MarkovNumbersUpTo.f k t438).bind fun bt451 => (if (bt439.2 != bt443.2) = true then (laws_FnMarkovLists.j0 k l1 t438 bt439.1 bt447.1 true) else ((laws_dLists.f k bt439.1 bt443.1).bind fun t455 => (if t455 = true then (if (bt447.2 != bt451.2) = true then (laws_FnMarkovLists.j0 k l1 t438 bt439.1 bt447.1 true) else ((laws_dSame.f k bt447.1 bt451.1).bind fun t456 => (if t456 = true then (laws_FnMarkovLists.j0 k l1 t438 bt439.1 bt447.1 (bt447.2 != bt439.2)) else (laws_FnMarkovLists.j0 k l1 t438 bt439.1 bt447.1 true)))) else (laws_FnMarkovLists.j0 k l1 t438 bt439.1 bt447.1 true))))))))) = some r := by rw [if_neg (show ¬ (false = true) by decide)] at H; exact H
  clear H; have H := H1; clear H1
  replace H := Option.bind_eq_some_iff.mp H
  obtain ⟨t438, A50, H⟩ := H
  replace H : ((impl_MarkovUpTo.f k t438).bind fun bt439 => ((spec_MarkovUpTo.f k t438).bind fun bt443 => ((impl_MarkovNumbersUpTo.f k t438).bind fun bt447 => ((spec_MarkovNumbersUpTo.f k t438).bind fun bt451 => (if (bt439.2 != bt443.2) = true then (laws_FnMarkovLists.j0 k l1 t438 bt439.1 bt447.1 true) else ((laws_dLists.f k bt439.1 bt443.1).bind fun t455 => (if t455 = true then (if (bt447.2 != bt451.2) = true then (laws_FnMarkovLists.j0 k l1 t438 bt439.1 bt447.1 true) else ((laws_dSame.f k bt447.1 bt451.1).bind fun t456 => (if t456 = true then (laws_FnMarkovLists.j0 k l1 t438 bt439.1 bt447.1 (bt447.2 != bt439.2)) else (laws_FnMarkovLists.j0 k l1 t438 bt439.1 bt447.1 true)))) else (laws_FnMarkovLists.j0 k l1 t438 bt439.1 bt447.1 true)))))))) = some r := H
  have A5 := Aside0.mk A50
  clear A50
  replace H := Option.bind_eq_some_iff.mp H
  obtain ⟨⟨t439, t440⟩, A60, H⟩ := H
  replace H : ((spec_MarkovUpTo.f k t438).bind fun bt443 => ((impl_MarkovNumbersUpTo.f k t438).bind fun bt447 => ((spec_MarkovNumbersUpTo.f k t438).bind fun bt451 => (if (t440 != bt443.2) = true then (laws_FnMarkovLists.j0 k l1 t438 t439 bt447.1 true) else ((laws_dLists.f k t439 bt443.1).bind fun t455 => (if t455 = true then (if (bt447.2 != bt451.2) = true then (laws_FnMarkovLists.j0 k l1 t438 t439 bt447.1 true) else ((laws_dSame.f k bt447.1 bt451.1).bind fun t456 => (if t456 = true then (laws_FnMarkovLists.j0 k l1 t438 t439 bt447.1 (bt447.2 != t440)) else (laws_FnMarkovLists.j0 k l1 t438 t439 bt447.1 true)))) else (laws_FnMarkovLists.j0 k l1 t438 t439 bt447.1 true))))))) = some r := H
  have A6 := Aside0.mk A60
  clear A60
  replace H := Option.bind_eq_some_iff.mp H
  obtain ⟨⟨t443, t446⟩, A70, H⟩ := H
  replace H : ((impl_MarkovNumbersUpTo.f k t438).bind fun bt447 => ((spec_MarkovNumbersUpTo.f k t438).bind fun bt451 => (if (t440 != t446) = true then (laws_FnMarkovLists.j0 k l1 t438 t439 bt447.1 true) else ((laws_dLists.f k t439 t443).bind fun t455 => (if t455 = true then (if (bt447.2 != bt451.2) = true then (laws_FnMarkovLists.j0 k l1 t438 t439 bt447.1 true) else ((laws_dSame.f k bt447.1 bt451.1).bind fun t456 => (if t456 = true then (laws_FnMarkovLists.j0 k l1 t438 t439 bt447.1 (bt447.2 != t440)) else (laws_FnMarkovLists.j0 k l1 t438 t439 bt447.1 true)))) else (laws_FnMarkovLists.j0 k l1 t438 t439 bt447.1 true)))))) = some r := H
  have A7 := Aside0.mk A70
  clear A70
  replace H := Option.bind_eq_some_iff.mp H
  obtain ⟨⟨t447, t448⟩, A80, H⟩ := H
  replace H : ((spec_MarkovNumbersUpTo.f k t438).bind fun bt451 => (if (t440 != t446) = true then (laws_FnMarkovLists.j0 k l1 t438 t439 t447 true) else ((laws_dLists.f k t439 t443).bind fun t455 => (if t455 = true then (if (t448 != bt451.2) = true then (laws_FnMarkovLists.j0 k l1 t438 t439 t447 true) else ((laws_dSame.f k t447 bt451.1).bind fun t456 => (if t456 = true then (laws_FnMarkovLists.j0 k l1 t438 t439 t447 (t448 != t440)) else (laws_FnMarkovLists.j0 k l1 t438 t439 t447 true)))) else (laws_FnMarkovLists.j0 k l1 t438 t439 t447 true))))) = some r := H
  have A8 := Aside0.mk A80
  clear A80
  replace H := Option.bind_eq_some_iff.mp H
  obtain ⟨⟨t451, t452⟩, A90, H⟩ := H
  replace H : (if (t440 != t446) = true then (laws_FnMarkovLists.j0 k l1 t438 t439 t447 true) else ((laws_dLists.f k t439 t443).bind fun t455 => (if t455 = true then (if (t448 != t452) = true then (laws_FnMarkovLists.j0 k l1 t438 t439 t447 true) else ((laws_dSame.f k t447 t451).bind fun t456 => (if t456 = true then (laws_FnMarkovLists.j0 k l1 t438 t439 t447 (t448 != t440)) else (laws_FnMarkovLists.j0 k l1 t438 t439 t447 true)))) else (laws_FnMarkovLists.j0 k l1 t438 t439 t447 true)))) = some r := H
  have A9 := Aside0.mk A90
  clear A90
  have HC10 := Aside0.mk H
  clear H
  go_enter Try.func7, Try.ntmps7
  go_upto_region 8 with (first | ((with_reducible refine gate_callee (f := 22) rfl ?_); refine goesL_ (some 34) rfl rfl Try.func22 (by kernel_rfl) rfl #[.slice A0 l0.length c0, .slice A1 l1.length c1] rfl (by (try simp only [List.map_toArray, List.map_cons, List.map_nil]); first | done | rfl) ?_; (with_reducible refine (laws_big.calls _ _ l0 _ _ l1 false _ ?side1 ?side2 ?side3 ?side4 A3.out).mono ?_); (case side1 => repeat (first | exact HR0.out | (with_reducible first | refine C_alloc ?_ _ | refine C_drewN ?_ _ | refine C_drew ?_))); (case side2 => exact HC0.out); (case side3 => repeat (first | exact HR1.out | (with_reducible first | refine C_alloc ?_ _ | refine C_drewN ?_ _ | refine C_drew ?_))); (case side4 => exact HC1.out); rintro e w' ⟨rfl, ⟨nd, rfl⟩⟩; refine ⟨_, rfl, ?_⟩) | ((with_reducible refine gate_callee (f := 23) rfl ?_); refine goesL_ (some 36) rfl rfl Try.func23 (by kernel_rfl) rfl #[.slice A0 l0.length c0] rfl (by (try simp only [List.map_toArray, List.map_cons, List.map_nil]); first | done | rfl) ?_; (with_reducible refine (spec_DrawMarkovUpTo.calls _ _ l0 t438 _ ?side1 ?side2 A5.out).mono ?_); (case side1 => repeat (first | exact HR0.out | (with_reducible first | refine C_alloc ?_ _ | refine C_drewN ?_ _ | refine C_drew ?_))); (case side2 => exact HC0.out); rintro e w11 ⟨rfl, hb⟩; refine ⟨_, rfl, ?_⟩; have n0_ := Aside0.mk (below_step (by repeat (first | (with_reducible first | exact HB.out | apply below_alloc | apply pw_below_drewN | apply below_drew1) | exact HB.out)) hb); clear HB; have HB := n0_; clear n0_; (try clear hb); (try clear hb2); (try clear hk); (try clear hi)) | ((with_reducible refine gate_callee (f := 11) rfl ?_); refine goesL_ (some 39) rfl rfl Try.func11 (by kernel_rfl) rfl #[.int .i64 t438] rfl (by (try simp only [List.map_toArray, List.map_cons, List.map_nil]); first | done | rfl) ?_; (with_reducible refine (impl_MarkovUpTo.calls k t438 t439 t440 _ A6.out).mono ?_); rintro e w12 ⟨v441, rfl, ho0, hb⟩; refine ⟨_, rfl, ?_⟩; have n0_ := Aside0.mk (N_lower (N_mono (ok' := fun k_ => True) (S_N (S_bound ho0)) (fun k_ hk_ => trivial)) (below_size (by repeat (first | (with_reducible first | exact HB.out | apply below_alloc | apply pw_below_drewN | apply below_drew1) | exact HB.out)))); have n1_ := Aside0.mk (below_step (by repeat (first | (with_reducible first | exact HB.out | apply below_alloc | apply pw_below_drewN | apply below_drew1) | exact HB.out)) hb); clear HB; have HO442 := n0_; have HB := n1_; clear n0_ n1_; (try clear hb); (try clear hb2); (try clear hk); (try clear hi); (try clear ho0)) | ((with_reducible refine gate_callee (f := 10) rfl ?_); refine goesL_ (some 44) rfl rfl Try.func10 (by kernel_rfl) rfl #[.int .i64 t438] rfl (by (try simp only [List.map_toArray, List.map_cons, List.map_nil]); first | done | rfl) ?_; (with_reducible refine (spec_MarkovUpTo.calls k t438 t443 t446 _ A7.out).mono ?_); rintro e w13 ⟨v444, rfl, ho0, hb⟩; refine ⟨_, rfl, ?_⟩; have n0_ := Aside0.mk (N_below (by (with_reducible repeat (first | apply N_alloc | apply N_drewN | apply N_drew)); exact HO442.out) hb); have n1_ := Aside0.mk (V_lower (V_mono (ok' := fun k_ => some k_ ≠ (v441 : Value).ownBlock) ho0 (fun k_ hk_ => (Kd.fresh' (N_lt (by (with_reducible repeat (first | apply N_alloc | apply N_drewN | apply N_drew)); exact HO442.out)) k_ hk_))) (below_size (by repeat (first | (with_reducible first | exact HB.out | apply below_alloc | apply pw_below_drewN | apply below_drew1) | exact HB.out)))); have n2_ := Aside0.mk (below_step (by repeat (first | (with_reducible first | exact HB.out | apply below_alloc | apply pw_below_drewN | apply below_drew1) | exact HB.out)) hb); clear HO442; clear HB; have HO442 := n0_; have HO445 := n1_; have HB := n2_; clear n0_ n1_ n2_; (try clear hb); (try clear hb2); (try clear hk); (try clear hi); (try clear ho0)) | ((with_reducible refine gate_callee (f := 16) rfl ?_); refine goesL_ (some 49) rfl rfl Try.func16 (by kernel_rfl) rfl #[.int .i64 t438] rfl (by (try simp only [List.map_toArray, List.map_cons, List.map_nil]); first | done | rfl) ?_; (with_reducible refine (impl_MarkovNumbersUpTo.calls k t438 t447 t448 _ A8.out).mono ?_); rintro e w14 ⟨v449, rfl, ho0, hb⟩; refine ⟨_, rfl, ?_⟩; have n0_ := Aside0.mk (N_elder' (by (with_reducible repeat (first | apply N_alloc | apply N_drewN | apply N_drew)); exact HO442.out) (R_base ho0) hb); have n1_ := Aside0.mk (V_elder' (by (with_reducible repeat (first | apply V_alloc | apply V_drewN | apply V_drew)); exact HO445.out) (R_base ho0) hb); have n2_ := Aside0.mk (R_lower ho0 (below_size (by repeat (first | (with_reducible first | exact HB.out | apply below_alloc | apply pw_below_drewN | apply below_drew1) | exact HB.out)))); have n3_ := Aside0.mk (below_step (by repeat (first | (with_reducible first | exact HB.out | apply below_alloc | apply pw_below_drewN | apply below_drew1) | exact HB.out)) hb); clear HO442; clear HO445; clear HB; have HO442 := n0_; have HO445 := n1_; have HO450 := n2_; have HB := n3_; clear n0_ n1_ n2_ n3_; (try clear hb); (try clear hb2); (try clear hk); (try clear hi); (try clear ho0)) | ((with_reducible refine gate_callee (f := 15) rfl ?_); refine goesL_ (some 54) rfl rfl Try.func15 (by kernel_rfl) rfl #[.int .i64 t438] rfl (by (try simp only [List.map_toArray, List.map_cons, List.map_nil]); first | done | rfl) ?_; (with_reducible refine (spec_MarkovNumbersUpTo.calls k t438 t451 t452 _ A9.out).mono ?_); rintro e w15 ⟨v453, rfl, ho0, hb⟩; refine ⟨_, rfl, ?_⟩; have n0_ := Aside0.mk (N_elder' (by (with_reducible repeat (first | apply N_alloc | apply N_drewN | apply N_drew)); exact HO442.out) (R_base ho0) hb); have n1_ := Aside0.mk (V_elder' (by (with_reducible repeat (first | apply V_alloc | apply V_drewN | apply V_drew)); exact HO445.out) (R_base ho0) hb); have n2_ := Aside0.mk (R_elder' (by (with_reducible repeat (first | apply R_alloc | apply R_drewN | apply R_drew)); exact HO450.out) (R_base ho0) hb); have n3_ := Aside0.mk (R_lower (R_new' ho0 (R_lt (by (with_reducible repeat (first | apply R_alloc | apply R_drewN | apply R_drew)); exact HO450.out))) (below_size (by repeat (first | (with_reducible first | exact HB.out | apply below_alloc | apply pw_below_drewN | apply below_drew1) | exact HB.out)))); have n4_ := Aside0.mk (below_step (by repeat (first | (with_reducible first | exact HB.out | apply below_alloc | apply pw_below_drewN | apply below_drew1) | exact HB.out)) hb); clear HO442; clear HO445; clear HO450; clear HB; have HO442 := n0_; have HO445 := n1_; have HO450 := n2_; have HO454 := n3_; have HB := n4_; clear n0_ n1_ n2_ n3_ n4_; (try clear hb); (try clear hb2); (try clear hk); (try clear hi); (try clear ho0)))
  (try simp only [Act.put, List.setIfInBounds_toArray, List.set_cons_zero, List.set_cons_succ])
  go_cut [81] (fun v81 wc => ∃ (kq : Nat) (x81_9 : Bool), v81 = .bool x81_9 ∧ Aside0 (laws_FnMarkovLists.j0 kq l1 t438 t439 t447 x81_9 = some r) ∧ Aside0 (kq ≤ k) ∧ Aside0 (Kd.N (Kd.slice 3 (Kd.int .i64)) 30 wc w.heap.size (fun k_ => some k_ ≠ (v449 : Value).ownBlock) v441 t439) ∧ Aside0 (Kd.R (Kd.int .i64) 3 wc w.heap.size (fun _ => True) v449 t447) ∧ Aside0 (Below w.heap.size w wc))
  case first => as_aux_lemma =>
   have H := HC10.out; clear HC10
   by_cases c16 : (t440 != t446) = true
   ·rw [if_pos c16] at H
    have c16b0 : (t440 != t446) = true := c16
    (try (have c16b1 : decide (t440 = t446) = false := by simpa using c16))
    (try (have c16b2 : (t440 == t446) = false := by simpa using c16))
    (try (have c16b3 : ¬ (t440 = t446) := by simpa using c16))
    clear c16
    (first | rw [c16b0] | (simp only [i64_w, i32_w]; rw [c16b0]) | skip)
    have H' := Aside0.mk H
    clear H
    go_wp2
    go_meet
    case rel => exact ⟨_, (true), (by first | rfl | (simp; done) | (simp [*]; done)), H', ⟨by first | omega | exact Nat.le_refl _⟩, ⟨by (with_reducible repeat (first | apply N_alloc | apply N_drewN | apply N_drew)); exact N_mono HO442.out (fun _ hk => hk.1.2)⟩, ⟨by (with_reducible repeat (first | apply R_alloc | apply R_drewN | apply R_drew)); exact R_mono HO450.out (fun _ hk => trivial)⟩, ⟨by repeat (first | (with_reducible first | exact HB.out | apply below_alloc | apply pw_below_drewN | apply below_drew1) | exact HB.out)⟩⟩
   ·as_aux_lemma =>
    rw [if_neg c16] at H
    have c16b0 : (t440 != t446) = false := by simpa using c16
    (try (have c16b1 : decide (t440 = t446) = true := by simpa using c16))
    (try (have c16b2 : (t440 == t446) = true := by simpa using c16))
    clear c16
    (first | rw [c16b0] | (simp only [i64_w, i32_w]; rw [c16b0]) | skip)
    replace H := Option.bind_eq_some_iff.mp H
    obtain ⟨t455, A170, H⟩ := H
    replace H : (if t455 = true then (if (t448 != t452) = true then (laws_FnMarkovLists.j0 k l1 t438 t439 t447 true) else ((laws_dSame.f k t447 t451).bind fun t456 => (if t456 = true then (laws_FnMarkovLists.j0 k l1 t438 t439 t447 (t448 != t440)) else (laws_FnMarkovLists.j0 k l1 t438 t439 t447 true)))) else (laws_FnMarkovLists.j0 k l1 t438 t439 t447 true)) = some r := H
    have A17 := Aside0.mk A170
    clear A170
    by_cases c18 : t455 = true
    ·as_aux_lemma =>
     subst c18
     have H1 : (if (t448 != t452) = true then (laws_FnMarkovLists.j0 k l1 t438 t439 t447 true) else ((laws_dSame.f k t447 t451).bind fun t456 => (if t456 = true then (laws_FnMarkovLists.j0 k l1 t438 t439 t447 (t448 != t440)) else (laws_FnMarkovLists.j0 k l1 t438 t439 t447 true)))) = some r := by rw [if_pos rfl] at H; exact H
     clear H; have H := H1; clear H1
     by_cases c19 : (t448 != t452) = true
     ·as_aux_lemma =>
      rw [if_pos c19] at H
      have c19b0 : (t448 != t452) = true := c19
      (try (have c19b1 : decide (t448 = t452) = false := by simpa using c19))
      (try (have c19b2 : (t448 == t452) = false := by simpa using c19))
      (try (have c19b3 : ¬ (t448 = t452) := by simpa using c19))
      clear c19
      have H' := Aside0.mk H
      clear H
      obtain ⟨Ao20, co20, eo20⟩ := N_slice HO442.out
      subst eo20
      obtain ⟨Ao21, co21, eo21⟩ := V_slice HO445.out
      subst eo21
      go_wp2_with (first | (go_at_call 24; (with_reducible refine (laws_dLists.calls k _ _ t439 _ _ t443 true _ ?side1 ?side2 ?side3 ?side4 A17.out).mono ?_); (case side1 => repeat (first | exact (N_reads' HO442.out).2.2 | (with_reducible first | refine C_alloc ?_ _ | refine C_drewN ?_ _ | refine C_drew ?_))); (case side2 => exact (N_reads' HO442.out).2.1); (case side3 => repeat (first | exact (V_reads' HO445.out).2.2 | (with_reducible first | refine C_alloc ?_ _ | refine C_drewN ?_ _ | refine C_drew ?_))); (case side4 => exact (V_reads' HO445.out).2.1); rintro e w' ⟨rfl, ⟨nd, rfl⟩⟩))
      go_meet
      case rel => exact ⟨_, (true), (by first | rfl | (simp; done) | (simp [*]; done)), H', ⟨by first | omega | exact Nat.le_refl _⟩, ⟨by (with_reducible repeat (first | apply N_alloc | apply N_drewN | apply N_drew)); exact N_mono HO442.out (fun _ hk => hk.1.2)⟩, ⟨by (with_reducible repeat (first | apply R_alloc | apply R_drewN | apply R_drew)); exact R_mono HO450.out (fun _ hk => trivial)⟩, ⟨by repeat (first | (with_reducible first | exact HB.out | apply below_alloc | apply pw_below_drewN | apply below_drew1) | exact HB.out)⟩⟩
     ·as_aux_lemma =>
      rw [if_neg c19] at H
      have c19b0 : (t448 != t452) = false := by simpa using c19
      (try (have c19b1 : decide (t448 = t452) = true := by simpa using c19))
      (try (have c19b2 : (t448 == t452) = true := by simpa using c19))
      clear c19
      replace H := Option.bind_eq_some_iff.mp H
      obtain ⟨t456, A220, H⟩ := H
      replace H : (if t456 = true then (laws_FnMarkovLists.j0 k l1 t438 t439 t447 (t448 != t440)) else (laws_FnMarkovLists.j0 k l1 t438 t439 t447 true)) = some r := H
      have A22 := Aside0.mk A220
      clear A220
      by_cases c23 : t456 = true
      ·as_aux_lemma =>
       subst c23
       have H1 : (laws_FnMarkovLists.j0 k l1 t438 t439 t447 (t448 != t440)) = some r := by rw [if_pos rfl] at H; exact H
       clear H; have H := H1; clear H1
       have H' := Aside0.mk H
       clear H
       obtain ⟨Ao24, co24, eo24⟩ := N_slice HO442.out
       subst eo24
       obtain ⟨Ao25, co25, eo25⟩ := V_slice HO445.out
       subst eo25
       go_wp2_with (first | (go_at_call 24; (with_reducible refine (laws_dLists.calls k _ _ t439 _ _ t443 true _ ?side1 ?side2 ?side3 ?side4 A17.out).mono ?_); (case side1 => repeat (first | exact (N_reads' HO442.out).2.2 | (with_reducible first | refine C_alloc ?_ _ | refine C_drewN ?_ _ | refine C_drew ?_))); (case side2 => exact (N_reads' HO442.out).2.1); (case side3 => repeat (first | exact (V_reads' HO445.out).2.2 | (with_reducible first | refine C_alloc ?_ _ | refine C_drewN ?_ _ | refine C_drew ?_))); (case side4 => exact (V_reads' HO445.out).2.1); rintro e w' ⟨rfl, ⟨nd, rfl⟩⟩; obtain ⟨Ao26, co26, eo26⟩ := R_slice HO450.out; subst eo26; obtain ⟨Ao27, co27, eo27⟩ := R_slice HO454.out; subst eo27) | (go_at_call 25; (with_reducible refine (laws_dSame.calls k _ _ t447 _ _ t451 true _ ?side1 ?side2 ?side3 ?side4 A22.out).mono ?_); (case side1 => repeat (first | exact (R_reads' HO450.out).2.2 | (with_reducible first | refine C_alloc ?_ _ | refine C_drewN ?_ _ | refine C_drew ?_))); (case side2 => exact (R_reads' HO450.out).2.1); (case side3 => repeat (first | exact (R_reads' HO454.out).2.2 | (with_reducible first | refine C_alloc ?_ _ | refine C_drewN ?_ _ | refine C_drew ?_))); (case side4 => exact (R_reads' HO454.out).2.1); rintro e w' ⟨rfl, ⟨nd, rfl⟩⟩))
       go_meet
       case rel => exact ⟨_, ((t448 != t440)), (by first | rfl | (simp; done) | (simp [*]; done)), H', ⟨by first | omega | exact Nat.le_refl _⟩, ⟨by (with_reducible repeat (first | apply N_alloc | apply N_drewN | apply N_drew)); exact N_mono HO442.out (fun _ hk => hk.1.2)⟩, ⟨by (with_reducible repeat (first | apply R_alloc | apply R_drewN | apply R_drew)); exact R_mono HO450.out (fun _ hk => trivial)⟩, ⟨by repeat (first | (with_reducible first | exact HB.out | apply below_alloc | apply pw_below_drewN | apply below_drew1) | exact HB.out)⟩⟩
      ·as_aux_lemma =>
       replace c23 := Bool.eq_false_iff.mpr c23
       subst c23
       have H1 : (laws_FnMarkovLists.j0 k l1 t438 t439 t447 true) = some r := by rw [if_neg (show ¬ (false = true) by decide)] at H; exact H
       clear H; have H := H1; clear H1
       have H' := Aside0.mk H
       clear H
       obtain ⟨Ao28, co28, eo28⟩ := N_slice HO442.out
       subst eo28
       obtain ⟨Ao29, co29, eo29⟩ := V_slice HO445.out
       subst eo29
       go_wp2_with (first | (go_at_call 24; (with_reducible refine (laws_dLists.calls k _ _ t439 _ _ t443 true _ ?side1 ?side2 ?side3 ?side4 A17.out).mono ?_); (case side1 => repeat (first | exact (N_reads' HO442.out).2.2 | (with_reducible first | refine C_alloc ?_ _ | refine C_drewN ?_ _ | refine C_drew ?_))); (case side2 => exact (N_reads' HO442.out).2.1); (case side3 => repeat (first | exact (V_reads' HO445.out).2.2 | (with_reducible first | refine C_alloc ?_ _ | refine C_drewN ?_ _ | refine C_drew ?_))); (case side4 => exact (V_reads' HO445.out).2.1); rintro e w' ⟨rfl, ⟨nd, rfl⟩⟩; obtain ⟨Ao30, co30, eo30⟩ := R_slice HO450.out; subst eo30; obtain ⟨Ao31, co31, eo31⟩ := R_slice HO454.out; subst eo31) | (go_at_call 25; (with_reducible refine (laws_dSame.calls k _ _ t447 _ _ t451 false _ ?side1 ?side2 ?side3 ?side4 A22.out).mono ?_); (case side1 => repeat (first | exact (R_reads' HO450.out).2.2 | (with_reducible first | refine C_alloc ?_ _ | refine C_drewN ?_ _ | refine C_drew ?_))); (case side2 => exact (R_reads' HO450.out).2.1); (case side3 => repeat (first | exact (R_reads' HO454.out).2.2 | (with_reducible first | refine C_alloc ?_ _ | refine C_drewN ?_ _ | refine C_drew ?_))); (case side4 => exact (R_reads' HO454.out).2.1); rintro e w' ⟨rfl, ⟨nd, rfl⟩⟩))
       go_meet
       case rel => exact ⟨_, (true), (by first | rfl | (simp; done) | (simp [*]; done)), H', ⟨by first | omega | exact Nat.le_refl _⟩, ⟨by (with_reducible repeat (first | apply N_alloc | apply N_drewN | apply N_drew)); exact N_mono HO442.out (fun _ hk => hk.1.2)⟩, ⟨by (with_reducible repeat (first | apply R_alloc | apply R_drewN | apply R_drew)); exact R_mono HO450.out (fun _ hk => trivial)⟩, ⟨by repeat (first | (with_reducible first | exact HB.out | apply below_alloc | apply pw_below_drewN | apply below_drew1) | exact HB.out)⟩⟩
    ·as_aux_lemma =>
     replace c18 := Bool.eq_false_iff.mpr c18
     subst c18
     have H1 : (laws_FnMarkovLists.j0 k l1 t438 t439 t447 true) = some r := by rw [if_neg (show ¬ (false = true) by decide)] at H; exact H
     clear H; have H := H1; clear H1
     have H' := Aside0.mk H
     clear H
     obtain ⟨Ao32, co32, eo32⟩ := N_slice HO442.out
     subst eo32
     obtain ⟨Ao33, co33, eo33⟩ := V_slice HO445.out
     subst eo33
     go_wp2_with (first | (go_at_call 24; (with_reducible refine (laws_dLists.calls k _ _ t439 _ _ t443 false _ ?side1 ?side2 ?side3 ?side4 A17.out).mono ?_); (case side1 => repeat (first | exact (N_reads' HO442.out).2.2 | (with_reducible first | refine C_alloc ?_ _ | refine C_drewN ?_ _ | refine C_drew ?_))); (case side2 => exact (N_reads' HO442.out).2.1); (case side3 => repeat (first | exact (V_reads' HO445.out).2.2 | (with_reducible first | refine C_alloc ?_ _ | refine C_drewN ?_ _ | refine C_drew ?_))); (case side4 => exact (V_reads' HO445.out).2.1); rintro e w' ⟨rfl, ⟨nd, rfl⟩⟩))
     go_meet
     case rel => exact ⟨_, (true), (by first | rfl | (simp; done) | (simp [*]; done)), H', ⟨by first | omega | exact Nat.le_refl _⟩, ⟨by (with_reducible repeat (first | apply N_alloc | apply N_drewN | apply N_drew)); exact N_mono HO442.out (fun _ hk => hk.1.2)⟩, ⟨by (with_reducible repeat (first | apply R_alloc | apply R_drewN | apply R_drew)); exact R_mono HO450.out (fun _ hk => trivial)⟩, ⟨by repeat (first | (with_reducible first | exact HB.out | apply below_alloc | apply pw_below_drewN | apply below_drew1) | exact HB.out)⟩⟩
  case rest => as_aux_lemma =>
   clear HC10
   (try clear c1); (try clear c2); (try clear p2); (try clear c4); (try clear c7); (try clear c10); (try clear c11); (try clear c15); (try clear c16); (try clear c16b0); (try clear c16b1); (try clear c16b2); (try clear c18); (try clear c19); (try clear c19b0); (try clear c19b1); (try clear c19b2); (try clear c22); (try clear c23)
   obtain ⟨kq, x81_9, rfl, HA, HJ9, HO_6, HO_10, HB⟩ := hcut
   cases kq with
   | zero => exact absurd HA.out (by simp [laws_FnMarkovLists.j0])
   | succ kj9 =>
    have H := HA.out; clear HA
    simp only [laws_FnMarkovLists.j0] at H
    by_cases c34 : x81_9 = true
    ·subst c34
     have H1 : (some false) = some r := by rw [if_pos rfl] at H; exact H
     clear H; have H := H1; clear H1
     obtain rfl := Option.some.inj H
     go_wp2
     go_ret
     exact ⟨by first | rfl | (simp [*] <;> rfl), by repeat (first | (with_reducible first | exact HB.out | apply below_alloc | apply pw_below_drewN | apply below_drew1) | exact HB.out)⟩
    ·as_aux_lemma =>
     replace c34 := Bool.eq_false_iff.mpr c34
     subst c34
     have H1 : (laws_FnMarkovLists.l0 kj9 l1 t438 t439 t447 t439 (t439.length : Int) 0) = some r := by rw [if_neg (show ¬ (false = true) by decide)] at H; exact H
     clear H; have H := H1; clear H1
     have H' := Aside0.mk H
     clear H
     obtain ⟨Ao35, co35, eo35⟩ := N_slice HO_6.out
     subst eo35
     go_wp2
     go_loopg [84] kj9 (fun kq v84 w' => ∃ (x84_2 : Int), v84 = .int .i64 x84_2 ∧ Aside0 (laws_FnMarkovLists.l0 kq l1 t438 t439 t447 t439 (t439.length : Int) x84_2 = some r) ∧ Aside0 (kq ≤ kj9) ∧ Aside0 (Kd.N (Kd.slice 3 (Kd.int .i64)) 30 w' w.heap.size (fun k_ => some k_ ≠ (v449 : Value).ownBlock) (.slice Ao35 t439.length co35) t439) ∧ Aside0 (Kd.R (Kd.int .i64) 3 w' w.heap.size (fun _ => True) v449 t447) ∧ Aside0 (Kd.N (Kd.slice 3 (Kd.int .i64)) 30 w' w.heap.size (fun k_ => some k_ ≠ (v449 : Value).ownBlock) (.slice Ao35 t439.length co35) t439) ∧ Aside0 (Below w.heap.size w w'))
     case atStart => exact ⟨(0), (by first | rfl | (simp; done) | (simp [*]; done)), H', ⟨Nat.le_refl _⟩, ⟨by (with_reducible repeat (first | apply N_alloc | apply N_drewN | apply N_drew)); exact HO_6.out⟩, ⟨by (with_reducible repeat (first | apply R_alloc | apply R_drewN | apply R_drew)); exact HO_10.out⟩, ⟨by (with_reducible repeat (first | apply N_alloc | apply N_drewN | apply N_drew)); exact HO_6.out⟩, ⟨by repeat (first | (with_reducible first | exact HB.out | apply below_alloc | apply pw_below_drewN | apply below_drew1) | exact HB.out)⟩⟩
     case round => as_aux_lemma =>
      clear H'
      (try clear c1); (try clear c2); (try clear p2); (try clear c3); (try clear c4); (try clear c7); (try clear c10); (try clear c11); (try clear c15); (try clear c16); (try clear c16b0); (try clear c16b1); (try clear c16b2); (try clear c18); (try clear c19); (try clear c19b0); (try clear c19b1); (try clear c19b2); (try clear c22); (try clear c23); (try clear c34); (try clear p2)
      obtain ⟨x84_2, rfl, HA, HK2, HO_6, HO_10, HO_82, HB⟩ := hrel
      cases gk with
      | zero => exact absurd HA.out (by simp [laws_FnMarkovLists.l0])
      | succ k2 =>
       have H := HA.out; clear HA
       simp only [laws_FnMarkovLists.l0] at H
       by_cases c36 : x84_2 < (t439.length : Int)
       ·as_aux_lemma =>
        rw [if_pos c36] at H
        have c36b0 : decide (x84_2 < (t439.length : Int)) = true := decide_eq_true c36
        clear c36
        by_cases c37 : 0 ≤ x84_2
        rotate_left
        ·rw [if_neg c37] at H
         exact absurd H (by simp)
        as_aux_lemma =>
        rw [if_pos c37] at H
        have c37b0 : decide (0 ≤ x84_2) = true := decide_eq_true c37
        clear c37
        by_cases c38 : x84_2 < (t439.length : Int)
        rotate_left
        ·rw [if_neg c38] at H
         exact absurd H (by simp)
        as_aux_lemma =>
        rw [if_pos c38] at H
        have c38b0 : decide (x84_2 < (t439.length : Int)) = true := decide_eq_true c38
        clear c38
        replace H := Option.bind_eq_some_iff.mp H
        obtain ⟨t458, A390, H⟩ := H
        replace H : (if t458 = true then (if 2 < ((rd_L1 t439 x84_2).length : Int) then (if (rd (rd_L1 t439 x84_2) 2) > t438 then (some false) else ((laws_dHas.f k2 t447 (rd (rd_L1 t439 x84_2) 2)).bind fun t461 => (if t461 = true then (if x84_2 > 0 then (if 0 ≤ (wrap64 (x84_2 - 1)) then (if (wrap64 (x84_2 - 1)) < (t439.length : Int) then (if 2 < ((rd_L1 t439 (wrap64 (x84_2 - 1))).length : Int) then (if (rd (rd_L1 t439 x84_2) 2) < (rd (rd_L1 t439 (wrap64 (x84_2 - 1))) 2) then (some false) else ((impl_MarkovDown.f k2 (rd_L1 t439 x84_2)).bind fun bt465 => (if x84_2 ≤ (t439.length : Int) then ((some (t439.take (x84_2 : Int).toNat : List (List Int))).bind fun y469 => (laws_FnMarkovLists.l1 k2 l1 t438 t439 t447 bt465.1 bt465.2 false t439 (t439.length : Int) x84_2 y469 (y469.length : Int) 0)) else (none)))) else (none)) else (none)) else (none)) else (laws_FnMarkovLists.l0 k2 l1 t438 t439 t447 t439 (t439.length : Int) (wrap64 (x84_2 + 1)))) else (some false)))) else (none)) else (some false)) = some r := H
        have A39 := Aside0.mk A390
        clear A390
        by_cases c40 : t458 = true
        ·as_aux_lemma =>
         subst c40
         have H1 : (if 2 < ((rd_L1 t439 x84_2).length : Int) then (if (rd (rd_L1 t439 x84_2) 2) > t438 then (some false) else ((laws_dHas.f k2 t447 (rd (rd_L1 t439 x84_2) 2)).bind fun t461 => (if t461 = true then (if x84_2 > 0 then (if 0 ≤ (wrap64 (x84_2 - 1)) then (if (wrap64 (x84_2 - 1)) < (t439.length : Int) then (if 2 < ((rd_L1 t439 (wrap64 (x84_2 - 1))).length : Int) then (if (rd (rd_L1 t439 x84_2) 2) < (rd (rd_L1 t439 (wrap64 (x84_2 - 1))) 2) then (some false) else ((impl_MarkovDown.f k2 (rd_L1 t439 x84_2)).bind fun bt465 => (if x84_2 ≤ (t439.length : Int) then ((some (t439.take (x84_2 : Int).toNat : List (List Int))).bind fun y469 => (laws_FnMarkovLists.l1 k2 l1 t438 t439 t447 bt465.1 bt465.2 false t439 (t439.length : Int) x84_2 y469 (y469.length : Int) 0)) else (none)))) else (none)) else (none)) else (none)) else (laws_FnMarkovLists.l0 k2 l1 t438 t439 t447 t439 (t439.length : Int) (wrap64 (x84_2 + 1)))) else (some false)))) else (none)) = some r := by rw [if_pos rfl] at H; exact H
         clear H; have H := H1; clear H1
         by_cases c41 : 2 < ((rd_L1 t439 x84_2).length : Int)
         rotate_left
         ·rw [if_neg c41] at H
          exact absurd H (by simp)
         as_aux_lemma =>
         rw [if_pos c41] at H
         have c41b0 : decide (2 < ((rd_L1 t439 x84_2).length : Int)) = true := decide_eq_true c41
         have c41b1 : decide (2 < (rd_L1 t439 x84_2).length) = true := decide_eq_true (by omega)
         clear c41
         by_cases c42 : (rd (rd_L1 t439 x84_2) 2) > t438
         ·as_aux_lemma =>
          rw [if_pos c42] at H
          have c42b0 : decide (t438 < (rd (rd_L1 t439 x84_2) 2)) = true := decide_eq_true c42
          clear c42
          obtain rfl := Option.some.inj H
          have p457 : 0 ≤ (x84_2 : Int) := of_decide_eq_true (by first | (with_reducible assumption) | assumption)
          have q457 : x84_2 < (t439.length : Int) := of_decide_eq_true (by first | (with_reducible assumption) | assumption)
          obtain ⟨ad457, A457_0, c457_0, e457, hx457_0, hl457_0, hi457_0⟩ := at_L1 (N_reads' HO_82.out).2.2 x84_2 p457 q457
          cases e457
          obtain ⟨ce457, hce457, hMe457, hcc457⟩ := N_get HO_82.out [] x84_2 p457 (by first | exact q457 | exact of_decide_eq_true (by first | (with_reducible assumption) | assumption) | (have e_ := (N_reads' HO_82.out).1; omega))
          obtain ⟨ua457_0, uc457_0, rfl, ul457_0, ge457_0⟩ := Kd.FK_slice_open hMe457
          have hv457_0 := hcc457 0 _ rfl
          rw [Nat.add_zero, show ((Kd.slice 3 (Kd.int .i64))).sz = 1 from rfl, Nat.mul_one] at hv457_0
          replace hv457_0 := Option.some.inj (hv457_0.symm.trans hx457_0)
          injection hv457_0 with hva_ hvn_ hvc_
          rw [hva_] at ge457_0
          rw [hvc_] at ul457_0
          have HL457_0 := Aside0.mk (show Kd.V (Kd.int .i64) 3 _ w.heap.size _ _ (rd_L1 t439 x84_2) from V_mk ul457_0 ge457_0)
          clear hva_ hvn_ hvc_ ge457_0 ul457_0; clear hcc457 hce457
          have HR457_0 := Aside0.mk hi457_0
          have HC457_0 := Aside0.mk hl457_0
          clear hi457_0 hl457_0; replace p457 := eq_true p457; replace q457 := eq_true q457
          try go_wp2
          have n0_ := Aside0.mk (N_drew HO_6.out)
          have n1_ := Aside0.mk (R_drew HO_10.out)
          have n2_ := Aside0.mk (N_drew HO_82.out)
          have n3_ := Aside0.mk (V_drew HL457_0.out)
          have n4_ := Aside0.mk (C_drew HR457_0.out)
          have n5_ := Aside0.mk (below_drew1 HB.out)
          clear HO_6; clear HO_10; clear HO_82; clear HL457_0; clear HR457_0; clear HB; have HO_6 := n0_; have HO_10 := n1_; have HO_82 := n2_; have HL457_0 := n3_; have HR457_0 := n4_; have HB := n5_; clear n0_ n1_ n2_ n3_ n4_ n5_
          have p459 : 0 ≤ (2 : Int) := (by omega)
          have q459 : 2 < ((rd_L1 t439 x84_2).length : Int) := of_decide_eq_true (by first | (with_reducible assumption) | assumption)
          obtain ⟨ad459, e459, hx459_0⟩ := Kd.at_int (by repeat (first | (with_reducible exact HR457_0.out) | (with_reducible first | refine C_alloc ?_ _ | refine C_drewN ?_ _ | refine C_drew ?_) | exact HR457_0.out)) 2 p459 q459
          cases e459
          (try simp only [show (2 : Int).toNat = 2 from rfl, Nat.reduceMul, Nat.reduceEqDiff, Go.Addr.add, ↓reduceIte] at hx459_0)
          have qi459 : (2 < (rd_L1 t439 x84_2).length) = True := eq_true (by omega)
          (try rw [show ((2 : Int)).toNat = 2 from rfl] at hx459_0)
          replace p459 := eq_true p459; replace q459 := eq_true q459
          refine start_ (n := 35) (S := fun w' => w'.cell? ⟨ad459.block, ad459.off + 2, none⟩ = some (.int .i64 (rd (rd_L1 t439 x84_2) 2))) (ds := []) b0ML (by kernel_rfl) rfl rfl (hx459_0) (fun hHeld => ?_); refine with_tabW laws_FnMarkovLists.tab13 laws_FnMarkovLists.bits13 (fun HT_ HW_ => ?_)
          generalize wr.drew = w43 at HO_6 HO_10 HO_82 HL457_0 HR457_0 HB hHeld ⊢
          refine pure_ (i := 0) (N := some 89) (v := ?_) (a' := ?_) b1ML rfl rfl (any_of HT_.out (by kernel_rfl)) (fun _ _ _ h => h) (Or.inl ⟨by rfl, ?_⟩) ?_ ?_
          rotate_left; (intro w'; go_simp; with_reducible rfl); rotate_left; (simp only [Act.put, List.setIfInBounds_toArray, List.set_cons_zero, List.set_cons_succ, i64_w]; rfl)
          refine one_ (i := 1) (N := some 90) b2ML rfl rfl (one_of HT_.out (by kernel_rfl)) (by decide) (fun K hK => ?_)
          refine goes_ Try.func26 (by kernel_rfl) rfl #[.slice (some ad459) (rd_L1 t439 x84_2).length c457_0] (by rfl) rfl rfl (by (try simp only [List.map_toArray, List.map_cons, List.map_nil]); first | done | rfl) ?_
          with_reducible refine (impl_IsMarkov.calls k2 _ _ (rd_L1 t439 x84_2) true _ ?side1 ?side2 A39.out).mono ?_
          (case side1 => first | (obtain ⟨ad_, A_, c_, e_, hx_, hl_, hi_⟩ := at_L1 (N_reads' HO_82.out).2.2 x84_2 (of_eq_true p457) (of_eq_true q457); cases e_; have hq_ := hx_.symm.trans hHeld; injection hq_ with hq_; injection hq_ with e1_ e2_ e3_; subst e1_; exact hi_) | (obtain ⟨ad_, A_, c_, e_, hx_, hl_, hi_⟩ := at_L1 (N_reads' HO_82.out).2.2 x84_2 (of_eq_true p457) (of_eq_true q457); cases e_; have hq_ := hx_.symm.trans hHeld.1; injection hq_ with hq_; injection hq_ with e1_ e2_ e3_; subst e1_; exact hi_) | (obtain ⟨ad_, A_, c_, e_, hx_, hl_, hi_⟩ := at_L1 (N_reads' HO_82.out).2.2 x84_2 (of_eq_true p457) (of_eq_true q457); cases e_; have hq_ := hx_.symm.trans hHeld.2; injection hq_ with hq_; injection hq_ with e1_ e2_ e3_; subst e1_; exact hi_) | (repeat (first | exact (by repeat (first | (with_reducible exact HR457_0.out) | (with_reducible first | refine C_alloc ?_ _ | refine C_drewN ?_ _ | refine C_drew ?_) | exact HR457_0.out)) | (with_reducible first | refine C_alloc ?_ _ | refine C_drewN ?_ _ | refine C_drew ?_))))
          (case side2 => exact HC457_0.out)
          rintro e w44 ⟨rfl, hb⟩
          have HS0_ := (hb.cell (World.block_lt_of_cell? _ _ (hHeld))).trans (hHeld)
          refine ⟨_, rfl, ?_⟩
          have n0_ := Aside0.mk (N_below (by (with_reducible repeat (first | apply N_alloc | apply N_drewN | apply N_drew)); exact HO_6.out) hb)
          have n1_ := Aside0.mk (R_below (by (with_reducible repeat (first | apply R_alloc | apply R_drewN | apply R_drew)); exact HO_10.out) hb)
          have n2_ := Aside0.mk (N_below (by (with_reducible repeat (first | apply N_alloc | apply N_drewN | apply N_drew)); exact HO_82.out) hb)
          have n3_ := Aside0.mk (V_below (by (with_reducible repeat (first | apply V_alloc | apply V_drewN | apply V_drew)); exact HL457_0.out) hb)
          have n4_ := Aside0.mk (C_below (by repeat (first | (with_reducible exact HR457_0.out) | (with_reducible first | refine C_alloc ?_ _ | refine C_drewN ?_ _ | refine C_drew ?_) | exact HR457_0.out)) hb)
          have n5_ := Aside0.mk (below_step (by repeat (first | (with_reducible first | exact HB.out | apply below_alloc | apply pw_below_drewN | apply below_drew1) | exact HB.out)) hb)
          clear HO_6; clear HO_10; clear HO_82; clear HL457_0; clear HR457_0; clear HB; have HO_6 := n0_; have HO_10 := n1_; have HO_82 := n2_; have HL457_0 := n3_; have HR457_0 := n4_; have HB := n5_; clear n0_ n1_ n2_ n3_ n4_ n5_; (try clear hb); (try clear hb2); (try clear hk); (try clear hi)
          have p459 : 0 ≤ (2 : Int) := (by omega)
          have q459 : 2 < ((rd_L1 t439 x84_2).length : Int) := of_decide_eq_true (by first | (with_reducible assumption) | assumption)
          obtain ⟨ad459x, e459, hx459_0⟩ := Kd.at_int (by repeat (first | (with_reducible exact HR457_0.out) | (with_reducible first | refine C_alloc ?_ _ | refine C_drewN ?_ _ | refine C_drew ?_) | exact HR457_0.out)) 2 p459 q459
          obtain rfl : ad459 = ad459x := (by injection e459)
          (try simp only [show (2 : Int).toNat = 2 from rfl, Nat.reduceMul, Nat.reduceEqDiff, Go.Addr.add, ↓reduceIte] at hx459_0)
          have qi459 : (2 < (rd_L1 t439 x84_2).length) = True := eq_true (by omega)
          (try rw [show ((2 : Int)).toNat = 2 from rfl] at hx459_0)
          replace p459 := eq_true p459; replace q459 := eq_true q459
          refine hK.out _ _ (HS0_) (fun hHeld => ?_)
          clear hK K
          refine norm_ (a' := ?_) ?_ ?_
          rotate_left
          ·show Act.put _ (some 90) _ = _
           simp only [Act.put, List.setIfInBounds_toArray, List.set_cons_zero, List.set_cons_succ, i64_w]
           rfl
          refine pure_ (i := 2) (N := some 91) (v := ?_) (a' := ?_) b3ML rfl rfl (any_of HT_.out (by kernel_rfl)) (fun _ _ _ h => h) (Or.inl ⟨by rfl, ?_⟩) ?_ ?_
          rotate_left; (intro w'; go_simp; with_reducible rfl); rotate_left; (simp only [Act.put, List.setIfInBounds_toArray, List.set_cons_zero, List.set_cons_succ, i64_w]; rfl)
          refine pure_ (i := 3) (N := some 92) (v := ?_) (a' := ?_) b4ML rfl rfl (any_of HT_.out (by kernel_rfl)) (fun _ _ _ h => h) (Or.inl ⟨by rfl, ?_⟩) ?_ ?_
          rotate_left; (intro w'; go_simp; with_reducible rfl); rotate_left; (simp only [Act.put, List.setIfInBounds_toArray, List.set_cons_zero, List.set_cons_succ, i64_w]; rfl)
          refine pure_ (i := 4) (N := some 93) (v := ?_) (a' := ?_) b5ML rfl rfl (any_of HT_.out (by kernel_rfl)) (fun _ _ _ h => h) (Or.inl ⟨by rfl, ?_⟩) ?_ ?_
          rotate_left; (intro w'; go_simp; with_reducible rfl); rotate_left; (simp only [Act.put, List.setIfInBounds_toArray, List.set_cons_zero, List.set_cons_succ, i64_w]; rfl)
          refine pure_ (i := 5) (N := some 94) (v := ?_) (a' := ?_) b6ML rfl rfl (any_of HT_.out (by kernel_rfl)) (fun _ _ _ h => h) (Or.inl ⟨by rfl, ?_⟩) ?_ ?_
          rotate_left; (intro w'; go_simp; with_reducible rfl); rotate_left; (simp only [Act.put, List.setIfInBounds_toArray, List.set_cons_zero, List.set_cons_succ, i64_w]; rfl)
          refine pure_ (i := 7) (N := some 96) (v := ?_) (a' := ?_) b7ML rfl rfl (any_of HT_.out (by kernel_rfl)) (fun _ _ _ h => h) (Or.inl ⟨by rfl, ?_⟩) ?_ ?_
          rotate_left; (intro w'; go_simp; with_reducible rfl); rotate_left; (simp only [Act.put, List.setIfInBounds_toArray, List.set_cons_zero, List.set_cons_succ, i64_w]; rfl)
          refine take_ (i := 6) (N := some 95) (v := ?_) (a' := ?_) b8ML rfl rfl (take_ofW HT_.out HW_.out (by kernel_rfl)) (fun _ _ _ h => h) (Or.inl ⟨by rfl, ?_⟩) hHeld ?_ ?_
          rotate_left; (intro w' s0; go_simp; with_reducible rfl); rotate_left; (simp only [Act.put, List.setIfInBounds_toArray, List.set_cons_zero, List.set_cons_succ, i64_w]; rfl)
          refine pure_ (i := 8) (N := some 97) (v := ?_) (a' := ?_) b9ML rfl rfl (any_of HT_.out (by kernel_rfl)) (fun _ _ _ h => h) (Or.inl ⟨by rfl, ?_⟩) ?_ ?_
          rotate_left; (intro w'; go_simp; with_reducible rfl); rotate_left; (simp only [Act.put, List.setIfInBounds_toArray, List.set_cons_zero, List.set_cons_succ, i64_w]; rfl)
          refine pure_ (i := 9) (N := some 98) (v := ?_) (a' := ?_) b10ML rfl rfl (any_of HT_.out (by kernel_rfl)) (fun _ _ _ h => h) (Or.inl ⟨by rfl, ?_⟩) ?_ ?_
          rotate_left; (intro w'; go_simp; with_reducible rfl); rotate_left; (simp only [Act.put, List.setIfInBounds_toArray, List.set_cons_zero, List.set_cons_succ, i64_w]; rfl)
          refine pure_ (i := 10) (N := some 99) (v := ?_) (a' := ?_) b11ML rfl rfl (any_of HT_.out (by kernel_rfl)) (fun _ _ _ h => h) (Or.inl ⟨by rfl, ?_⟩) ?_ ?_
          rotate_left; (intro w'; go_simp; with_reducible rfl); rotate_left; (simp only [Act.put, List.setIfInBounds_toArray, List.set_cons_zero, List.set_cons_succ, i64_w]; rfl)
          refine pure_ (i := 11) (N := some 100) (v := undef) (a' := ?_) b12ML rfl rfl (any_of HT_.out (by kernel_rfl)) (fun _ _ _ h => h) (Or.inr ⟨by rfl, rfl⟩) ?_ ?_
          rotate_left
          ·simp only [Act.put, List.setIfInBounds_toArray, List.set_cons_zero, List.set_cons_succ, i64_w]
           rfl
          refine pure_ (i := 12) (N := some 101) (v := undef) (a' := ?_) b13ML rfl rfl (any_of HT_.out (by kernel_rfl)) (fun _ _ _ h => h) (Or.inr ⟨by rfl, rfl⟩) ?_ ?_
          rotate_left
          ·simp only [Act.put, List.setIfInBounds_toArray, List.set_cons_zero, List.set_cons_succ, i64_w]
           rfl
          refine pure_ (i := 13) (N := some 102) (v := undef) (a' := ?_) b14ML rfl rfl (any_of HT_.out (by kernel_rfl)) (fun _ _ _ h => h) (Or.inr ⟨by rfl, rfl⟩) ?_ ?_
          rotate_left
          ·simp only [Act.put, List.setIfInBounds_toArray, List.set_cons_zero, List.set_cons_succ, i64_w]
           rfl
          refine pure_ (i := 14) (N := some 103) (v := undef) (a' := ?_) b15ML rfl rfl (any_of HT_.out (by kernel_rfl)) (fun _ _ _ h => h) (Or.inr ⟨by rfl, rfl⟩) ?_ ?_
          rotate_left
          ·simp only [Act.put, List.setIfInBounds_toArray, List.set_cons_zero, List.set_cons_succ, i64_w]
           rfl
          refine pure_ (i := 15) (N := some 104) (v := undef) (a' := ?_) b16ML rfl rfl (any_of HT_.out (by kernel_rfl)) (fun _ _ _ h => h) (Or.inr ⟨by rfl, rfl⟩) ?_ ?_
          rotate_left
          ·simp only [Act.put, List.setIfInBounds_toArray, List.set_cons_zero, List.set_cons_succ, i64_w]
           rfl
          refine pure_ (i := 16) (N := some 105) (v := undef) (a' := ?_) b17ML rfl rfl (any_of HT_.out (by kernel_rfl)) (fun _ _ _ h => h) (Or.inr ⟨by rfl, rfl⟩) ?_ ?_
          rotate_left
          ·simp only [Act.put, List.setIfInBounds_toArray, List.set_cons_zero, List.set_cons_succ, i64_w]
           rfl
          refine pure_ (i := 17) (N := some 106) (v := ?_) (a' := ?_) b18ML rfl rfl (any_of HT_.out (by kernel_rfl)) (fun _ _ _ h => h) (Or.inl ⟨by rfl, ?_⟩) ?_ ?_
          rotate_left; (intro w'; go_simp; with_reducible rfl); rotate_left; (simp only [Act.put, List.setIfInBounds_toArray, List.set_cons_zero, List.set_cons_succ, i64_w]; rfl)
          refine pure_ (i := 18) (N := some 107) (v := ?_) (a' := ?_) b19ML rfl rfl (any_of HT_.out (by kernel_rfl)) (fun _ _ _ h => h) (Or.inl ⟨by rfl, ?_⟩) ?_ ?_
          rotate_left; (intro w'; go_simp; with_reducible rfl); rotate_left; (simp only [Act.put, List.setIfInBounds_toArray, List.set_cons_zero, List.set_cons_succ, i64_w]; rfl)
          refine pure_ (i := 19) (N := some 108) (v := undef) (a' := ?_) b20ML rfl rfl (any_of HT_.out (by kernel_rfl)) (fun _ _ _ h => h) (Or.inr ⟨by rfl, rfl⟩) ?_ ?_
          rotate_left
          ·simp only [Act.put, List.setIfInBounds_toArray, List.set_cons_zero, List.set_cons_succ, i64_w]
           rfl
          refine pure_ (i := 20) (N := some 109) (v := undef) (a' := ?_) b21ML rfl rfl (any_of HT_.out (by kernel_rfl)) (fun _ _ _ h => h) (Or.inr ⟨by rfl, rfl⟩) ?_ ?_
          rotate_left
          ·simp only [Act.put, List.setIfInBounds_toArray, List.set_cons_zero, List.set_cons_succ, i64_w]
           rfl
          refine pure_ (i := 21) (N := some 110) (v := undef) (a' := ?_) b22ML rfl rfl (any_of HT_.out (by kernel_rfl)) (fun _ _ _ h => h) (Or.inr ⟨by rfl, rfl⟩) ?_ ?_
          rotate_left
          ·simp only [Act.put, List.setIfInBounds_toArray, List.set_cons_zero, List.set_cons_succ, i64_w]
           rfl
          refine pure_ (i := 22) (N := some 111) (v := undef) (a' := ?_) b23ML rfl rfl (any_of HT_.out (by kernel_rfl)) (fun _ _ _ h => h) (Or.inr ⟨by rfl, rfl⟩) ?_ ?_
          rotate_left
          ·simp only [Act.put, List.setIfInBounds_toArray, List.set_cons_zero, List.set_cons_succ, i64_w]
           rfl
          refine pure_ (i := 23) (N := some 112) (v := undef) (a' := ?_) b24ML rfl rfl (any_of HT_.out (by kernel_rfl)) (fun _ _ _ h => h) (Or.inr ⟨by rfl, rfl⟩) ?_ ?_
          rotate_left
          ·simp only [Act.put, List.setIfInBounds_toArray, List.set_cons_zero, List.set_cons_succ, i64_w]
           rfl
          refine pure_ (i := 24) (N := some 113) (v := undef) (a' := ?_) b25ML rfl rfl (any_of HT_.out (by kernel_rfl)) (fun _ _ _ h => h) (Or.inr ⟨by rfl, rfl⟩) ?_ ?_
          rotate_left
          ·simp only [Act.put, List.setIfInBounds_toArray, List.set_cons_zero, List.set_cons_succ, i64_w]
           rfl
          refine pure_ (i := 25) (N := some 114) (v := undef) (a' := ?_) b26ML rfl rfl (any_of HT_.out (by kernel_rfl)) (fun _ _ _ h => h) (Or.inr ⟨by rfl, rfl⟩) ?_ ?_
          rotate_left
          ·simp only [Act.put, List.setIfInBounds_toArray, List.set_cons_zero, List.set_cons_succ, i64_w]
           rfl
          refine pure_ (i := 26) (N := some 115) (v := undef) (a' := ?_) b27ML rfl rfl (any_of HT_.out (by kernel_rfl)) (fun _ _ _ h => h) (Or.inr ⟨by rfl, rfl⟩) ?_ ?_
          rotate_left
          ·simp only [Act.put, List.setIfInBounds_toArray, List.set_cons_zero, List.set_cons_succ, i64_w]
           rfl
          refine pure_ (i := 27) (N := some 116) (v := undef) (a' := ?_) b28ML rfl rfl (any_of HT_.out (by kernel_rfl)) (fun _ _ _ h => h) (Or.inr ⟨by rfl, rfl⟩) ?_ ?_
          rotate_left
          ·simp only [Act.put, List.setIfInBounds_toArray, List.set_cons_zero, List.set_cons_succ, i64_w]
           rfl
          refine pure_ (i := 28) (N := some 117) (v := undef) (a' := ?_) b29ML rfl rfl (any_of HT_.out (by kernel_rfl)) (fun _ _ _ h => h) (Or.inr ⟨by rfl, rfl⟩) ?_ ?_
          rotate_left
          ·simp only [Act.put, List.setIfInBounds_toArray, List.set_cons_zero, List.set_cons_succ, i64_w]
           rfl
          refine pure_ (i := 29) (N := some 118) (v := undef) (a' := ?_) b30ML rfl rfl (any_of HT_.out (by kernel_rfl)) (fun _ _ _ h => h) (Or.inr ⟨by rfl, rfl⟩) ?_ ?_
          rotate_left
          ·simp only [Act.put, List.setIfInBounds_toArray, List.set_cons_zero, List.set_cons_succ, i64_w]
           rfl
          refine pure_ (i := 30) (N := some 119) (v := undef) (a' := ?_) b31ML rfl rfl (any_of HT_.out (by kernel_rfl)) (fun _ _ _ h => h) (Or.inr ⟨by rfl, rfl⟩) ?_ ?_
          rotate_left
          ·simp only [Act.put, List.setIfInBounds_toArray, List.set_cons_zero, List.set_cons_succ, i64_w]
           rfl
          refine pure_ (i := 31) (N := some 120) (v := undef) (a' := ?_) b32ML rfl rfl (any_of HT_.out (by kernel_rfl)) (fun _ _ _ h => h) (Or.inr ⟨by rfl, rfl⟩) ?_ ?_
          rotate_left
          ·simp only [Act.put, List.setIfInBounds_toArray, List.set_cons_zero, List.set_cons_succ, i64_w]
           rfl
          refine pure_ (i := 32) (N := some 121) (v := undef) (a' := ?_) b33ML rfl rfl (any_of HT_.out (by kernel_rfl)) (fun _ _ _ h => h) (Or.inr ⟨by rfl, rfl⟩) ?_ ?_
          rotate_left
          ·simp only [Act.put, List.setIfInBounds_toArray, List.set_cons_zero, List.set_cons_succ, i64_w]
           rfl
          refine pure_ (i := 33) (N := some 122) (v := undef) (a' := ?_) b34ML rfl rfl (any_of HT_.out (by kernel_rfl)) (fun _ _ _ h => h) (Or.inr ⟨by rfl, rfl⟩) ?_ ?_
          rotate_left
          ·simp only [Act.put, List.setIfInBounds_toArray, List.set_cons_zero, List.set_cons_succ, i64_w]
           rfl
          refine pure_ (i := 34) (N := some 123) (v := ?_) (a' := ?_) b35ML rfl rfl (any_of HT_.out (by kernel_rfl)) (fun _ _ _ h => h) (Or.inl ⟨by rfl, ?_⟩) ?_ ?_
          rotate_left; (intro w'; go_simp; with_reducible rfl); rotate_left; (simp only [Act.put, List.setIfInBounds_toArray, List.set_cons_zero, List.set_cons_succ, i64_w]; rfl)
          refine done_ (done_of HT_.out (by kernel_rfl)) ?_
          try go_wp2
          go_ret
          exact ⟨by first | rfl | (simp [*] <;> rfl), by repeat (first | (with_reducible first | exact HB.out | apply below_alloc | apply pw_below_drewN | apply below_drew1) | exact HB.out)⟩
         ·as_aux_lemma =>
          rw [if_neg c42] at H
          have c42b0 : decide (t438 < (rd (rd_L1 t439 x84_2) 2)) = false := decide_eq_false c42
          clear c42
          replace H := Option.bind_eq_some_iff.mp H
          obtain ⟨t461, A450, H⟩ := H
          replace H : (if t461 = true then (if x84_2 > 0 then (if 0 ≤ (wrap64 (x84_2 - 1)) then (if (wrap64 (x84_2 - 1)) < (t439.length : Int) then (if 2 < ((rd_L1 t439 (wrap64 (x84_2 - 1))).length : Int) then (if (rd (rd_L1 t439 x84_2) 2) < (rd (rd_L1 t439 (wrap64 (x84_2 - 1))) 2) then (some false) else ((impl_MarkovDown.f k2 (rd_L1 t439 x84_2)).bind fun bt465 => (if x84_2 ≤ (t439.length : Int) then ((some (t439.take (x84_2 : Int).toNat : List (List Int))).bind fun y469 => (laws_FnMarkovLists.l1 k2 l1 t438 t439 t447 bt465.1 bt465.2 false t439 (t439.length : Int) x84_2 y469 (y469.length : Int) 0)) else (none)))) else (none)) else (none)) else (none)) else (laws_FnMarkovLists.l0 k2 l1 t438 t439 t447 t439 (t439.length : Int) (wrap64 (x84_2 + 1)))) else (some false)) = some r := H
          have A45 := Aside0.mk A450
          clear A450
          by_cases c46 : t461 = true
          ·as_aux_lemma =>
           subst c46
           have H1 : (if x84_2 > 0 then (if 0 ≤ (wrap64 (x84_2 - 1)) then (if (wrap64 (x84_2 - 1)) < (t439.length : Int) then (if 2 < ((rd_L1 t439 (wrap64 (x84_2 - 1))).length : Int) then (if (rd (rd_L1 t439 x84_2) 2) < (rd (rd_L1 t439 (wrap64 (x84_2 - 1))) 2) then (some false) else ((impl_MarkovDown.f k2 (rd_L1 t439 x84_2)).bind fun bt465 => (if x84_2 ≤ (t439.length : Int) then ((some (t439.take (x84_2 : Int).toNat : List (List Int))).bind fun y469 => (laws_FnMarkovLists.l1 k2 l1 t438 t439 t447 bt465.1 bt465.2 false t439 (t439.length : Int) x84_2 y469 (y469.length : Int) 0)) else (none)))) else (none)) else (none)) else (none)) else (laws_FnMarkovLists.l0 k2 l1 t438 t439 t447 t439 (t439.length : Int) (wrap64 (x84_2 + 1)))) = some r := by rw [if_pos rfl] at H; exact H
           clear H; have H := H1; clear H1
           by_cases c47 : x84_2 > 0
           ·as_aux_lemma =>
            rw [if_pos c47] at H
            have c47b0 : decide (0 < x84_2) = true := decide_eq_true c47
            clear c47
            obtain ⟨ji48, hji48⟩ : ∃ j_ : Int, (wrap64 (x84_2 - 1)) = j_ := ⟨_, rfl⟩
            replace H : (if 0 ≤ (ji48) then (if (ji48) < (t439.length : Int) then (if 2 < ((rd_L1 t439 (ji48)).length : Int) then (if (rd (rd_L1 t439 x84_2) 2) < (rd (rd_L1 t439 (ji48)) 2) then (some false) else ((impl_MarkovDown.f k2 (rd_L1 t439 x84_2)).bind fun bt465 => (if x84_2 ≤ (t439.length : Int) then ((some (t439.take (x84_2 : Int).toNat : List (List Int))).bind fun y469 => (laws_FnMarkovLists.l1 k2 l1 t438 t439 t447 bt465.1 bt465.2 false t439 (t439.length : Int) x84_2 y469 (y469.length : Int) 0)) else (none)))) else (none)) else (none)) else (none)) = some r := by first | (rw [hji48] at H; exact H) | (simp only [hji48] at H ⊢; exact H)
            (try rw [hji48] at A39)
            (try rw [hji48] at A45)
            have hji48w : (IntKind.i64.wrap (x84_2 - 1)) = ji48 := (i64_w _).trans hji48
            by_cases c49 : 0 ≤ (ji48)
            rotate_left
            ·rw [if_neg c49] at H
             exact absurd H (by simp)
            as_aux_lemma =>
            rw [if_pos c49] at H
            have c49b0 : decide (0 ≤ (ji48)) = true := decide_eq_true c49
            clear c49
            by_cases c50 : (ji48) < (t439.length : Int)
            rotate_left
            ·rw [if_neg c50] at H
             exact absurd H (by simp)
            as_aux_lemma =>
            rw [if_pos c50] at H
            have c50b0 : decide ((ji48) < (t439.length : Int)) = true := decide_eq_true c50
            clear c50
            by_cases c51 : 2 < ((rd_L1 t439 (ji48)).length : Int)
            rotate_left
            ·rw [if_neg c51] at H
             exact absurd H (by simp)
            as_aux_lemma =>
            rw [if_pos c51] at H
            have c51b0 : decide (2 < ((rd_L1 t439 (ji48)).length : Int)) = true := decide_eq_true c51
            have c51b1 : decide (2 < (rd_L1 t439 (ji48)).length) = true := decide_eq_true (by omega)
            clear c51
            by_cases c52 : (rd (rd_L1 t439 x84_2) 2) < (rd (rd_L1 t439 (ji48)) 2)
            ·as_aux_lemma =>
             rw [if_pos c52] at H
             have c52b0 : decide ((rd (rd_L1 t439 x84_2) 2) < (rd (rd_L1 t439 (ji48)) 2)) = true := decide_eq_true c52
             clear c52
             obtain rfl := Option.some.inj H
             have p457 : 0 ≤ (x84_2 : Int) := of_decide_eq_true (by first | (with_reducible assumption) | assumption)
             have q457 : x84_2 < (t439.length : Int) := of_decide_eq_true (by first | (with_reducible assumption) | assumption)
             obtain ⟨ad457, A457_0, c457_0, e457, hx457_0, hl457_0, hi457_0⟩ := at_L1 (N_reads' HO_82.out).2.2 x84_2 p457 q457
             cases e457
             obtain ⟨ce457, hce457, hMe457, hcc457⟩ := N_get HO_82.out [] x84_2 p457 (by first | exact q457 | exact of_decide_eq_true (by first | (with_reducible assumption) | assumption) | (have e_ := (N_reads' HO_82.out).1; omega))
             obtain ⟨ua457_0, uc457_0, rfl, ul457_0, ge457_0⟩ := Kd.FK_slice_open hMe457
             have hv457_0 := hcc457 0 _ rfl
             rw [Nat.add_zero, show ((Kd.slice 3 (Kd.int .i64))).sz = 1 from rfl, Nat.mul_one] at hv457_0
             replace hv457_0 := Option.some.inj (hv457_0.symm.trans hx457_0)
             injection hv457_0 with hva_ hvn_ hvc_
             rw [hva_] at ge457_0
             rw [hvc_] at ul457_0
             have HL457_0 := Aside0.mk (show Kd.V (Kd.int .i64) 3 _ w.heap.size _ _ (rd_L1 t439 x84_2) from V_mk ul457_0 ge457_0)
             clear hva_ hvn_ hvc_ ge457_0 ul457_0; clear hcc457 hce457
             have HR457_0 := Aside0.mk hi457_0
             have HC457_0 := Aside0.mk hl457_0
             clear hi457_0 hl457_0; replace p457 := eq_true p457; replace q457 := eq_true q457
             try go_wp2
             have n0_ := Aside0.mk (N_drew HO_6.out)
             have n1_ := Aside0.mk (R_drew HO_10.out)
             have n2_ := Aside0.mk (N_drew HO_82.out)
             have n3_ := Aside0.mk (V_drew HL457_0.out)
             have n4_ := Aside0.mk (C_drew HR457_0.out)
             have n5_ := Aside0.mk (below_drew1 HB.out)
             clear HO_6; clear HO_10; clear HO_82; clear HL457_0; clear HR457_0; clear HB; have HO_6 := n0_; have HO_10 := n1_; have HO_82 := n2_; have HL457_0 := n3_; have HR457_0 := n4_; have HB := n5_; clear n0_ n1_ n2_ n3_ n4_ n5_
             have p463 : 0 ≤ ((ji48) : Int) := of_decide_eq_true (by first | (with_reducible assumption) | assumption)
             have q463 : (ji48) < (t439.length : Int) := of_decide_eq_true (by first | (with_reducible assumption) | assumption)
             obtain ⟨ad463, A463_0, c463_0, e463, hx463_0, hl463_0, hi463_0⟩ := at_L1 (N_reads' HO_6.out).2.2 (ji48) p463 q463
             obtain rfl : ad457 = ad463 := (by injection e463)
             obtain ⟨ce463, hce463, hMe463, hcc463⟩ := N_get HO_6.out [] (ji48) p463 (by first | exact q463 | exact of_decide_eq_true (by first | (with_reducible assumption) | assumption) | (have e_ := (N_reads' HO_6.out).1; omega))
             obtain ⟨ua463_0, uc463_0, rfl, ul463_0, ge463_0⟩ := Kd.FK_slice_open hMe463
             have hv463_0 := hcc463 0 _ rfl
             rw [Nat.add_zero, show ((Kd.slice 3 (Kd.int .i64))).sz = 1 from rfl, Nat.mul_one] at hv463_0
             replace hv463_0 := Option.some.inj (hv463_0.symm.trans hx463_0)
             injection hv463_0 with hva_ hvn_ hvc_
             rw [hva_] at ge463_0
             rw [hvc_] at ul463_0
             have HL463_0 := Aside0.mk (show Kd.V (Kd.int .i64) 3 _ w.heap.size _ _ (rd_L1 t439 (ji48)) from V_mk ul463_0 ge463_0)
             clear hva_ hvn_ hvc_ ge463_0 ul463_0; clear hcc463 hce463
             have HR463_0 := Aside0.mk hi463_0
             have HC463_0 := Aside0.mk hl463_0
             clear hi463_0 hl463_0; replace p463 := eq_true p463; replace q463 := eq_true q463
             have p459 : 0 ≤ (2 : Int) := (by omega)
             have q459 : 2 < ((rd_L1 t439 x84_2).length : Int) := of_decide_eq_true (by first | (with_reducible assumption) | assumption)
             obtain ⟨ad459, e459, hx459_0⟩ := Kd.at_int (by repeat (first | (with_reducible exact HR457_0.out) | (with_reducible first | refine C_alloc ?_ _ | refine C_drewN ?_ _ | refine C_drew ?_) | exact HR457_0.out)) 2 p459 q459
             cases e459
             (try simp only [show (2 : Int).toNat = 2 from rfl, Nat.reduceMul, Nat.reduceEqDiff, Go.Addr.add, ↓reduceIte] at hx459_0)
             have qi459 : (2 < (rd_L1 t439 x84_2).length) = True := eq_true (by omega)
             (try rw [show ((2 : Int)).toNat = 2 from rfl] at hx459_0)
             replace p459 := eq_true p459; replace q459 := eq_true q459
             have p460 : 0 ≤ (2 : Int) := (by omega)
             have q460 : 2 < ((rd_L1 t439 x84_2).length : Int) := of_decide_eq_true (by first | (with_reducible assumption) | assumption)
             obtain ⟨ad460, e460, hx460_0⟩ := Kd.at_int (by repeat (first | (with_reducible exact HR457_0.out) | (with_reducible first | refine C_alloc ?_ _ | refine C_drewN ?_ _ | refine C_drew ?_) | exact HR457_0.out)) 2 p460 q460
             obtain rfl : ad459 = ad460 := (by injection e460)
             (try simp only [show (2 : Int).toNat = 2 from rfl, Nat.reduceMul, Nat.reduceEqDiff, Go.Addr.add, ↓reduceIte] at hx460_0)
             have qi460 : (2 < (rd_L1 t439 x84_2).length) = True := eq_true (by omega)
             (try rw [show ((2 : Int)).toNat = 2 from rfl] at hx460_0)
             replace p460 := eq_true p460; replace q460 := eq_true q460
             have p462 : 0 ≤ (2 : Int) := (by omega)
             have q462 : 2 < ((rd_L1 t439 x84_2).length : Int) := of_decide_eq_true (by first | (with_reducible assumption) | assumption)
             obtain ⟨ad462, e462, hx462_0⟩ := Kd.at_int (by repeat (first | (with_reducible exact HR457_0.out) | (with_reducible first | refine C_alloc ?_ _ | refine C_drewN ?_ _ | refine C_drew ?_) | exact HR457_0.out)) 2 p462 q462
             obtain rfl : ad459 = ad462 := (by injection e462)
             (try simp only [show (2 : Int).toNat = 2 from rfl, Nat.reduceMul, Nat.reduceEqDiff, Go.Addr.add, ↓reduceIte] at hx462_0)
             have qi462 : (2 < (rd_L1 t439 x84_2).length) = True := eq_true (by omega)
             (try rw [show ((2 : Int)).toNat = 2 from rfl] at hx462_0)
             replace p462 := eq_true p462; replace q462 := eq_true q462
             have p464 : 0 ≤ (2 : Int) := (by omega)
             have q464 : 2 < ((rd_L1 t439 (ji48)).length : Int) := of_decide_eq_true (by first | (with_reducible assumption) | assumption)
             obtain ⟨ad464, e464, hx464_0⟩ := Kd.at_int (by repeat (first | (with_reducible exact HR463_0.out) | (with_reducible first | refine C_alloc ?_ _ | refine C_drewN ?_ _ | refine C_drew ?_) | exact HR463_0.out)) 2 p464 q464
             cases e464
             (try simp only [show (2 : Int).toNat = 2 from rfl, Nat.reduceMul, Nat.reduceEqDiff, Go.Addr.add, ↓reduceIte] at hx464_0)
             have qi464 : (2 < (rd_L1 t439 (ji48)).length) = True := eq_true (by omega)
             (try rw [show ((2 : Int)).toNat = 2 from rfl] at hx464_0)
             replace p464 := eq_true p464; replace q464 := eq_true q464
             refine start_ (n := 35) (S := fun w' => w'.cell? ⟨ad459.block, ad459.off + 2, none⟩ = some (.int .i64 (rd (rd_L1 t439 x84_2) 2)) ∧ w'.cell? ⟨ad459.block, ad459.off + 2, none⟩ = some (.int .i64 (rd (rd_L1 t439 x84_2) 2)) ∧ w'.cell? ⟨ad459.block, ad459.off + 2, none⟩ = some (.int .i64 (rd (rd_L1 t439 x84_2) 2)) ∧ w'.cell? (ad457.add ((ji48)).toNat) = some (.slice (some ad464) (rd_L1 t439 (ji48)).length c463_0) ∧ w'.cell? ⟨ad464.block, ad464.off + 2, none⟩ = some (.int .i64 (rd (rd_L1 t439 (ji48)) 2))) (ds := []) b0ML (by kernel_rfl) rfl rfl ⟨hx459_0, hx460_0, hx462_0, hx463_0, hx464_0⟩ (fun hHeld => ?_); refine with_tabW laws_FnMarkovLists.tab13 laws_FnMarkovLists.bits13 (fun HT_ HW_ => ?_)
             generalize wr.drew = w53 at HO_6 HO_10 HO_82 HL457_0 HR457_0 HB HL463_0 HR463_0 hx463_0 hHeld ⊢
             refine pure_ (i := 0) (N := some 89) (v := ?_) (a' := ?_) b1ML rfl rfl (any_of HT_.out (by kernel_rfl)) (fun _ _ _ h => h) (Or.inl ⟨by rfl, ?_⟩) ?_ ?_
             rotate_left; (intro w'; go_simp; with_reducible rfl); rotate_left; (simp only [Act.put, List.setIfInBounds_toArray, List.set_cons_zero, List.set_cons_succ, i64_w]; rfl)
             refine one_ (i := 1) (N := some 90) b2ML rfl rfl (one_of HT_.out (by kernel_rfl)) (by decide) (fun K hK => ?_)
             refine goes_ Try.func26 (by kernel_rfl) rfl #[.slice (some ad459) (rd_L1 t439 x84_2).length c457_0] (by rfl) rfl rfl (by (try simp only [List.map_toArray, List.map_cons, List.map_nil]); first | done | rfl) ?_
             with_reducible refine (impl_IsMarkov.calls k2 _ _ (rd_L1 t439 x84_2) true _ ?side1 ?side2 A39.out).mono ?_
             (case side1 => first | (obtain ⟨ad_, A_, c_, e_, hx_, hl_, hi_⟩ := at_L1 (N_reads' HO_82.out).2.2 x84_2 (of_eq_true p457) (of_eq_true q457); cases e_; have hq_ := hx_.symm.trans hHeld; injection hq_ with hq_; injection hq_ with e1_ e2_ e3_; subst e1_; exact hi_) | (obtain ⟨ad_, A_, c_, e_, hx_, hl_, hi_⟩ := at_L1 (N_reads' HO_82.out).2.2 x84_2 (of_eq_true p457) (of_eq_true q457); cases e_; have hq_ := hx_.symm.trans hHeld.1; injection hq_ with hq_; injection hq_ with e1_ e2_ e3_; subst e1_; exact hi_) | (obtain ⟨ad_, A_, c_, e_, hx_, hl_, hi_⟩ := at_L1 (N_reads' HO_82.out).2.2 x84_2 (of_eq_true p457) (of_eq_true q457); cases e_; have hq_ := hx_.symm.trans hHeld.2; injection hq_ with hq_; injection hq_ with e1_ e2_ e3_; subst e1_; exact hi_) | (repeat (first | exact (by repeat (first | (with_reducible exact HR457_0.out) | (with_reducible first | refine C_alloc ?_ _ | refine C_drewN ?_ _ | refine C_drew ?_) | exact HR457_0.out)) | (with_reducible first | refine C_alloc ?_ _ | refine C_drewN ?_ _ | refine C_drew ?_))))
             (case side2 => exact HC457_0.out)
             rintro e w54 ⟨rfl, hb⟩
             have HS0_ := (hb.cell (World.block_lt_of_cell? _ _ (hHeld.1))).trans (hHeld.1)
             have HS1_ := (hb.cell (World.block_lt_of_cell? _ _ (hHeld.2.1))).trans (hHeld.2.1)
             have HS2_ := (hb.cell (World.block_lt_of_cell? _ _ (hHeld.2.2.1))).trans (hHeld.2.2.1)
             have HS3_ := (hb.cell (World.block_lt_of_cell? _ _ (hHeld.2.2.2.1))).trans (hHeld.2.2.2.1)
             have HS4_ := (hb.cell (World.block_lt_of_cell? _ _ (hHeld.2.2.2.2))).trans (hHeld.2.2.2.2)
             refine ⟨_, rfl, ?_⟩
             have n0_ := Aside0.mk (N_below (by (with_reducible repeat (first | apply N_alloc | apply N_drewN | apply N_drew)); exact HO_6.out) hb)
             have n1_ := Aside0.mk (R_below (by (with_reducible repeat (first | apply R_alloc | apply R_drewN | apply R_drew)); exact HO_10.out) hb)
             have n2_ := Aside0.mk (N_below (by (with_reducible repeat (first | apply N_alloc | apply N_drewN | apply N_drew)); exact HO_82.out) hb)
             have n3_ := Aside0.mk (V_below (by (with_reducible repeat (first | apply V_alloc | apply V_drewN | apply V_drew)); exact HL457_0.out) hb)
             have n4_ := Aside0.mk (C_below (by repeat (first | (with_reducible exact HR457_0.out) | (with_reducible first | refine C_alloc ?_ _ | refine C_drewN ?_ _ | refine C_drew ?_) | exact HR457_0.out)) hb)
             have n5_ := Aside0.mk (below_step (by repeat (first | (with_reducible first | exact HB.out | apply below_alloc | apply pw_below_drewN | apply below_drew1) | exact HB.out)) hb)
             have nL_ := Aside0.mk (V_below HL463_0.out hb); have nR_ := Aside0.mk (C_below HR463_0.out hb); clear HL463_0 HR463_0; have HL463_0 := nL_; have HR463_0 := nR_; clear nL_ nR_
             clear HO_6; clear HO_10; clear HO_82; clear HL457_0; clear HR457_0; clear HB; have HO_6 := n0_; have HO_10 := n1_; have HO_82 := n2_; have HL457_0 := n3_; have HR457_0 := n4_; have HB := n5_; clear n0_ n1_ n2_ n3_ n4_ n5_; (try clear hb); (try clear hb2); (try clear hk); (try clear hi)
             have p459 : 0 ≤ (2 : Int) := (by omega)
             have q459 : 2 < ((rd_L1 t439 x84_2).length : Int) := of_decide_eq_true (by first | (with_reducible assumption) | assumption)
             obtain ⟨ad459x, e459, hx459_0⟩ := Kd.at_int (by repeat (first | (with_reducible exact HR457_0.out) | (with_reducible first | refine C_alloc ?_ _ | refine C_drewN ?_ _ | refine C_drew ?_) | exact HR457_0.out)) 2 p459 q459
             obtain rfl : ad459 = ad459x := (by injection e459)
             (try simp only [show (2 : Int).toNat = 2 from rfl, Nat.reduceMul, Nat.reduceEqDiff, Go.Addr.add, ↓reduceIte] at hx459_0)
             have qi459 : (2 < (rd_L1 t439 x84_2).length) = True := eq_true (by omega)
             (try rw [show ((2 : Int)).toNat = 2 from rfl] at hx459_0)
             replace p459 := eq_true p459; replace q459 := eq_true q459
             have p460 : 0 ≤ (2 : Int) := (by omega)
             have q460 : 2 < ((rd_L1 t439 x84_2).length : Int) := of_decide_eq_true (by first | (with_reducible assumption) | assumption)
             obtain ⟨ad460x, e460, hx460_0⟩ := Kd.at_int (by repeat (first | (with_reducible exact HR457_0.out) | (with_reducible first | refine C_alloc ?_ _ | refine C_drewN ?_ _ | refine C_drew ?_) | exact HR457_0.out)) 2 p460 q460
             obtain rfl : ad459 = ad460x := (by injection e460)
             (try simp only [show (2 : Int).toNat = 2 from rfl, Nat.reduceMul, Nat.reduceEqDiff, Go.Addr.add, ↓reduceIte] at hx460_0)
             have qi460 : (2 < (rd_L1 t439 x84_2).length) = True := eq_true (by omega)
             (try rw [show ((2 : Int)).toNat = 2 from rfl] at hx460_0)
             replace p460 := eq_true p460; replace q460 := eq_true q460
             obtain ⟨Ao55, co55, eo55⟩ := R_slice HO_10.out
             (first | subst eo55 | (injection eo55 with f1_ f2_ f3_; have f4_ := f1_.symm; have f5_ := f3_.symm; clear f1_ f2_ f3_; subst f4_; subst f5_))
             refine hK.out _ _ ⟨HS0_, HS1_, HS2_, HS3_, HS4_⟩ (fun hHeld => ?_)
             clear hK K
             refine norm_ (a' := ?_) ?_ ?_
             rotate_left
             ·show Act.put _ (some 90) _ = _
              simp only [Act.put, List.setIfInBounds_toArray, List.set_cons_zero, List.set_cons_succ, i64_w]
              rfl
             refine pure_ (i := 2) (N := some 91) (v := ?_) (a' := ?_) b3ML rfl rfl (any_of HT_.out (by kernel_rfl)) (fun _ _ _ h => h) (Or.inl ⟨by rfl, ?_⟩) ?_ ?_
             rotate_left; (intro w'; go_simp; with_reducible rfl); rotate_left; (simp only [Act.put, List.setIfInBounds_toArray, List.set_cons_zero, List.set_cons_succ, i64_w]; rfl)
             refine pure_ (i := 3) (N := some 92) (v := ?_) (a' := ?_) b4ML rfl rfl (any_of HT_.out (by kernel_rfl)) (fun _ _ _ h => h) (Or.inl ⟨by rfl, ?_⟩) ?_ ?_
             rotate_left; (intro w'; go_simp; with_reducible rfl); rotate_left; (simp only [Act.put, List.setIfInBounds_toArray, List.set_cons_zero, List.set_cons_succ, i64_w]; rfl)
             refine pure_ (i := 4) (N := some 93) (v := ?_) (a' := ?_) b5ML rfl rfl (any_of HT_.out (by kernel_rfl)) (fun _ _ _ h => h) (Or.inl ⟨by rfl, ?_⟩) ?_ ?_
             rotate_left; (intro w'; go_simp; with_reducible rfl); rotate_left; (simp only [Act.put, List.setIfInBounds_toArray, List.set_cons_zero, List.set_cons_succ, i64_w]; rfl)
             refine pure_ (i := 5) (N := some 94) (v := ?_) (a' := ?_) b6ML rfl rfl (any_of HT_.out (by kernel_rfl)) (fun _ _ _ h => h) (Or.inl ⟨by rfl, ?_⟩) ?_ ?_
             rotate_left; (intro w'; go_simp; with_reducible rfl); rotate_left; (simp only [Act.put, List.setIfInBounds_toArray, List.set_cons_zero, List.set_cons_succ, i64_w]; rfl)
             refine pure_ (i := 7) (N := some 96) (v := ?_) (a' := ?_) b7ML rfl rfl (any_of HT_.out (by kernel_rfl)) (fun _ _ _ h => h) (Or.inl ⟨by rfl, ?_⟩) ?_ ?_
             rotate_left; (intro w'; go_simp; with_reducible rfl); rotate_left; (simp only [Act.put, List.setIfInBounds_toArray, List.set_cons_zero, List.set_cons_succ, i64_w]; rfl)
             refine take_ (i := 6) (N := some 95) (v := ?_) (a' := ?_) b8ML rfl rfl (take_ofW HT_.out HW_.out (by kernel_rfl)) (fun _ _ _ h => h) (Or.inl ⟨by rfl, ?_⟩) hHeld ?_ ?_
             rotate_left
             ·rintro w' ⟨s0, s1, s2, s3, s4⟩
              go_simp
              with_reducible rfl
             rotate_left
             ·simp only [Act.put, List.setIfInBounds_toArray, List.set_cons_zero, List.set_cons_succ, i64_w]
              rfl
             refine pure_ (i := 8) (N := some 97) (v := ?_) (a' := ?_) b9ML rfl rfl (any_of HT_.out (by kernel_rfl)) (fun _ _ _ h => h) (Or.inl ⟨by rfl, ?_⟩) ?_ ?_
             rotate_left; (intro w'; go_simp; with_reducible rfl); rotate_left; (simp only [Act.put, List.setIfInBounds_toArray, List.set_cons_zero, List.set_cons_succ, i64_w]; rfl)
             refine pure_ (i := 9) (N := some 98) (v := ?_) (a' := ?_) b10ML rfl rfl (any_of HT_.out (by kernel_rfl)) (fun _ _ _ h => h) (Or.inl ⟨by rfl, ?_⟩) ?_ ?_
             rotate_left; (intro w'; go_simp; with_reducible rfl); rotate_left; (simp only [Act.put, List.setIfInBounds_toArray, List.set_cons_zero, List.set_cons_succ, i64_w]; rfl)
             refine pure_ (i := 10) (N := some 99) (v := ?_) (a' := ?_) b11ML rfl rfl (any_of HT_.out (by kernel_rfl)) (fun _ _ _ h => h) (Or.inl ⟨by rfl, ?_⟩) ?_ ?_
             rotate_left; (intro w'; go_simp; with_reducible rfl); rotate_left; (simp only [Act.put, List.setIfInBounds_toArray, List.set_cons_zero, List.set_cons_succ, i64_w]; rfl)
             refine pure_ (i := 11) (N := some 100) (v := ?_) (a' := ?_) b12ML rfl rfl (any_of HT_.out (by kernel_rfl)) (fun _ _ _ h => h) (Or.inl ⟨by rfl, ?_⟩) ?_ ?_
             rotate_left; (intro w'; go_simp; with_reducible rfl); rotate_left; (simp only [Act.put, List.setIfInBounds_toArray, List.set_cons_zero, List.set_cons_succ, i64_w]; rfl)
             refine pure_ (i := 12) (N := some 101) (v := ?_) (a' := ?_) b13ML rfl rfl (any_of HT_.out (by kernel_rfl)) (fun _ _ _ h => h) (Or.inl ⟨by rfl, ?_⟩) ?_ ?_
             rotate_left; (intro w'; go_simp; with_reducible rfl); rotate_left; (simp only [Act.put, List.setIfInBounds_toArray, List.set_cons_zero, List.set_cons_succ, i64_w]; rfl)
             refine pure_ (i := 13) (N := some 102) (v := ?_) (a' := ?_) b14ML rfl rfl (any_of HT_.out (by kernel_rfl)) (fun _ _ _ h => h) (Or.inl ⟨by rfl, ?_⟩) ?_ ?_
             rotate_left; (intro w'; go_simp; with_reducible rfl); rotate_left; (simp only [Act.put, List.setIfInBounds_toArray, List.set_cons_zero, List.set_cons_succ, i64_w]; rfl)
             refine take_ (i := 14) (N := some 103) (v := ?_) (a' := ?_) b15ML rfl rfl (take_ofW HT_.out HW_.out (by kernel_rfl)) (fun _ _ _ h => h) (Or.inl ⟨by rfl, ?_⟩) hHeld ?_ ?_
             rotate_left
             ·rintro w' ⟨s0, s1, s2, s3, s4⟩
              go_simp
              with_reducible rfl
             rotate_left
             ·simp only [Act.put, List.setIfInBounds_toArray, List.set_cons_zero, List.set_cons_succ, i64_w]
              rfl
             refine one_ (i := 15) (N := some 104) b16ML rfl rfl (one_of HT_.out (by kernel_rfl)) (by decide) (fun K hK => ?_)
             refine goes_ Try.func27 (by kernel_rfl) rfl #[.slice Ao55 t447.length co55, .int .i64 (rd (rd_L1 t439 x84_2) 2)] (by rfl) rfl rfl (by (try simp only [List.map_toArray, List.map_cons, List.map_nil]); first | done | rfl) ?_
             with_reducible refine (laws_dHas.calls k2 _ _ t447 (rd (rd_L1 t439 x84_2) 2) true _ ?side1 ?side2 A45.out).mono ?_
             (case side1 => repeat (first | exact (R_reads' HO_10.out).2.2 | (with_reducible first | refine C_alloc ?_ _ | refine C_drewN ?_ _ | refine C_drew ?_)))
             (case side2 => exact (R_reads' HO_10.out).2.1)
             rintro e w' ⟨rfl, ⟨nd, rfl⟩⟩
             refine ⟨_, rfl, ?_⟩
             have p462 : 0 ≤ (2 : Int) := (by omega)
             have q462 : 2 < ((rd_L1 t439 x84_2).length : Int) := of_decide_eq_true (by first | (with_reducible assumption) | assumption)
             obtain ⟨ad462x, e462, hx462_0⟩ := Kd.at_int (by repeat (first | (with_reducible exact HR457_0.out) | (with_reducible first | refine C_alloc ?_ _ | refine C_drewN ?_ _ | refine C_drew ?_) | exact HR457_0.out)) 2 p462 q462
             obtain rfl : ad459 = ad462x := (by injection e462)
             (try simp only [show (2 : Int).toNat = 2 from rfl, Nat.reduceMul, Nat.reduceEqDiff, Go.Addr.add, ↓reduceIte] at hx462_0)
             have qi462 : (2 < (rd_L1 t439 x84_2).length) = True := eq_true (by omega)
             (try rw [show ((2 : Int)).toNat = 2 from rfl] at hx462_0)
             replace p462 := eq_true p462; replace q462 := eq_true q462
             have p464 : 0 ≤ (2 : Int) := (by omega)
             have q464 : 2 < ((rd_L1 t439 (ji48)).length : Int) := of_decide_eq_true (by first | (with_reducible assumption) | assumption)
             obtain ⟨ad464x, e464, hx464_0⟩ := Kd.at_int (by repeat (first | (with_reducible exact HR463_0.out) | (with_reducible first | refine C_alloc ?_ _ | refine C_drewN ?_ _ | refine C_drew ?_) | exact HR463_0.out)) 2 p464 q464
             obtain rfl : ad464 = ad464x := (by injection e464)
             (try simp only [show (2 : Int).toNat = 2 from rfl, Nat.reduceMul, Nat.reduceEqDiff, Go.Addr.add, ↓reduceIte] at hx464_0)
             have qi464 : (2 < (rd_L1 t439 (ji48)).length) = True := eq_true (by omega)
             (try rw [show ((2 : Int)).toNat = 2 from rfl] at hx464_0)
             replace p464 := eq_true p464; replace q464 := eq_true q464
             refine hK.out _ _ ⟨hHeld.1, hHeld.2.1, hHeld.2.2.1, hHeld.2.2.2.1, hHeld.2.2.2.2⟩ (fun hHeld => ?_)
             clear hK K
             refine norm_ (a' := ?_) ?_ ?_
             rotate_left
             ·show Act.put _ (some 104) _ = _
              simp only [Act.put, List.setIfInBounds_toArray, List.set_cons_zero, List.set_cons_succ, i64_w]
              rfl
             refine pure_ (i := 16) (N := some 105) (v := ?_) (a' := ?_) b17ML rfl rfl (any_of HT_.out (by kernel_rfl)) (fun _ _ _ h => h) (Or.inl ⟨by rfl, ?_⟩) ?_ ?_
             rotate_left; (intro w'; go_simp; with_reducible rfl); rotate_left; (simp only [Act.put, List.setIfInBounds_toArray, List.set_cons_zero, List.set_cons_succ, i64_w]; rfl)
             refine pure_ (i := 17) (N := some 106) (v := ?_) (a' := ?_) b18ML rfl rfl (any_of HT_.out (by kernel_rfl)) (fun _ _ _ h => h) (Or.inl ⟨by rfl, ?_⟩) ?_ ?_
             rotate_left; (intro w'; go_simp; with_reducible rfl); rotate_left; (simp only [Act.put, List.setIfInBounds_toArray, List.set_cons_zero, List.set_cons_succ, i64_w]; rfl)
             refine pure_ (i := 18) (N := some 107) (v := ?_) (a' := ?_) b19ML rfl rfl (any_of HT_.out (by kernel_rfl)) (fun _ _ _ h => h) (Or.inl ⟨by rfl, ?_⟩) ?_ ?_
             rotate_left; (intro w'; go_simp; with_reducible rfl); rotate_left; (simp only [Act.put, List.setIfInBounds_toArray, List.set_cons_zero, List.set_cons_succ, i64_w]; rfl)
             refine pure_ (i := 19) (N := some 108) (v := ?_) (a' := ?_) b20ML rfl rfl (any_of HT_.out (by kernel_rfl)) (fun _ _ _ h => h) (Or.inl ⟨by rfl, ?_⟩) ?_ ?_
             rotate_left; (intro w'; go_simp; with_reducible rfl); rotate_left; (simp only [Act.put, List.setIfInBounds_toArray, List.set_cons_zero, List.set_cons_succ, i64_w]; rfl)
             refine pure_ (i := 20) (N := some 109) (v := ?_) (a' := ?_) b21ML rfl rfl (any_of HT_.out (by kernel_rfl)) (fun _ _ _ h => h) (Or.inl ⟨by rfl, ?_⟩) ?_ ?_
             rotate_left; (intro w'; go_simp; with_reducible rfl); rotate_left; (simp only [Act.put, List.setIfInBounds_toArray, List.set_cons_zero, List.set_cons_succ, i64_w]; rfl)
             refine pure_ (i := 21) (N := some 110) (v := ?_) (a' := ?_) b22ML rfl rfl (any_of HT_.out (by kernel_rfl)) (fun _ _ _ h => h) (Or.inl ⟨by rfl, ?_⟩) ?_ ?_
             rotate_left; (intro w'; go_simp; with_reducible rfl); rotate_left; (simp only [Act.put, List.setIfInBounds_toArray, List.set_cons_zero, List.set_cons_succ, i64_w]; rfl)
             refine pure_ (i := 22) (N := some 111) (v := ?_) (a' := ?_) b23ML rfl rfl (any_of HT_.out (by kernel_rfl)) (fun _ _ _ h => h) (Or.inl ⟨by rfl, ?_⟩) ?_ ?_
             rotate_left; (intro w'; go_simp; with_reducible rfl); rotate_left; (simp only [Act.put, List.setIfInBounds_toArray, List.set_cons_zero, List.set_cons_succ, i64_w]; rfl)
             refine pure_ (i := 23) (N := some 112) (v := ?_) (a' := ?_) b24ML rfl rfl (any_of HT_.out (by kernel_rfl)) (fun _ _ _ h => h) (Or.inl ⟨by rfl, ?_⟩) ?_ ?_
             rotate_left; (intro w'; go_simp; with_reducible rfl); rotate_left; (simp only [Act.put, List.setIfInBounds_toArray, List.set_cons_zero, List.set_cons_succ, i64_w]; rfl)
             refine pure_ (i := 25) (N := some 114) (v := ?_) (a' := ?_) b36ML rfl rfl (any_of HT_.out (by kernel_rfl)) (fun _ _ _ h => h) (Or.inl ⟨by rfl, ?_⟩) ?_ ?_
             rotate_left; (intro w'; go_simp; with_reducible rfl); rotate_left; (simp only [Act.put, List.setIfInBounds_toArray, List.set_cons_zero, List.set_cons_succ, i64_w]; rfl)
             refine pure_ (i := 26) (N := some 115) (v := ?_) (a' := ?_) b37ML rfl rfl (any_of HT_.out (by kernel_rfl)) (fun _ _ _ h => h) (Or.inl ⟨by rfl, ?_⟩) ?_ ?_
             rotate_left; (intro w'; go_simp; with_reducible rfl); rotate_left; (simp only [Act.put, List.setIfInBounds_toArray, List.set_cons_zero, List.set_cons_succ, i64_w]; rfl)
             refine pure_ (i := 27) (N := some 116) (v := ?_) (a' := ?_) b38ML rfl rfl (any_of HT_.out (by kernel_rfl)) (fun _ _ _ h => h) (Or.inl ⟨by rfl, ?_⟩) ?_ ?_
             rotate_left; (intro w'; go_simp; with_reducible rfl); rotate_left; (simp only [Act.put, List.setIfInBounds_toArray, List.set_cons_zero, List.set_cons_succ, i64_w]; rfl)
             refine pure_ (i := 28) (N := some 117) (v := ?_) (a' := ?_) b39ML rfl rfl (any_of HT_.out (by kernel_rfl)) (fun _ _ _ h => h) (Or.inl ⟨by rfl, ?_⟩) ?_ ?_
             rotate_left; (intro w'; go_simp; with_reducible rfl); rotate_left; (simp only [Act.put, List.setIfInBounds_toArray, List.set_cons_zero, List.set_cons_succ, i64_w]; rfl)
             refine take_ (i := 24) (N := some 113) (v := ?_) (a' := ?_) b29ML rfl rfl (take_ofW HT_.out HW_.out (by kernel_rfl)) (fun _ _ _ h => h) (Or.inl ⟨by rfl, ?_⟩) hHeld ?_ ?_
             rotate_left
             ·rintro w' ⟨s0, s1, s2, s3, s4⟩
              go_simp
              with_reducible rfl
             rotate_left
             ·simp only [Act.put, List.setIfInBounds_toArray, List.set_cons_zero, List.set_cons_succ, i64_w]
              rfl
             refine take_ (i := 29) (N := some 118) (v := ?_) (a' := ?_) b30ML rfl rfl (take_ofW HT_.out HW_.out (by kernel_rfl)) (fun _ _ _ h => h) (Or.inl ⟨by rfl, ?_⟩) hHeld ?_ ?_
             rotate_left
             ·rintro w' ⟨s0, s1, s2, s3, s4⟩
              go_simp
              with_reducible rfl
             rotate_left
             ·simp only [Act.put, List.setIfInBounds_toArray, List.set_cons_zero, List.set_cons_succ, i64_w]
              rfl
             refine pure_ (i := 30) (N := some 119) (v := ?_) (a' := ?_) b31ML rfl rfl (any_of HT_.out (by kernel_rfl)) (fun _ _ _ h => h) (Or.inl ⟨by rfl, ?_⟩) ?_ ?_
             rotate_left; (intro w'; go_simp; with_reducible rfl); rotate_left; (simp only [Act.put, List.setIfInBounds_toArray, List.set_cons_zero, List.set_cons_succ, i64_w]; rfl)
             refine take_ (i := 31) (N := some 120) (v := ?_) (a' := ?_) b32ML rfl rfl (take_ofW HT_.out HW_.out (by kernel_rfl)) (fun _ _ _ h => h) (Or.inl ⟨by rfl, ?_⟩) hHeld ?_ ?_
             rotate_left
             ·rintro w' ⟨s0, s1, s2, s3, s4⟩
              go_simp
              with_reducible rfl
             rotate_left
             ·simp only [Act.put, List.setIfInBounds_toArray, List.set_cons_zero, List.set_cons_succ, i64_w]
              rfl
             refine pure_ (i := 32) (N := some 121) (v := ?_) (a' := ?_) b33ML rfl rfl (any_of HT_.out (by kernel_rfl)) (fun _ _ _ h => h) (Or.inl ⟨by rfl, ?_⟩) ?_ ?_
             rotate_left; (intro w'; go_simp; with_reducible rfl); rotate_left; (simp only [Act.put, List.setIfInBounds_toArray, List.set_cons_zero, List.set_cons_succ, i64_w]; rfl)
             refine pure_ (i := 33) (N := some 122) (v := ?_) (a' := ?_) b34ML rfl rfl (any_of HT_.out (by kernel_rfl)) (fun _ _ _ h => h) (Or.inl ⟨by rfl, ?_⟩) ?_ ?_
             rotate_left; (intro w'; go_simp; with_reducible rfl); rotate_left; (simp only [Act.put, List.setIfInBounds_toArray, List.set_cons_zero, List.set_cons_succ, i64_w]; rfl)
             refine pure_ (i := 34) (N := some 123) (v := ?_) (a' := ?_) b35ML rfl rfl (any_of HT_.out (by kernel_rfl)) (fun _ _ _ h => h) (Or.inl ⟨by rfl, ?_⟩) ?_ ?_
             rotate_left; (intro w'; go_simp; with_reducible rfl); rotate_left; (simp only [Act.put, List.setIfInBounds_toArray, List.set_cons_zero, List.set_cons_succ, i64_w]; rfl)
             refine done_ (done_of HT_.out (by kernel_rfl)) ?_
             try go_wp2
             go_ret
             exact ⟨by first | rfl | (simp [errW_none, errW_some] <;> rfl) | (simp only [← hji48]; first | rfl | (simp [errW_none, errW_some] <;> rfl)) | (simp [*, errW_none, errW_some] <;> rfl), by repeat (first | (with_reducible first | exact HB.out | apply below_alloc | apply pw_below_drewN | apply below_drew1) | exact HB.out)⟩
            ·as_aux_lemma =>
             rw [if_neg c52] at H
             have c52b0 : decide ((rd (rd_L1 t439 x84_2) 2) < (rd (rd_L1 t439 (ji48)) 2)) = false := decide_eq_false c52
             clear c52
             replace H := Option.bind_eq_some_iff.mp H
             obtain ⟨⟨t465, t466⟩, A560, H⟩ := H
             replace H : (if x84_2 ≤ (t439.length : Int) then ((some (t439.take (x84_2 : Int).toNat : List (List Int))).bind fun y469 => (laws_FnMarkovLists.l1 k2 l1 t438 t439 t447 t465 t466 false t439 (t439.length : Int) x84_2 y469 (y469.length : Int) 0)) else (none)) = some r := H
             have A56 := Aside0.mk A560
             clear A560
             have c57b0 := eq_true (of_decide_eq_true (by first | (with_reducible assumption) | assumption) : 0 ≤ x84_2)
             by_cases c58 : x84_2 ≤ (t439.length : Int)
             rotate_left
             ·rw [if_neg c58] at H
              exact absurd H (by simp)
             as_aux_lemma =>
             rw [if_pos c58] at H
             have c58b0 := eq_true c58
             have c58b1 : decide (x84_2 ≤ (t439.length : Int)) = true := decide_eq_true c58
             clear c58
             obtain ⟨y469, hy469⟩ : ∃ y_ : List (List Int), y_ = (t439.take (x84_2 : Int).toNat) := ⟨_, rfl⟩
             replace H : (laws_FnMarkovLists.l1 k2 l1 t438 t439 t447 t465 t466 false t439 (t439.length : Int) x84_2 y469 (y469.length : Int) 0) = some r := by first | (rw [hy469]; with_reducible exact H) | (have H2_ := (Option.bind_some _ _).symm.trans H; rw [hy469]; with_reducible exact H2_) | (have H2_ := (Option.bind_some _ _).symm.trans H; with_reducible exact H2_) | with_reducible exact H | (rw [hy469]; exact H) | exact H
             have Ny469 := Aside0.mk hy469
             clear hy469
             have H' := Aside0.mk H
             clear H
             have p457 : 0 ≤ (x84_2 : Int) := of_decide_eq_true (by first | (with_reducible assumption) | assumption)
             have q457 : x84_2 < (t439.length : Int) := of_decide_eq_true (by first | (with_reducible assumption) | assumption)
             obtain ⟨ad457, A457_0, c457_0, e457, hx457_0, hl457_0, hi457_0⟩ := at_L1 (N_reads' HO_82.out).2.2 x84_2 p457 q457
             cases e457
             obtain ⟨ce457, hce457, hMe457, hcc457⟩ := N_get HO_82.out [] x84_2 p457 (by first | exact q457 | exact of_decide_eq_true (by first | (with_reducible assumption) | assumption) | (have e_ := (N_reads' HO_82.out).1; omega))
             obtain ⟨ua457_0, uc457_0, rfl, ul457_0, ge457_0⟩ := Kd.FK_slice_open hMe457
             have hv457_0 := hcc457 0 _ rfl
             rw [Nat.add_zero, show ((Kd.slice 3 (Kd.int .i64))).sz = 1 from rfl, Nat.mul_one] at hv457_0
             replace hv457_0 := Option.some.inj (hv457_0.symm.trans hx457_0)
             injection hv457_0 with hva_ hvn_ hvc_
             rw [hva_] at ge457_0
             rw [hvc_] at ul457_0
             have HL457_0 := Aside0.mk (show Kd.V (Kd.int .i64) 3 _ w.heap.size _ _ (rd_L1 t439 x84_2) from V_mk ul457_0 ge457_0)
             clear hva_ hvn_ hvc_ ge457_0 ul457_0; clear hcc457 hce457
             have HR457_0 := Aside0.mk hi457_0
             have HC457_0 := Aside0.mk hl457_0
             clear hi457_0 hl457_0; replace p457 := eq_true p457; replace q457 := eq_true q457
             try go_wp2
             have n0_ := Aside0.mk (N_drew HO_6.out)
             have n1_ := Aside0.mk (R_drew HO_10.out)
             have n2_ := Aside0.mk (N_drew HO_82.out)
             have n3_ := Aside0.mk (V_drew HL457_0.out)
             have n4_ := Aside0.mk (C_drew HR457_0.out)
             have n5_ := Aside0.mk (below_drew1 HB.out)
             clear HO_6; clear HO_10; clear HO_82; clear HL457_0; clear HR457_0; clear HB; have HO_6 := n0_; have HO_10 := n1_; have HO_82 := n2_; have HL457_0 := n3_; have HR457_0 := n4_; have HB := n5_; clear n0_ n1_ n2_ n3_ n4_ n5_
             have p463 : 0 ≤ ((ji48) : Int) := of_decide_eq_true (by first | (with_reducible assumption) | assumption)
             have q463 : (ji48) < (t439.length : Int) := of_decide_eq_true (by first | (with_reducible assumption) | assumption)
             obtain ⟨ad463, A463_0, c463_0, e463, hx463_0, hl463_0, hi463_0⟩ := at_L1 (N_reads' HO_6.out).2.2 (ji48) p463 q463
             obtain rfl : ad457 = ad463 := (by injection e463)
             obtain ⟨ce463, hce463, hMe463, hcc463⟩ := N_get HO_6.out [] (ji48) p463 (by first | exact q463 | exact of_decide_eq_true (by first | (with_reducible assumption) | assumption) | (have e_ := (N_reads' HO_6.out).1; omega))
             obtain ⟨ua463_0, uc463_0, rfl, ul463_0, ge463_0⟩ := Kd.FK_slice_open hMe463
             have hv463_0 := hcc463 0 _ rfl
             rw [Nat.add_zero, show ((Kd.slice 3 (Kd.int .i64))).sz = 1 from rfl, Nat.mul_one] at hv463_0
             replace hv463_0 := Option.some.inj (hv463_0.symm.trans hx463_0)
             injection hv463_0 with hva_ hvn_ hvc_
             rw [hva_] at ge463_0
             rw [hvc_] at ul463_0
             have HL463_0 := Aside0.mk (show Kd.V (Kd.int .i64) 3 _ w.heap.size _ _ (rd_L1 t439 (ji48)) from V_mk ul463_0 ge463_0)
             clear hva_ hvn_ hvc_ ge463_0 ul463_0; clear hcc463 hce463
             have HR463_0 := Aside0.mk hi463_0
             have HC463_0 := Aside0.mk hl463_0
             clear hi463_0 hl463_0; replace p463 := eq_true p463; replace q463 := eq_true q463
             have p459 : 0 ≤ (2 : Int) := (by omega)
             have q459 : 2 < ((rd_L1 t439 x84_2).length : Int) := of_decide_eq_true (by first | (with_reducible assumption) | assumption)
             obtain ⟨ad459, e459, hx459_0⟩ := Kd.at_int (by repeat (first | (with_reducible exact HR457_0.out) | (with_reducible first | refine C_alloc ?_ _ | refine C_drewN ?_ _ | refine C_drew ?_) | exact HR457_0.out)) 2 p459 q459
             cases e459
             (try simp only [show (2 : Int).toNat = 2 from rfl, Nat.reduceMul, Nat.reduceEqDiff, Go.Addr.add, ↓reduceIte] at hx459_0)
             have qi459 : (2 < (rd_L1 t439 x84_2).length) = True := eq_true (by omega)
             (try rw [show ((2 : Int)).toNat = 2 from rfl] at hx459_0)
             replace p459 := eq_true p459; replace q459 := eq_true q459
             have p460 : 0 ≤ (2 : Int) := (by omega)
             have q460 : 2 < ((rd_L1 t439 x84_2).length : Int) := of_decide_eq_true (by first | (with_reducible assumption) | assumption)
             obtain ⟨ad460, e460, hx460_0⟩ := Kd.at_int (by repeat (first | (with_reducible exact HR457_0.out) | (with_reducible first | refine C_alloc ?_ _ | refine C_drewN ?_ _ | refine C_drew ?_) | exact HR457_0.out)) 2 p460 q460
             obtain rfl : ad459 = ad460 := (by injection e460)
             (try simp only [show (2 : Int).toNat = 2 from rfl, Nat.reduceMul, Nat.reduceEqDiff, Go.Addr.add, ↓reduceIte] at hx460_0)
             have qi460 : (2 < (rd_L1 t439 x84_2).length) = True := eq_true (by omega)
             (try rw [show ((2 : Int)).toNat = 2 from rfl] at hx460_0)
             replace p460 := eq_true p460; replace q460 := eq_true q460
             have p462 : 0 ≤ (2 : Int) := (by omega)
             have q462 : 2 < ((rd_L1 t439 x84_2).length : Int) := of_decide_eq_true (by first | (with_reducible assumption) | assumption)
             obtain ⟨ad462, e462, hx462_0⟩ := Kd.at_int (by repeat (first | (with_reducible exact HR457_0.out) | (with_reducible first | refine C_alloc ?_ _ | refine C_drewN ?_ _ | refine C_drew ?_) | exact HR457_0.out)) 2 p462 q462
             obtain rfl : ad459 = ad462 := (by injection e462)
             (try simp only [show (2 : Int).toNat = 2 from rfl, Nat.reduceMul, Nat.reduceEqDiff, Go.Addr.add, ↓reduceIte] at hx462_0)
             have qi462 : (2 < (rd_L1 t439 x84_2).length) = True := eq_true (by omega)
             (try rw [show ((2 : Int)).toNat = 2 from rfl] at hx462_0)
             replace p462 := eq_true p462; replace q462 := eq_true q462
             have p464 : 0 ≤ (2 : Int) := (by omega)
             have q464 : 2 < ((rd_L1 t439 (ji48)).length : Int) := of_decide_eq_true (by first | (with_reducible assumption) | assumption)
             obtain ⟨ad464, e464, hx464_0⟩ := Kd.at_int (by repeat (first | (with_reducible exact HR463_0.out) | (with_reducible first | refine C_alloc ?_ _ | refine C_drewN ?_ _ | refine C_drew ?_) | exact HR463_0.out)) 2 p464 q464
             cases e464
             (try simp only [show (2 : Int).toNat = 2 from rfl, Nat.reduceMul, Nat.reduceEqDiff, Go.Addr.add, ↓reduceIte] at hx464_0)
             have qi464 : (2 < (rd_L1 t439 (ji48)).length) = True := eq_true (by omega)
             (try rw [show ((2 : Int)).toNat = 2 from rfl] at hx464_0)
             replace p464 := eq_true p464; replace q464 := eq_true q464
             refine start_ (n := 35) (S := fun w' => w'.cell? ⟨ad459.block, ad459.off + 2, none⟩ = some (.int .i64 (rd (rd_L1 t439 x84_2) 2)) ∧ w'.cell? ⟨ad459.block, ad459.off + 2, none⟩ = some (.int .i64 (rd (rd_L1 t439 x84_2) 2)) ∧ w'.cell? ⟨ad459.block, ad459.off + 2, none⟩ = some (.int .i64 (rd (rd_L1 t439 x84_2) 2)) ∧ w'.cell? (ad457.add ((ji48)).toNat) = some (.slice (some ad464) (rd_L1 t439 (ji48)).length c463_0) ∧ w'.cell? ⟨ad464.block, ad464.off + 2, none⟩ = some (.int .i64 (rd (rd_L1 t439 (ji48)) 2))) (ds := []) b0ML (by kernel_rfl) rfl rfl ⟨hx459_0, hx460_0, hx462_0, hx463_0, hx464_0⟩ (fun hHeld => ?_); refine with_tabW laws_FnMarkovLists.tab13 laws_FnMarkovLists.bits13 (fun HT_ HW_ => ?_)
             generalize wr.drew = w59 at HO_6 HO_10 HO_82 HL457_0 HR457_0 HB HL463_0 HR463_0 hx463_0 hHeld ⊢
             refine pure_ (i := 0) (N := some 89) (v := ?_) (a' := ?_) b1ML rfl rfl (any_of HT_.out (by kernel_rfl)) (fun _ _ _ h => h) (Or.inl ⟨by rfl, ?_⟩) ?_ ?_
             rotate_left; (intro w'; go_simp; with_reducible rfl); rotate_left; (simp only [Act.put, List.setIfInBounds_toArray, List.set_cons_zero, List.set_cons_succ, i64_w]; rfl)
             refine one_ (i := 1) (N := some 90) b2ML rfl rfl (one_of HT_.out (by kernel_rfl)) (by decide) (fun K hK => ?_)
             refine goes_ Try.func26 (by kernel_rfl) rfl #[.slice (some ad459) (rd_L1 t439 x84_2).length c457_0] (by rfl) rfl rfl (by (try simp only [List.map_toArray, List.map_cons, List.map_nil]); first | done | rfl) ?_
             with_reducible refine (impl_IsMarkov.calls k2 _ _ (rd_L1 t439 x84_2) true _ ?side1 ?side2 A39.out).mono ?_
             (case side1 => first | (obtain ⟨ad_, A_, c_, e_, hx_, hl_, hi_⟩ := at_L1 (N_reads' HO_82.out).2.2 x84_2 (of_eq_true p457) (of_eq_true q457); cases e_; have hq_ := hx_.symm.trans hHeld; injection hq_ with hq_; injection hq_ with e1_ e2_ e3_; subst e1_; exact hi_) | (obtain ⟨ad_, A_, c_, e_, hx_, hl_, hi_⟩ := at_L1 (N_reads' HO_82.out).2.2 x84_2 (of_eq_true p457) (of_eq_true q457); cases e_; have hq_ := hx_.symm.trans hHeld.1; injection hq_ with hq_; injection hq_ with e1_ e2_ e3_; subst e1_; exact hi_) | (obtain ⟨ad_, A_, c_, e_, hx_, hl_, hi_⟩ := at_L1 (N_reads' HO_82.out).2.2 x84_2 (of_eq_true p457) (of_eq_true q457); cases e_; have hq_ := hx_.symm.trans hHeld.2; injection hq_ with hq_; injection hq_ with e1_ e2_ e3_; subst e1_; exact hi_) | (repeat (first | exact (by repeat (first | (with_reducible exact HR457_0.out) | (with_reducible first | refine C_alloc ?_ _ | refine C_drewN ?_ _ | refine C_drew ?_) | exact HR457_0.out)) | (with_reducible first | refine C_alloc ?_ _ | refine C_drewN ?_ _ | refine C_drew ?_))))
             (case side2 => exact HC457_0.out)
             rintro e w60 ⟨rfl, hb⟩
             have HS0_ := (hb.cell (World.block_lt_of_cell? _ _ (hHeld.1))).trans (hHeld.1)
             have HS1_ := (hb.cell (World.block_lt_of_cell? _ _ (hHeld.2.1))).trans (hHeld.2.1)
             have HS2_ := (hb.cell (World.block_lt_of_cell? _ _ (hHeld.2.2.1))).trans (hHeld.2.2.1)
             have HS3_ := (hb.cell (World.block_lt_of_cell? _ _ (hHeld.2.2.2.1))).trans (hHeld.2.2.2.1)
             have HS4_ := (hb.cell (World.block_lt_of_cell? _ _ (hHeld.2.2.2.2))).trans (hHeld.2.2.2.2)
             refine ⟨_, rfl, ?_⟩
             have n0_ := Aside0.mk (N_below (by (with_reducible repeat (first | apply N_alloc | apply N_drewN | apply N_drew)); exact HO_6.out) hb)
             have n1_ := Aside0.mk (R_below (by (with_reducible repeat (first | apply R_alloc | apply R_drewN | apply R_drew)); exact HO_10.out) hb)
             have n2_ := Aside0.mk (N_below (by (with_reducible repeat (first | apply N_alloc | apply N_drewN | apply N_drew)); exact HO_82.out) hb)
             have n3_ := Aside0.mk (V_below (by (with_reducible repeat (first | apply V_alloc | apply V_drewN | apply V_drew)); exact HL457_0.out) hb)
             have n4_ := Aside0.mk (C_below (by repeat (first | (with_reducible exact HR457_0.out) | (with_reducible first | refine C_alloc ?_ _ | refine C_drewN ?_ _ | refine C_drew ?_) | exact HR457_0.out)) hb)
             have n5_ := Aside0.mk (below_step (by repeat (first | (with_reducible first | exact HB.out | apply below_alloc | apply pw_below_drewN | apply below_drew1) | exact HB.out)) hb)
             have nL_ := Aside0.mk (V_below HL463_0.out hb); have nR_ := Aside0.mk (C_below HR463_0.out hb); clear HL463_0 HR463_0; have HL463_0 := nL_; have HR463_0 := nR_; clear nL_ nR_
             clear HO_6; clear HO_10; clear HO_82; clear HL457_0; clear HR457_0; clear HB; have HO_6 := n0_; have HO_10 := n1_; have HO_82 := n2_; have HL457_0 := n3_; have HR457_0 := n4_; have HB := n5_; clear n0_ n1_ n2_ n3_ n4_ n5_; (try clear hb); (try clear hb2); (try clear hk); (try clear hi)
             have p459 : 0 ≤ (2 : Int) := (by omega)
             have q459 : 2 < ((rd_L1 t439 x84_2).length : Int) := of_decide_eq_true (by first | (with_reducible assumption) | assumption)
             obtain ⟨ad459x, e459, hx459_0⟩ := Kd.at_int (by repeat (first | (with_reducible exact HR457_0.out) | (with_reducible first | refine C_alloc ?_ _ | refine C_drewN ?_ _ | refine C_drew ?_) | exact HR457_0.out)) 2 p459 q459
             obtain rfl : ad459 = ad459x := (by injection e459)
             (try simp only [show (2 : Int).toNat = 2 from rfl, Nat.reduceMul, Nat.reduceEqDiff, Go.Addr.add, ↓reduceIte] at hx459_0)
             have qi459 : (2 < (rd_L1 t439 x84_2).length) = True := eq_true (by omega)
             (try rw [show ((2 : Int)).toNat = 2 from rfl] at hx459_0)
             replace p459 := eq_true p459; replace q459 := eq_true q459
             have p460 : 0 ≤ (2 : Int) := (by omega)
             have q460 : 2 < ((rd_L1 t439 x84_2).length : Int) := of_decide_eq_true (by first | (with_reducible assumption) | assumption)
             obtain ⟨ad460x, e460, hx460_0⟩ := Kd.at_int (by repeat (first | (with_reducible exact HR457_0.out) | (with_reducible first | refine C_alloc ?_ _ | refine C_drewN ?_ _ | refine C_drew ?_) | exact HR457_0.out)) 2 p460 q460
             obtain rfl : ad459 = ad460x := (by injection e460)
             (try simp only [show (2 : Int).toNat = 2 from rfl, Nat.reduceMul, Nat.reduceEqDiff, Go.Addr.add, ↓reduceIte] at hx460_0)
             have qi460 : (2 < (rd_L1 t439 x84_2).length) = True := eq_true (by omega)
             (try rw [show ((2 : Int)).toNat = 2 from rfl] at hx460_0)
             replace p460 := eq_true p460; replace q460 := eq_true q460
             obtain ⟨Ao61, co61, eo61⟩ := R_slice HO_10.out
             (first | subst eo61 | (injection eo61 with f1_ f2_ f3_; have f4_ := f1_.symm; have f5_ := f3_.symm; clear f1_ f2_ f3_; subst f4_; subst f5_))
             refine hK.out _ _ ⟨HS0_, HS1_, HS2_, HS3_, HS4_⟩ (fun hHeld => ?_)
             clear hK K
             refine norm_ (a' := ?_) ?_ ?_
             rotate_left
             ·show Act.put _ (some 90) _ = _
              simp only [Act.put, List.setIfInBounds_toArray, List.set_cons_zero, List.set_cons_succ, i64_w]
              rfl
             refine pure_ (i := 2) (N := some 91) (v := ?_) (a' := ?_) b3ML rfl rfl (any_of HT_.out (by kernel_rfl)) (fun _ _ _ h => h) (Or.inl ⟨by rfl, ?_⟩) ?_ ?_
             rotate_left; (intro w'; go_simp; with_reducible rfl); rotate_left; (simp only [Act.put, List.setIfInBounds_toArray, List.set_cons_zero, List.set_cons_succ, i64_w]; rfl)
             refine pure_ (i := 3) (N := some 92) (v := ?_) (a' := ?_) b4ML rfl rfl (any_of HT_.out (by kernel_rfl)) (fun _ _ _ h => h) (Or.inl ⟨by rfl, ?_⟩) ?_ ?_
             rotate_left; (intro w'; go_simp; with_reducible rfl); rotate_left; (simp only [Act.put, List.setIfInBounds_toArray, List.set_cons_zero, List.set_cons_succ, i64_w]; rfl)
             refine pure_ (i := 4) (N := some 93) (v := ?_) (a' := ?_) b5ML rfl rfl (any_of HT_.out (by kernel_rfl)) (fun _ _ _ h => h) (Or.inl ⟨by rfl, ?_⟩) ?_ ?_
             rotate_left; (intro w'; go_simp; with_reducible rfl); rotate_left; (simp only [Act.put, List.setIfInBounds_toArray, List.set_cons_zero, List.set_cons_succ, i64_w]; rfl)
             refine pure_ (i := 5) (N := some 94) (v := ?_) (a' := ?_) b6ML rfl rfl (any_of HT_.out (by kernel_rfl)) (fun _ _ _ h => h) (Or.inl ⟨by rfl, ?_⟩) ?_ ?_
             rotate_left; (intro w'; go_simp; with_reducible rfl); rotate_left; (simp only [Act.put, List.setIfInBounds_toArray, List.set_cons_zero, List.set_cons_succ, i64_w]; rfl)
             refine pure_ (i := 7) (N := some 96) (v := ?_) (a' := ?_) b7ML rfl rfl (any_of HT_.out (by kernel_rfl)) (fun _ _ _ h => h) (Or.inl ⟨by rfl, ?_⟩) ?_ ?_
             rotate_left; (intro w'; go_simp; with_reducible rfl); rotate_left; (simp only [Act.put, List.setIfInBounds_toArray, List.set_cons_zero, List.set_cons_succ, i64_w]; rfl)
             refine take_ (i := 6) (N := some 95) (v := ?_) (a' := ?_) b8ML rfl rfl (take_ofW HT_.out HW_.out (by kernel_rfl)) (fun _ _ _ h => h) (Or.inl ⟨by rfl, ?_⟩) hHeld ?_ ?_
             rotate_left
             ·rintro w' ⟨s0, s1, s2, s3, s4⟩
              go_simp
              with_reducible rfl
             rotate_left
             ·simp only [Act.put, List.setIfInBounds_toArray, List.set_cons_zero, List.set_cons_succ, i64_w]
              rfl
             refine pure_ (i := 8) (N := some 97) (v := ?_) (a' := ?_) b9ML rfl rfl (any_of HT_.out (by kernel_rfl)) (fun _ _ _ h => h) (Or.inl ⟨by rfl, ?_⟩) ?_ ?_
             rotate_left; (intro w'; go_simp; with_reducible rfl); rotate_left; (simp only [Act.put, List.setIfInBounds_toArray, List.set_cons_zero, List.set_cons_succ, i64_w]; rfl)
             refine pure_ (i := 9) (N := some 98) (v := ?_) (a' := ?_) b10ML rfl rfl (any_of HT_.out (by kernel_rfl)) (fun _ _ _ h => h) (Or.inl ⟨by rfl, ?_⟩) ?_ ?_
             rotate_left; (intro w'; go_simp; with_reducible rfl); rotate_left; (simp only [Act.put, List.setIfInBounds_toArray, List.set_cons_zero, List.set_cons_succ, i64_w]; rfl)
             refine pure_ (i := 10) (N := some 99) (v := ?_) (a' := ?_) b11ML rfl rfl (any_of HT_.out (by kernel_rfl)) (fun _ _ _ h => h) (Or.inl ⟨by rfl, ?_⟩) ?_ ?_
             rotate_left; (intro w'; go_simp; with_reducible rfl); rotate_left; (simp only [Act.put, List.setIfInBounds_toArray, List.set_cons_zero, List.set_cons_succ, i64_w]; rfl)
             refine pure_ (i := 11) (N := some 100) (v := ?_) (a' := ?_) b12ML rfl rfl (any_of HT_.out (by kernel_rfl)) (fun _ _ _ h => h) (Or.inl ⟨by rfl, ?_⟩) ?_ ?_
             rotate_left; (intro w'; go_simp; with_reducible rfl); rotate_left; (simp only [Act.put, List.setIfInBounds_toArray, List.set_cons_zero, List.set_cons_succ, i64_w]; rfl)
             refine pure_ (i := 12) (N := some 101) (v := ?_) (a' := ?_) b13ML rfl rfl (any_of HT_.out (by kernel_rfl)) (fun _ _ _ h => h) (Or.inl ⟨by rfl, ?_⟩) ?_ ?_
             rotate_left; (intro w'; go_simp; with_reducible rfl); rotate_left; (simp only [Act.put, List.setIfInBounds_toArray, List.set_cons_zero, List.set_cons_succ, i64_w]; rfl)
             refine pure_ (i := 13) (N := some 102) (v := ?_) (a' := ?_) b14ML rfl rfl (any_of HT_.out (by kernel_rfl)) (fun _ _ _ h => h) (Or.inl ⟨by rfl, ?_⟩) ?_ ?_
             rotate_left; (intro w'; go_simp; with_reducible rfl); rotate_left; (simp only [Act.put, List.setIfInBounds_toArray, List.set_cons_zero, List.set_cons_succ, i64_w]; rfl)
             refine take_ (i := 14) (N := some 103) (v := ?_) (a' := ?_) b15ML rfl rfl (take_ofW HT_.out HW_.out (by kernel_rfl)) (fun _ _ _ h => h) (Or.inl ⟨by rfl, ?_⟩) hHeld ?_ ?_
             rotate_left
             ·rintro w' ⟨s0, s1, s2, s3, s4⟩
              go_simp
              with_reducible rfl
             rotate_left
             ·simp only [Act.put, List.setIfInBounds_toArray, List.set_cons_zero, List.set_cons_succ, i64_w]
              rfl
             refine one_ (i := 15) (N := some 104) b16ML rfl rfl (one_of HT_.out (by kernel_rfl)) (by decide) (fun K hK => ?_)
             refine goes_ Try.func27 (by kernel_rfl) rfl #[.slice Ao61 t447.length co61, .int .i64 (rd (rd_L1 t439 x84_2) 2)] (by rfl) rfl rfl (by (try simp only [List.map_toArray, List.map_cons, List.map_nil]); first | done | rfl) ?_
             with_reducible refine (laws_dHas.calls k2 _ _ t447 (rd (rd_L1 t439 x84_2) 2) true _ ?side1 ?side2 A45.out).mono ?_
             (case side1 => repeat (first | exact (R_reads' HO_10.out).2.2 | (with_reducible first | refine C_alloc ?_ _ | refine C_drewN ?_ _ | refine C_drew ?_)))
             (case side2 => exact (R_reads' HO_10.out).2.1)
             rintro e w' ⟨rfl, ⟨nd, rfl⟩⟩
             refine ⟨_, rfl, ?_⟩
             have p462 : 0 ≤ (2 : Int) := (by omega)
             have q462 : 2 < ((rd_L1 t439 x84_2).length : Int) := of_decide_eq_true (by first | (with_reducible assumption) | assumption)
             obtain ⟨ad462x, e462, hx462_0⟩ := Kd.at_int (by repeat (first | (with_reducible exact HR457_0.out) | (with_reducible first | refine C_alloc ?_ _ | refine C_drewN ?_ _ | refine C_drew ?_) | exact HR457_0.out)) 2 p462 q462
             obtain rfl : ad459 = ad462x := (by injection e462)
             (try simp only [show (2 : Int).toNat = 2 from rfl, Nat.reduceMul, Nat.reduceEqDiff, Go.Addr.add, ↓reduceIte] at hx462_0)
             have qi462 : (2 < (rd_L1 t439 x84_2).length) = True := eq_true (by omega)
             (try rw [show ((2 : Int)).toNat = 2 from rfl] at hx462_0)
             replace p462 := eq_true p462; replace q462 := eq_true q462
             have p464 : 0 ≤ (2 : Int) := (by omega)
             have q464 : 2 < ((rd_L1 t439 (ji48)).length : Int) := of_decide_eq_true (by first | (with_reducible assumption) | assumption)
             obtain ⟨ad464x, e464, hx464_0⟩ := Kd.at_int (by repeat (first | (with_reducible exact HR463_0.out) | (with_reducible first | refine C_alloc ?_ _ | refine C_drewN ?_ _ | refine C_drew ?_) | exact HR463_0.out)) 2 p464 q464
             obtain rfl : ad464 = ad464x := (by injection e464)
             (try simp only [show (2 : Int).toNat = 2 from rfl, Nat.reduceMul, Nat.reduceEqDiff, Go.Addr.add, ↓reduceIte] at hx464_0)
             have qi464 : (2 < (rd_L1 t439 (ji48)).length) = True := eq_true (by omega)
             (try rw [show ((2 : Int)).toNat = 2 from rfl] at hx464_0)
             replace p464 := eq_true p464; replace q464 := eq_true q464
             refine hK.out _ _ ⟨hHeld.1, hHeld.2.1, hHeld.2.2.1, hHeld.2.2.2.1, hHeld.2.2.2.2⟩ (fun hHeld => ?_)
             clear hK K
             refine norm_ (a' := ?_) ?_ ?_
             rotate_left
             ·show Act.put _ (some 104) _ = _
              simp only [Act.put, List.setIfInBounds_toArray, List.set_cons_zero, List.set_cons_succ, i64_w]
              rfl
             refine pure_ (i := 16) (N := some 105) (v := ?_) (a' := ?_) b17ML rfl rfl (any_of HT_.out (by kernel_rfl)) (fun _ _ _ h => h) (Or.inl ⟨by rfl, ?_⟩) ?_ ?_
             rotate_left; (intro w'; go_simp; with_reducible rfl); rotate_left; (simp only [Act.put, List.setIfInBounds_toArray, List.set_cons_zero, List.set_cons_succ, i64_w]; rfl)
             refine pure_ (i := 17) (N := some 106) (v := ?_) (a' := ?_) b18ML rfl rfl (any_of HT_.out (by kernel_rfl)) (fun _ _ _ h => h) (Or.inl ⟨by rfl, ?_⟩) ?_ ?_
             rotate_left; (intro w'; go_simp; with_reducible rfl); rotate_left; (simp only [Act.put, List.setIfInBounds_toArray, List.set_cons_zero, List.set_cons_succ, i64_w]; rfl)
             refine pure_ (i := 18) (N := some 107) (v := ?_) (a' := ?_) b19ML rfl rfl (any_of HT_.out (by kernel_rfl)) (fun _ _ _ h => h) (Or.inl ⟨by rfl, ?_⟩) ?_ ?_
             rotate_left; (intro w'; go_simp; with_reducible rfl); rotate_left; (simp only [Act.put, List.setIfInBounds_toArray, List.set_cons_zero, List.set_cons_succ, i64_w]; rfl)
             refine pure_ (i := 19) (N := some 108) (v := ?_) (a' := ?_) b20ML rfl rfl (any_of HT_.out (by kernel_rfl)) (fun _ _ _ h => h) (Or.inl ⟨by rfl, ?_⟩) ?_ ?_
             rotate_left; (intro w'; go_simp; with_reducible rfl); rotate_left; (simp only [Act.put, List.setIfInBounds_toArray, List.set_cons_zero, List.set_cons_succ, i64_w]; rfl)
             refine pure_ (i := 20) (N := some 109) (v := ?_) (a' := ?_) b21ML rfl rfl (any_of HT_.out (by kernel_rfl)) (fun _ _ _ h => h) (Or.inl ⟨by rfl, ?_⟩) ?_ ?_
             rotate_left; (intro w'; go_simp; with_reducible rfl); rotate_left; (simp only [Act.put, List.setIfInBounds_toArray, List.set_cons_zero, List.set_cons_succ, i64_w]; rfl)
             refine pure_ (i := 21) (N := some 110) (v := ?_) (a' := ?_) b22ML rfl rfl (any_of HT_.out (by kernel_rfl)) (fun _ _ _ h => h) (Or.inl ⟨by rfl, ?_⟩) ?_ ?_
             rotate_left; (intro w'; go_simp; with_reducible rfl); rotate_left; (simp only [Act.put, List.setIfInBounds_toArray, List.set_cons_zero, List.set_cons_succ, i64_w]; rfl)
             refine pure_ (i := 22) (N := some 111) (v := ?_) (a' := ?_) b23ML rfl rfl (any_of HT_.out (by kernel_rfl)) (fun _ _ _ h => h) (Or.inl ⟨by rfl, ?_⟩) ?_ ?_
             rotate_left; (intro w'; go_simp; with_reducible rfl); rotate_left; (simp only [Act.put, List.setIfInBounds_toArray, List.set_cons_zero, List.set_cons_succ, i64_w]; rfl)
             refine pure_ (i := 23) (N := some 112) (v := ?_) (a' := ?_) b24ML rfl rfl (any_of HT_.out (by kernel_rfl)) (fun _ _ _ h => h) (Or.inl ⟨by rfl, ?_⟩) ?_ ?_
             rotate_left; (intro w'; go_simp; with_reducible rfl); rotate_left; (simp only [Act.put, List.setIfInBounds_toArray, List.set_cons_zero, List.set_cons_succ, i64_w]; rfl)
             refine pure_ (i := 25) (N := some 114) (v := ?_) (a' := ?_) b36ML rfl rfl (any_of HT_.out (by kernel_rfl)) (fun _ _ _ h => h) (Or.inl ⟨by rfl, ?_⟩) ?_ ?_
             rotate_left; (intro w'; go_simp; with_reducible rfl); rotate_left; (simp only [Act.put, List.setIfInBounds_toArray, List.set_cons_zero, List.set_cons_succ, i64_w]; rfl)
             refine pure_ (i := 26) (N := some 115) (v := ?_) (a' := ?_) b37ML rfl rfl (any_of HT_.out (by kernel_rfl)) (fun _ _ _ h => h) (Or.inl ⟨by rfl, ?_⟩) ?_ ?_
             rotate_left; (intro w'; go_simp; with_reducible rfl); rotate_left; (simp only [Act.put, List.setIfInBounds_toArray, List.set_cons_zero, List.set_cons_succ, i64_w]; rfl)
             refine pure_ (i := 27) (N := some 116) (v := ?_) (a' := ?_) b38ML rfl rfl (any_of HT_.out (by kernel_rfl)) (fun _ _ _ h => h) (Or.inl ⟨by rfl, ?_⟩) ?_ ?_
             rotate_left; (intro w'; go_simp; with_reducible rfl); rotate_left; (simp only [Act.put, List.setIfInBounds_toArray, List.set_cons_zero, List.set_cons_succ, i64_w]; rfl)
             refine pure_ (i := 28) (N := some 117) (v := ?_) (a' := ?_) b39ML rfl rfl (any_of HT_.out (by kernel_rfl)) (fun _ _ _ h => h) (Or.inl ⟨by rfl, ?_⟩) ?_ ?_
             rotate_left; (intro w'; go_simp; with_reducible rfl); rotate_left; (simp only [Act.put, List.setIfInBounds_toArray, List.set_cons_zero, List.set_cons_succ, i64_w]; rfl)
             refine take_ (i := 24) (N := some 113) (v := ?_) (a' := ?_) b29ML rfl rfl (take_ofW HT_.out HW_.out (by kernel_rfl)) (fun _ _ _ h => h) (Or.inl ⟨by rfl, ?_⟩) hHeld ?_ ?_
             rotate_left
             ·rintro w' ⟨s0, s1, s2, s3, s4⟩
              go_simp
              with_reducible rfl
             rotate_left
             ·simp only [Act.put, List.setIfInBounds_toArray, List.set_cons_zero, List.set_cons_succ, i64_w]
              rfl
             refine take_ (i := 29) (N := some 118) (v := ?_) (a' := ?_) b30ML rfl rfl (take_ofW HT_.out HW_.out (by kernel_rfl)) (fun _ _ _ h => h) (Or.inl ⟨by rfl, ?_⟩) hHeld ?_ ?_
             rotate_left
             ·rintro w' ⟨s0, s1, s2, s3, s4⟩
              go_simp
              with_reducible rfl
             rotate_left
             ·simp only [Act.put, List.setIfInBounds_toArray, List.set_cons_zero, List.set_cons_succ, i64_w]
              rfl
             refine pure_ (i := 30) (N := some 119) (v := ?_) (a' := ?_) b31ML rfl rfl (any_of HT_.out (by kernel_rfl)) (fun _ _ _ h => h) (Or.inl ⟨by rfl, ?_⟩) ?_ ?_
             rotate_left; (intro w'; go_simp; with_reducible rfl); rotate_left; (simp only [Act.put, List.setIfInBounds_toArray, List.set_cons_zero, List.set_cons_succ, i64_w]; rfl)
             refine take_ (i := 31) (N := some 120) (v := ?_) (a' := ?_) b32ML rfl rfl (take_ofW HT_.out HW_.out (by kernel_rfl)) (fun _ _ _ h => h) (Or.inl ⟨by rfl, ?_⟩) hHeld ?_ ?_
             rotate_left
             ·rintro w' ⟨s0, s1, s2, s3, s4⟩
              go_simp
              with_reducible rfl
             rotate_left
             ·simp only [Act.put, List.setIfInBounds_toArray, List.set_cons_zero, List.set_cons_succ, i64_w]
              rfl
             refine pure_ (i := 32) (N := some 121) (v := ?_) (a' := ?_) b33ML rfl rfl (any_of HT_.out (by kernel_rfl)) (fun _ _ _ h => h) (Or.inl ⟨by rfl, ?_⟩) ?_ ?_
             rotate_left; (intro w'; go_simp; with_reducible rfl); rotate_left; (simp only [Act.put, List.setIfInBounds_toArray, List.set_cons_zero, List.set_cons_succ, i64_w]; rfl)
             refine pure_ (i := 33) (N := some 122) (v := ?_) (a' := ?_) b34ML rfl rfl (any_of HT_.out (by kernel_rfl)) (fun _ _ _ h => h) (Or.inl ⟨by rfl, ?_⟩) ?_ ?_
             rotate_left; (intro w'; go_simp; with_reducible rfl); rotate_left; (simp only [Act.put, List.setIfInBounds_toArray, List.set_cons_zero, List.set_cons_succ, i64_w]; rfl)
             refine pure_ (i := 34) (N := some 123) (v := ?_) (a' := ?_) b35ML rfl rfl (any_of HT_.out (by kernel_rfl)) (fun _ _ _ h => h) (Or.inl ⟨by rfl, ?_⟩) ?_ ?_
             rotate_left; (intro w'; go_simp; with_reducible rfl); rotate_left; (simp only [Act.put, List.setIfInBounds_toArray, List.set_cons_zero, List.set_cons_succ, i64_w]; rfl)
             refine done_ (done_of HT_.out (by kernel_rfl)) ?_
             try go_wp2_with (first | ((with_reducible refine gate_callee (f := 28) rfl ?_); refine goesL_ (some 128) rfl rfl Try.func28 (by kernel_rfl) rfl #[.slice (some ad459) (rd_L1 t439 x84_2).length c457_0] rfl (by (try simp only [List.map_toArray, List.map_cons, List.map_nil]); first | done | rfl) ?_; (with_reducible refine (impl_MarkovDown.calls k2 _ _ (rd_L1 t439 x84_2) t465 t466 _ ?side1 ?side2 A56.out).mono ?_); (case side1 => repeat (first | exact (by repeat (first | (with_reducible exact HR457_0.out) | (with_reducible first | refine C_alloc ?_ _ | refine C_drewN ?_ _ | refine C_drew ?_) | exact HR457_0.out)) | (with_reducible first | refine C_alloc ?_ _ | refine C_drewN ?_ _ | refine C_drew ?_))); (case side2 => exact HC457_0.out); rintro e w62 ⟨v467, rfl, ho0, hb⟩; refine ⟨_, rfl, ?_⟩; have n0_ := Aside0.mk (N_elder' (by (with_reducible repeat (first | apply N_alloc | apply N_drewN | apply N_drew)); exact HO_6.out) (R_base ho0) hb); have n1_ := Aside0.mk (R_elder' (by (with_reducible repeat (first | apply R_alloc | apply R_drewN | apply R_drew)); exact HO_10.out) (R_base ho0) hb); have n2_ := Aside0.mk (N_elder' (by (with_reducible repeat (first | apply N_alloc | apply N_drewN | apply N_drew)); exact HO_82.out) (R_base ho0) hb); have n3_ := Aside0.mk (V_elder' (by (with_reducible repeat (first | apply V_alloc | apply V_drewN | apply V_drew)); exact HL457_0.out) (R_base ho0) hb); have n4_ := Aside0.mk (V_elder' (by (with_reducible repeat (first | apply V_alloc | apply V_drewN | apply V_drew)); exact HL463_0.out) (R_base ho0) hb); have n5_ := Aside0.mk (R_lower (R_new' ho0 (R_lt (by (with_reducible repeat (first | apply R_alloc | apply R_drewN | apply R_drew)); exact HO_10.out))) (below_size (by repeat (first | (with_reducible first | exact HB.out | apply below_alloc | apply pw_below_drewN | apply below_drew1) | exact HB.out)))); have n6_ := Aside0.mk (C_below (by repeat (first | (with_reducible exact HR457_0.out) | (with_reducible first | refine C_alloc ?_ _ | refine C_drewN ?_ _ | refine C_drew ?_) | exact HR457_0.out)) hb); have n7_ := Aside0.mk (C_below (by repeat (first | (with_reducible exact HR463_0.out) | (with_reducible first | refine C_alloc ?_ _ | refine C_drewN ?_ _ | refine C_drew ?_) | exact HR463_0.out)) hb); have n8_ := Aside0.mk (below_step (by repeat (first | (with_reducible first | exact HB.out | apply below_alloc | apply pw_below_drewN | apply below_drew1) | exact HB.out)) hb); clear HO_6; clear HO_10; clear HO_82; clear HL457_0; clear HL463_0; clear HR457_0; clear HR463_0; clear HB; have HO_6 := n0_; have HO_10 := n1_; have HO_82 := n2_; have HL457_0 := n3_; have HL463_0 := n4_; have HO468 := n5_; have HR457_0 := n6_; have HR463_0 := n7_; have HB := n8_; clear n0_ n1_ n2_ n3_ n4_ n5_ n6_ n7_ n8_; (try clear hb); (try clear hb2); (try clear hk); (try clear hi); (try clear ho0); have q63 : (x84_2 : Int) ≤ ((t439.length : Int) : Int) := of_decide_eq_true (by first | (with_reducible assumption) | assumption); obtain ⟨i063, hi063, _, hsz63, _⟩ := info_parts info30; have hroom63 : t439.length ≤ co35 := (N_reads' HO_6.out).2.1; have hC63 : Kd.F (Kd.slice 3 (Kd.int .i64)) _ _ (some ad457) t439.length t439 := (V_at (base := w.heap.size) (N_V HO_6.out)).2.2; have hcut63 := cut_to (P := Try.prog) 25 30 .i64 Try.underlying25 hi063 (some ad457) t439.length co35 x84_2 (of_decide_eq_true (by first | (with_reducible assumption) | assumption)) q63 hroom63; have hr63 := F_take (m := (x84_2 : Int).toNat) hC63 (by omega); have hy63 : y469.length = (x84_2 : Int).toNat := (by rw [Ny469.out, List.length_take]; omega); rw [← Ny469.out] at hr63; rw [← hy63] at hcut63; have HO473 := Aside0.mk (show Kd.V (Kd.slice 3 (Kd.int .i64)) 30 _ w.heap.size _ (.slice (some ad457) y469.length co35) y469 from V_mk (by omega) hr63); have HC473 := Aside0.mk (show y469.length ≤ co35 from by omega); clear hr63 hC63 hroom63 hi063 hsz63; have KY63 := Aside0.mk hy63; clear hy63; replace q63 := eq_true q63))
             go_loopg [18, 135] k2 (fun kq v18 v135 w' => ∃ (x18_3 : Bool) (x135_3 : Int), v18 = .bool x18_3 ∧ v135 = .int .i64 x135_3 ∧ Aside0 (laws_FnMarkovLists.l1 kq l1 t438 t439 t447 t465 t466 x18_3 t439 (t439.length : Int) x84_2 y469 (y469.length : Int) x135_3 = some r) ∧ Aside0 (kq ≤ k2) ∧ Aside0 (Kd.N (Kd.slice 3 (Kd.int .i64)) 30 w' w.heap.size (fun k_ => some k_ ≠ ((.slice Ao61 t447.length co61) : Value).ownBlock ∧ some k_ ≠ (v467 : Value).ownBlock) (.slice (some ad457) t439.length co35) t439) ∧ Aside0 (Kd.R (Kd.int .i64) 3 w' w.heap.size (fun k_ => some k_ ≠ (v467 : Value).ownBlock) (.slice Ao61 t447.length co61) t447) ∧ Aside0 (Kd.R (Kd.int .i64) 3 w' w.heap.size (fun k_ => some k_ ≠ ((.slice Ao61 t447.length co61) : Value).ownBlock) v467 t465) ∧ Aside0 (Kd.N (Kd.slice 3 (Kd.int .i64)) 30 w' w.heap.size (fun k_ => some k_ ≠ ((.slice Ao61 t447.length co61) : Value).ownBlock ∧ some k_ ≠ (v467 : Value).ownBlock) (.slice (some ad457) t439.length co35) t439) ∧ Aside0 (Kd.V (Kd.slice 3 (Kd.int .i64)) 30 w' w.heap.size (fun k_ => some k_ ≠ ((.slice Ao61 t447.length co61) : Value).ownBlock ∧ some k_ ≠ (v467 : Value).ownBlock) (.slice (some ad457) y469.length co35) y469) ∧ Aside0 (Kd.C (Kd.int .i64) w' (some ad459) (rd_L1 t439 x84_2).length (rd_L1 t439 x84_2)) ∧ Aside0 (Kd.C (Kd.int .i64) w' (some ad464) (rd_L1 t439 (ji48)).length (rd_L1 t439 (ji48))) ∧ Aside0 (Below w.heap.size w w'))
             case atStart => exact ⟨(false), (0), (by first | rfl | (simp; done) | (simp [*]; done)), (by first | rfl | (simp; done) | (simp [*]; done)), H', ⟨Nat.le_refl _⟩, ⟨by (with_reducible repeat (first | apply N_alloc | apply N_drewN | apply N_drew)); exact HO_6.out⟩, ⟨by (with_reducible repeat (first | apply R_alloc | apply R_drewN | apply R_drew)); exact R_mono HO_10.out (fun _ hk => hk.2)⟩, ⟨by (with_reducible repeat (first | apply R_alloc | apply R_drewN | apply R_drew)); exact R_mono HO468.out (fun _ hk => hk.2)⟩, ⟨by (with_reducible repeat (first | apply N_alloc | apply N_drewN | apply N_drew)); exact HO_82.out⟩, ⟨by (with_reducible repeat (first | apply V_alloc | apply V_drewN | apply V_drew)); exact HO473.out⟩, ⟨by repeat (first | (with_reducible exact HR457_0.out) | (with_reducible first | refine C_alloc ?_ _ | refine C_drewN ?_ _ | refine C_drew ?_) | exact HR457_0.out)⟩, ⟨by repeat (first | (with_reducible exact HR463_0.out) | (with_reducible first | refine C_alloc ?_ _ | refine C_drewN ?_ _ | refine C_drew ?_) | exact HR463_0.out)⟩, ⟨by repeat (first | (with_reducible first | exact HB.out | apply below_alloc | apply pw_below_drewN | apply below_drew1) | exact HB.out)⟩⟩
             case round => as_aux_lemma =>
              clear H'
              (try clear c2); (try clear p2); (try clear c4); (try clear p4); (try clear q4); (try clear hx4); (try clear qi4); (try clear c5); (try clear q6); (try clear c26); (try clear c27); (try clear c28); (try clear c45); (try clear p45); (try clear q45); (try clear hx45); (try clear qi45); (try clear c46); (try clear p46); (try clear q46); (try clear hx46); (try clear qi46); (try clear c52); (try clear c52b0); (try clear c57); (try clear c57b0); (try clear c58); (try clear c58b0); (try clear c58b1); (try clear q63); (try clear hx457_0); (try clear hx459_0); (try clear hx460_0); (try clear hx462_0); (try clear hx463_0); (try clear hx464_0); (try clear p457); (try clear p459); (try clear p460); (try clear p462); (try clear p463); (try clear p464); (try clear q457); (try clear q459); (try clear q460); (try clear q462); (try clear q463); (try clear q464); (try clear q63)
              obtain ⟨x18_3, x135_3, rfl, rfl, HA, HK3, HO_6, HO_10, HO_16, HO_82, HO_133, HR457_0, HR463_0, HB⟩ := hrel
              cases gk with
              | zero => exact absurd HA.out (by simp [laws_FnMarkovLists.l1])
              | succ k3 =>
               have H := HA.out; clear HA
               simp only [laws_FnMarkovLists.l1] at H
               by_cases c64 : x135_3 < (y469.length : Int)
               ·as_aux_lemma =>
                rw [if_pos c64] at H
                have c64b0 : decide (x135_3 < (y469.length : Int)) = true := decide_eq_true c64
                clear c64
                by_cases c65 : 0 ≤ x135_3
                rotate_left
                ·rw [if_neg c65] at H
                 exact absurd H (by simp)
                as_aux_lemma =>
                rw [if_pos c65] at H
                have c65b0 : decide (0 ≤ x135_3) = true := decide_eq_true c65
                clear c65
                by_cases c66 : x135_3 < (y469.length : Int)
                rotate_left
                ·rw [if_neg c66] at H
                 exact absurd H (by simp)
                as_aux_lemma =>
                rw [if_pos c66] at H
                have c66b0 : decide (x135_3 < (y469.length : Int)) = true := decide_eq_true c66
                clear c66
                by_cases c67 : x18_3 = true
                ·as_aux_lemma =>
                 subst c67
                 have H1 : (laws_FnMarkovLists.l1 k3 l1 t438 t439 t447 t465 t466 true t439 (t439.length : Int) x84_2 y469 (y469.length : Int) (wrap64 (x135_3 + 1))) = some r := by rw [if_pos rfl] at H; exact H
                 clear H; have H := H1; clear H1
                 have H' := Aside0.mk H
                 clear H
                 have p474 : 0 ≤ (x135_3 : Int) := of_decide_eq_true (by first | (with_reducible assumption) | assumption)
                 have q474 : x135_3 < (y469.length : Int) := of_decide_eq_true (by first | (with_reducible assumption) | assumption)
                 obtain ⟨ad474, A474_0, c474_0, e474, hx474_0, hl474_0, hi474_0⟩ := at_L1 (V_reads' HO_133.out).2.2 x135_3 p474 q474
                 obtain rfl : ad457 = ad474 := (by injection e474)
                 obtain ⟨ce474, hce474, hMe474, hcc474⟩ := V_get HO_133.out [] x135_3 p474 (by first | exact q474 | exact of_decide_eq_true (by first | (with_reducible assumption) | assumption) | (have e_ := (V_reads' HO_133.out).1; omega))
                 obtain ⟨ua474_0, uc474_0, rfl, ul474_0, ge474_0⟩ := Kd.FK_slice_open hMe474
                 have hv474_0 := hcc474 0 _ rfl
                 rw [Nat.add_zero, show ((Kd.slice 3 (Kd.int .i64))).sz = 1 from rfl, Nat.mul_one] at hv474_0
                 replace hv474_0 := Option.some.inj (hv474_0.symm.trans hx474_0)
                 injection hv474_0 with hva_ hvn_ hvc_
                 rw [hva_] at ge474_0
                 rw [hvc_] at ul474_0
                 have HL474_0 := Aside0.mk (show Kd.V (Kd.int .i64) 3 _ w.heap.size _ _ (rd_L1 y469 x135_3) from V_mk ul474_0 ge474_0)
                 clear hva_ hvn_ hvc_ ge474_0 ul474_0; clear hcc474 hce474
                 have HR474_0 := Aside0.mk hi474_0
                 have HC474_0 := Aside0.mk hl474_0
                 clear hi474_0 hl474_0; replace p474 := eq_true p474; replace q474 := eq_true q474
                 go_wp2
                 go_roundg k3
                 case measure => have := HJ9.out; have := HK2.out; have := HK3.out; omega
                 case rel => exact ⟨(true), (wrap64 (x135_3 + 1)), (by first | rfl | (simp; done) | (simp [*]; done)), (by first | rfl | (simp; done) | (simp [*]; done)), H', ⟨by have := HJ9.out; have := HK2.out; have := HK3.out; omega⟩, ⟨by (with_reducible repeat (first | apply N_alloc | apply N_drewN | apply N_drew)); exact HO_6.out⟩, ⟨by (with_reducible repeat (first | apply R_alloc | apply R_drewN | apply R_drew)); exact HO_10.out⟩, ⟨by (with_reducible repeat (first | apply R_alloc | apply R_drewN | apply R_drew)); exact HO_16.out⟩, ⟨by (with_reducible repeat (first | apply N_alloc | apply N_drewN | apply N_drew)); exact HO_82.out⟩, ⟨by (with_reducible repeat (first | apply V_alloc | apply V_drewN | apply V_drew)); exact HO_133.out⟩, ⟨by repeat (first | (with_reducible exact HR457_0.out) | (with_reducible first | refine C_alloc ?_ _ | refine C_drewN ?_ _ | refine C_drew ?_) | exact HR457_0.out)⟩, ⟨by repeat (first | (with_reducible exact HR463_0.out) | (with_reducible first | refine C_alloc ?_ _ | refine C_drewN ?_ _ | refine C_drew ?_) | exact HR463_0.out)⟩, ⟨by repeat (first | (with_reducible first | exact HB.out | apply below_alloc | apply pw_below_drewN | apply below_drew1) | exact HB.out)⟩⟩
                ·as_aux_lemma =>
                 replace c67 := Bool.eq_false_iff.mpr c67
                 subst c67
                 have H1 : ((laws_dSame.f k3 (rd_L1 y469 x135_3) t465).bind fun t475 => (laws_FnMarkovLists.l1 k3 l1 t438 t439 t447 t465 t466 t475 t439 (t439.length : Int) x84_2 y469 (y469.length : Int) (wrap64 (x135_3 + 1)))) = some r := by rw [if_neg (show ¬ (false = true) by decide)] at H; exact H
                 clear H; have H := H1; clear H1
                 replace H := Option.bind_eq_some_iff.mp H
                 obtain ⟨t475, A680, H⟩ := H
                 replace H : (laws_FnMarkovLists.l1 k3 l1 t438 t439 t447 t465 t466 t475 t439 (t439.length : Int) x84_2 y469 (y469.length : Int) (wrap64 (x135_3 + 1))) = some r := H
                 have A68 := Aside0.mk A680
                 clear A680
                 have H' := Aside0.mk H
                 clear H
                 have p474 : 0 ≤ (x135_3 : Int) := of_decide_eq_true (by first | (with_reducible assumption) | assumption)
                 have q474 : x135_3 < (y469.length : Int) := of_decide_eq_true (by first | (with_reducible assumption) | assumption)
                 obtain ⟨ad474, A474_0, c474_0, e474, hx474_0, hl474_0, hi474_0⟩ := at_L1 (V_reads' HO_133.out).2.2 x135_3 p474 q474
                 obtain rfl : ad457 = ad474 := (by injection e474)
                 obtain ⟨ce474, hce474, hMe474, hcc474⟩ := V_get HO_133.out [] x135_3 p474 (by first | exact q474 | exact of_decide_eq_true (by first | (with_reducible assumption) | assumption) | (have e_ := (V_reads' HO_133.out).1; omega))
                 obtain ⟨ua474_0, uc474_0, rfl, ul474_0, ge474_0⟩ := Kd.FK_slice_open hMe474
                 have hv474_0 := hcc474 0 _ rfl
                 rw [Nat.add_zero, show ((Kd.slice 3 (Kd.int .i64))).sz = 1 from rfl, Nat.mul_one] at hv474_0
                 replace hv474_0 := Option.some.inj (hv474_0.symm.trans hx474_0)
                 injection hv474_0 with hva_ hvn_ hvc_
                 rw [hva_] at ge474_0
                 rw [hvc_] at ul474_0
                 have HL474_0 := Aside0.mk (show Kd.V (Kd.int .i64) 3 _ w.heap.size _ _ (rd_L1 y469 x135_3) from V_mk ul474_0 ge474_0)
                 clear hva_ hvn_ hvc_ ge474_0 ul474_0; clear hcc474 hce474
                 have HR474_0 := Aside0.mk hi474_0
                 have HC474_0 := Aside0.mk hl474_0
                 clear hi474_0 hl474_0; replace p474 := eq_true p474; replace q474 := eq_true q474
                 obtain ⟨Ao69, co69, eo69⟩ := R_slice HO_16.out
                 subst eo69
                 go_wp2_with (first | (go_at_call 25; (with_reducible refine (laws_dSame.calls k3 _ _ (rd_L1 y469 x135_3) _ _ t465 t475 _ ?side1 ?side2 ?side3 ?side4 A68.out).mono ?_); (case side1 => repeat (first | exact (by repeat (first | (with_reducible exact HR474_0.out) | (with_reducible first | refine C_alloc ?_ _ | refine C_drewN ?_ _ | refine C_drew ?_) | exact HR474_0.out)) | (with_reducible first | refine C_alloc ?_ _ | refine C_drewN ?_ _ | refine C_drew ?_))); (case side2 => exact HC474_0.out); (case side3 => repeat (first | exact (R_reads' HO_16.out).2.2 | (with_reducible first | refine C_alloc ?_ _ | refine C_drewN ?_ _ | refine C_drew ?_))); (case side4 => exact (R_reads' HO_16.out).2.1); rintro e w' ⟨rfl, ⟨nd, rfl⟩⟩))
                 go_roundg k3
                 case measure => have := HJ9.out; have := HK2.out; have := HK3.out; omega
                 case rel => exact ⟨(t475), (wrap64 (x135_3 + 1)), (by first | rfl | (simp; done) | (simp [*]; done)), (by first | rfl | (simp; done) | (simp [*]; done)), H', ⟨by have := HJ9.out; have := HK2.out; have := HK3.out; omega⟩, ⟨by (with_reducible repeat (first | apply N_alloc | apply N_drewN | apply N_drew)); exact HO_6.out⟩, ⟨by (with_reducible repeat (first | apply R_alloc | apply R_drewN | apply R_drew)); exact HO_10.out⟩, ⟨by (with_reducible repeat (first | apply R_alloc | apply R_drewN | apply R_drew)); exact HO_16.out⟩, ⟨by (with_reducible repeat (first | apply N_alloc | apply N_drewN | apply N_drew)); exact HO_82.out⟩, ⟨by (with_reducible repeat (first | apply V_alloc | apply V_drewN | apply V_drew)); exact HO_133.out⟩, ⟨by repeat (first | (with_reducible exact HR457_0.out) | (with_reducible first | refine C_alloc ?_ _ | refine C_drewN ?_ _ | refine C_drew ?_) | exact HR457_0.out)⟩, ⟨by repeat (first | (with_reducible exact HR463_0.out) | (with_reducible first | refine C_alloc ?_ _ | refine C_drewN ?_ _ | refine C_drew ?_) | exact HR463_0.out)⟩, ⟨by repeat (first | (with_reducible first | exact HB.out | apply below_alloc | apply pw_below_drewN | apply below_drew1) | exact HB.out)⟩⟩
               ·as_aux_lemma =>
                rw [if_neg c64] at H
                have c64b0 : decide (x135_3 < (y469.length : Int)) = false := decide_eq_false c64
                clear c64
                by_cases c70 : t466 = true
                ·as_aux_lemma =>
                 subst c70
                 have H1 : (if x18_3 = true then (laws_FnMarkovLists.l0 k3 l1 t438 t439 t447 t439 (t439.length : Int) (wrap64 (x84_2 + 1))) else (some false)) = some r := by rw [if_pos rfl] at H; exact H
                 clear H; have H := H1; clear H1
                 by_cases c71 : x18_3 = true
                 ·subst c71
                  have H1 : (laws_FnMarkovLists.l0 k3 l1 t438 t439 t447 t439 (t439.length : Int) (wrap64 (x84_2 + 1))) = some r := by rw [if_pos rfl] at H; exact H
                  clear H; have H := H1; clear H1
                  have H' := Aside0.mk H
                  clear H
                  go_wp2
                  go_roundg k3
                  case measure => have := HJ9.out; have := HK2.out; have := HK3.out; omega
                  case rel => exact ⟨(wrap64 (x84_2 + 1)), (by first | rfl | (simp; done) | (simp [*]; done)), H', ⟨by have := HJ9.out; have := HK2.out; have := HK3.out; omega⟩, ⟨by (with_reducible repeat (first | apply N_alloc | apply N_drewN | apply N_drew)); exact N_mono HO_6.out (fun _ hk => hk.1)⟩, ⟨by (with_reducible repeat (first | apply R_alloc | apply R_drewN | apply R_drew)); exact R_mono HO_10.out (fun _ hk => trivial)⟩, ⟨by (with_reducible repeat (first | apply N_alloc | apply N_drewN | apply N_drew)); exact N_mono HO_82.out (fun _ hk => hk.1)⟩, ⟨by repeat (first | (with_reducible first | exact HB.out | apply below_alloc | apply pw_below_drewN | apply below_drew1) | exact HB.out)⟩⟩
                 ·replace c71 := Bool.eq_false_iff.mpr c71
                  subst c71
                  have H1 : (some false) = some r := by rw [if_neg (show ¬ (false = true) by decide)] at H; exact H
                  clear H; have H := H1; clear H1
                  obtain rfl := Option.some.inj H
                  go_wp2
                  go_ret
                  exact ⟨by first | rfl | (simp [errW_none, errW_some] <;> rfl) | (simp only [← hji48]; first | rfl | (simp [errW_none, errW_some] <;> rfl)) | (simp [*, errW_none, errW_some] <;> rfl), by repeat (first | (with_reducible first | exact HB.out | apply below_alloc | apply pw_below_drewN | apply below_drew1) | exact HB.out)⟩
                ·replace c70 := Bool.eq_false_iff.mpr c70
                 subst c70
                 have H1 : (some false) = some r := by rw [if_neg (show ¬ (false = true) by decide)] at H; exact H
                 clear H; have H := H1; clear H1
                 obtain rfl := Option.some.inj H
                 go_wp2
                 go_ret
                 exact ⟨by first | rfl | (simp [errW_none, errW_some] <;> rfl) | (simp only [← hji48]; first | rfl | (simp [errW_none, errW_some] <;> rfl)) | (simp [*, errW_none, errW_some] <;> rfl), by repeat (first | (with_reducible first | exact HB.out | apply below_alloc | apply pw_below_drewN | apply below_drew1) | exact HB.out)⟩
           ·as_aux_lemma =>
            rw [if_neg c47] at H
            have c47b0 : decide (0 < x84_2) = false := decide_eq_false c47
            clear c47
            have H' := Aside0.mk H
            clear H
            have p457 : 0 ≤ (x84_2 : Int) := of_decide_eq_true (by first | (with_reducible assumption) | assumption)
            have q457 : x84_2 < (t439.length : Int) := of_decide_eq_true (by first | (with_reducible assumption) | assumption)
            obtain ⟨ad457, A457_0, c457_0, e457, hx457_0, hl457_0, hi457_0⟩ := at_L1 (N_reads' HO_82.out).2.2 x84_2 p457 q457
            cases e457
            obtain ⟨ce457, hce457, hMe457, hcc457⟩ := N_get HO_82.out [] x84_2 p457 (by first | exact q457 | exact of_decide_eq_true (by first | (with_reducible assumption) | assumption) | (have e_ := (N_reads' HO_82.out).1; omega))
            obtain ⟨ua457_0, uc457_0, rfl, ul457_0, ge457_0⟩ := Kd.FK_slice_open hMe457
            have hv457_0 := hcc457 0 _ rfl
            rw [Nat.add_zero, show ((Kd.slice 3 (Kd.int .i64))).sz = 1 from rfl, Nat.mul_one] at hv457_0
            replace hv457_0 := Option.some.inj (hv457_0.symm.trans hx457_0)
            injection hv457_0 with hva_ hvn_ hvc_
            rw [hva_] at ge457_0
            rw [hvc_] at ul457_0
            have HL457_0 := Aside0.mk (show Kd.V (Kd.int .i64) 3 _ w.heap.size _ _ (rd_L1 t439 x84_2) from V_mk ul457_0 ge457_0)
            clear hva_ hvn_ hvc_ ge457_0 ul457_0; clear hcc457 hce457
            have HR457_0 := Aside0.mk hi457_0
            have HC457_0 := Aside0.mk hl457_0
            clear hi457_0 hl457_0; replace p457 := eq_true p457; replace q457 := eq_true q457
            try go_wp2
            have n0_ := Aside0.mk (N_drew HO_6.out)
            have n1_ := Aside0.mk (R_drew HO_10.out)
            have n2_ := Aside0.mk (N_drew HO_82.out)
            have n3_ := Aside0.mk (V_drew HL457_0.out)
            have n4_ := Aside0.mk (C_drew HR457_0.out)
            have n5_ := Aside0.mk (below_drew1 HB.out)
            clear HO_6; clear HO_10; clear HO_82; clear HL457_0; clear HR457_0; clear HB; have HO_6 := n0_; have HO_10 := n1_; have HO_82 := n2_; have HL457_0 := n3_; have HR457_0 := n4_; have HB := n5_; clear n0_ n1_ n2_ n3_ n4_ n5_
            have p459 : 0 ≤ (2 : Int) := (by omega)
            have q459 : 2 < ((rd_L1 t439 x84_2).length : Int) := of_decide_eq_true (by first | (with_reducible assumption) | assumption)
            obtain ⟨ad459, e459, hx459_0⟩ := Kd.at_int (by repeat (first | (with_reducible exact HR457_0.out) | (with_reducible first | refine C_alloc ?_ _ | refine C_drewN ?_ _ | refine C_drew ?_) | exact HR457_0.out)) 2 p459 q459
            cases e459
            (try simp only [show (2 : Int).toNat = 2 from rfl, Nat.reduceMul, Nat.reduceEqDiff, Go.Addr.add, ↓reduceIte] at hx459_0)
            have qi459 : (2 < (rd_L1 t439 x84_2).length) = True := eq_true (by omega)
            (try rw [show ((2 : Int)).toNat = 2 from rfl] at hx459_0)
            replace p459 := eq_true p459; replace q459 := eq_true q459
            have p460 : 0 ≤ (2 : Int) := (by omega)
            have q460 : 2 < ((rd_L1 t439 x84_2).length : Int) := of_decide_eq_true (by first | (with_reducible assumption) | assumption)
            obtain ⟨ad460, e460, hx460_0⟩ := Kd.at_int (by repeat (first | (with_reducible exact HR457_0.out) | (with_reducible first | refine C_alloc ?_ _ | refine C_drewN ?_ _ | refine C_drew ?_) | exact HR457_0.out)) 2 p460 q460
            obtain rfl : ad459 = ad460 := (by injection e460)
            (try simp only [show (2 : Int).toNat = 2 from rfl, Nat.reduceMul, Nat.reduceEqDiff, Go.Addr.add, ↓reduceIte] at hx460_0)
            have qi460 : (2 < (rd_L1 t439 x84_2).length) = True := eq_true (by omega)
            (try rw [show ((2 : Int)).toNat = 2 from rfl] at hx460_0)
            replace p460 := eq_true p460; replace q460 := eq_true q460
            refine start_ (n := 35) (S := fun w' => w'.cell? ⟨ad459.block, ad459.off + 2, none⟩ = some (.int .i64 (rd (rd_L1 t439 x84_2) 2)) ∧ w'.cell? ⟨ad459.block, ad459.off + 2, none⟩ = some (.int .i64 (rd (rd_L1 t439 x84_2) 2))) (ds := []) b0ML (by kernel_rfl) rfl rfl ⟨hx459_0, hx460_0⟩ (fun hHeld => ?_); refine with_tabW laws_FnMarkovLists.tab13 laws_FnMarkovLists.bits13 (fun HT_ HW_ => ?_)
            generalize wr.drew = w72 at HO_6 HO_10 HO_82 HL457_0 HR457_0 HB hHeld ⊢
            refine pure_ (i := 0) (N := some 89) (v := ?_) (a' := ?_) b1ML rfl rfl (any_of HT_.out (by kernel_rfl)) (fun _ _ _ h => h) (Or.inl ⟨by rfl, ?_⟩) ?_ ?_
            rotate_left; (intro w'; go_simp; with_reducible rfl); rotate_left; (simp only [Act.put, List.setIfInBounds_toArray, List.set_cons_zero, List.set_cons_succ, i64_w]; rfl)
            refine one_ (i := 1) (N := some 90) b2ML rfl rfl (one_of HT_.out (by kernel_rfl)) (by decide) (fun K hK => ?_)
            refine goes_ Try.func26 (by kernel_rfl) rfl #[.slice (some ad459) (rd_L1 t439 x84_2).length c457_0] (by rfl) rfl rfl (by (try simp only [List.map_toArray, List.map_cons, List.map_nil]); first | done | rfl) ?_
            with_reducible refine (impl_IsMarkov.calls k2 _ _ (rd_L1 t439 x84_2) true _ ?side1 ?side2 A39.out).mono ?_
            (case side1 => first | (obtain ⟨ad_, A_, c_, e_, hx_, hl_, hi_⟩ := at_L1 (N_reads' HO_82.out).2.2 x84_2 (of_eq_true p457) (of_eq_true q457); cases e_; have hq_ := hx_.symm.trans hHeld; injection hq_ with hq_; injection hq_ with e1_ e2_ e3_; subst e1_; exact hi_) | (obtain ⟨ad_, A_, c_, e_, hx_, hl_, hi_⟩ := at_L1 (N_reads' HO_82.out).2.2 x84_2 (of_eq_true p457) (of_eq_true q457); cases e_; have hq_ := hx_.symm.trans hHeld.1; injection hq_ with hq_; injection hq_ with e1_ e2_ e3_; subst e1_; exact hi_) | (obtain ⟨ad_, A_, c_, e_, hx_, hl_, hi_⟩ := at_L1 (N_reads' HO_82.out).2.2 x84_2 (of_eq_true p457) (of_eq_true q457); cases e_; have hq_ := hx_.symm.trans hHeld.2; injection hq_ with hq_; injection hq_ with e1_ e2_ e3_; subst e1_; exact hi_) | (repeat (first | exact (by repeat (first | (with_reducible exact HR457_0.out) | (with_reducible first | refine C_alloc ?_ _ | refine C_drewN ?_ _ | refine C_drew ?_) | exact HR457_0.out)) | (with_reducible first | refine C_alloc ?_ _ | refine C_drewN ?_ _ | refine C_drew ?_))))
            (case side2 => exact HC457_0.out)
            rintro e w73 ⟨rfl, hb⟩
            have HS0_ := (hb.cell (World.block_lt_of_cell? _ _ (hHeld.1))).trans (hHeld.1)
            have HS1_ := (hb.cell (World.block_lt_of_cell? _ _ (hHeld.2))).trans (hHeld.2)
            refine ⟨_, rfl, ?_⟩
            have n0_ := Aside0.mk (N_below (by (with_reducible repeat (first | apply N_alloc | apply N_drewN | apply N_drew)); exact HO_6.out) hb)
            have n1_ := Aside0.mk (R_below (by (with_reducible repeat (first | apply R_alloc | apply R_drewN | apply R_drew)); exact HO_10.out) hb)
            have n2_ := Aside0.mk (N_below (by (with_reducible repeat (first | apply N_alloc | apply N_drewN | apply N_drew)); exact HO_82.out) hb)
            have n3_ := Aside0.mk (V_below (by (with_reducible repeat (first | apply V_alloc | apply V_drewN | apply V_drew)); exact HL457_0.out) hb)
            have n4_ := Aside0.mk (C_below (by repeat (first | (with_reducible exact HR457_0.out) | (with_reducible first | refine C_alloc ?_ _ | refine C_drewN ?_ _ | refine C_drew ?_) | exact HR457_0.out)) hb)
            have n5_ := Aside0.mk (below_step (by repeat (first | (with_reducible first | exact HB.out | apply below_alloc | apply pw_below_drewN | apply below_drew1) | exact HB.out)) hb)
            clear HO_6; clear HO_10; clear HO_82; clear HL457_0; clear HR457_0; clear HB; have HO_6 := n0_; have HO_10 := n1_; have HO_82 := n2_; have HL457_0 := n3_; have HR457_0 := n4_; have HB := n5_; clear n0_ n1_ n2_ n3_ n4_ n5_; (try clear hb); (try clear hb2); (try clear hk); (try clear hi)
            have p459 : 0 ≤ (2 : Int) := (by omega)
            have q459 : 2 < ((rd_L1 t439 x84_2).length : Int) := of_decide_eq_true (by first | (with_reducible assumption) | assumption)
            obtain ⟨ad459x, e459, hx459_0⟩ := Kd.at_int (by repeat (first | (with_reducible exact HR457_0.out) | (with_reducible first | refine C_alloc ?_ _ | refine C_drewN ?_ _ | refine C_drew ?_) | exact HR457_0.out)) 2 p459 q459
            obtain rfl : ad459 = ad459x := (by injection e459)
            (try simp only [show (2 : Int).toNat = 2 from rfl, Nat.reduceMul, Nat.reduceEqDiff, Go.Addr.add, ↓reduceIte] at hx459_0)
            have qi459 : (2 < (rd_L1 t439 x84_2).length) = True := eq_true (by omega)
            (try rw [show ((2 : Int)).toNat = 2 from rfl] at hx459_0)
            replace p459 := eq_true p459; replace q459 := eq_true q459
            have p460 : 0 ≤ (2 : Int) := (by omega)
            have q460 : 2 < ((rd_L1 t439 x84_2).length : Int) := of_decide_eq_true (by first | (with_reducible assumption) | assumption)
            obtain ⟨ad460x, e460, hx460_0⟩ := Kd.at_int (by repeat (first | (with_reducible exact HR457_0.out) | (with_reducible first | refine C_alloc ?_ _ | refine C_drewN ?_ _ | refine C_drew ?_) | exact HR457_0.out)) 2 p460 q460
            obtain rfl : ad459 = ad460x := (by injection e460)
            (try simp only [show (2 : Int).toNat = 2 from rfl, Nat.reduceMul, Nat.reduceEqDiff, Go.Addr.add, ↓reduceIte] at hx460_0)
            have qi460 : (2 < (rd_L1 t439 x84_2).length) = True := eq_true (by omega)
            (try rw [show ((2 : Int)).toNat = 2 from rfl] at hx460_0)
            replace p460 := eq_true p460; replace q460 := eq_true q460
            obtain ⟨Ao74, co74, eo74⟩ := R_slice HO_10.out
            (first | subst eo74 | (injection eo74 with f1_ f2_ f3_; have f4_ := f1_.symm; have f5_ := f3_.symm; clear f1_ f2_ f3_; subst f4_; subst f5_))
            refine hK.out _ _ ⟨HS0_, HS1_⟩ (fun hHeld => ?_)
            clear hK K
            refine norm_ (a' := ?_) ?_ ?_
            rotate_left
            ·show Act.put _ (some 90) _ = _
             simp only [Act.put, List.setIfInBounds_toArray, List.set_cons_zero, List.set_cons_succ, i64_w]
             rfl
            refine pure_ (i := 2) (N := some 91) (v := ?_) (a' := ?_) b3ML rfl rfl (any_of HT_.out (by kernel_rfl)) (fun _ _ _ h => h) (Or.inl ⟨by rfl, ?_⟩) ?_ ?_
            rotate_left; (intro w'; go_simp; with_reducible rfl); rotate_left; (simp only [Act.put, List.setIfInBounds_toArray, List.set_cons_zero, List.set_cons_succ, i64_w]; rfl)
            refine pure_ (i := 3) (N := some 92) (v := ?_) (a' := ?_) b4ML rfl rfl (any_of HT_.out (by kernel_rfl)) (fun _ _ _ h => h) (Or.inl ⟨by rfl, ?_⟩) ?_ ?_
            rotate_left; (intro w'; go_simp; with_reducible rfl); rotate_left; (simp only [Act.put, List.setIfInBounds_toArray, List.set_cons_zero, List.set_cons_succ, i64_w]; rfl)
            refine pure_ (i := 4) (N := some 93) (v := ?_) (a' := ?_) b5ML rfl rfl (any_of HT_.out (by kernel_rfl)) (fun _ _ _ h => h) (Or.inl ⟨by rfl, ?_⟩) ?_ ?_
            rotate_left; (intro w'; go_simp; with_reducible rfl); rotate_left; (simp only [Act.put, List.setIfInBounds_toArray, List.set_cons_zero, List.set_cons_succ, i64_w]; rfl)
            refine pure_ (i := 5) (N := some 94) (v := ?_) (a' := ?_) b6ML rfl rfl (any_of HT_.out (by kernel_rfl)) (fun _ _ _ h => h) (Or.inl ⟨by rfl, ?_⟩) ?_ ?_
            rotate_left; (intro w'; go_simp; with_reducible rfl); rotate_left; (simp only [Act.put, List.setIfInBounds_toArray, List.set_cons_zero, List.set_cons_succ, i64_w]; rfl)
            refine pure_ (i := 7) (N := some 96) (v := ?_) (a' := ?_) b7ML rfl rfl (any_of HT_.out (by kernel_rfl)) (fun _ _ _ h => h) (Or.inl ⟨by rfl, ?_⟩) ?_ ?_
            rotate_left; (intro w'; go_simp; with_reducible rfl); rotate_left; (simp only [Act.put, List.setIfInBounds_toArray, List.set_cons_zero, List.set_cons_succ, i64_w]; rfl)
            refine take_ (i := 6) (N := some 95) (v := ?_) (a' := ?_) b8ML rfl rfl (take_ofW HT_.out HW_.out (by kernel_rfl)) (fun _ _ _ h => h) (Or.inl ⟨by rfl, ?_⟩) hHeld ?_ ?_
            rotate_left
            ·rintro w' ⟨s0, s1⟩
             go_simp
             with_reducible rfl
            rotate_left
            ·simp only [Act.put, List.setIfInBounds_toArray, List.set_cons_zero, List.set_cons_succ, i64_w]
             rfl
            refine pure_ (i := 8) (N := some 97) (v := ?_) (a' := ?_) b9ML rfl rfl (any_of HT_.out (by kernel_rfl)) (fun _ _ _ h => h) (Or.inl ⟨by rfl, ?_⟩) ?_ ?_
            rotate_left; (intro w'; go_simp; with_reducible rfl); rotate_left; (simp only [Act.put, List.setIfInBounds_toArray, List.set_cons_zero, List.set_cons_succ, i64_w]; rfl)
            refine pure_ (i := 9) (N := some 98) (v := ?_) (a' := ?_) b10ML rfl rfl (any_of HT_.out (by kernel_rfl)) (fun _ _ _ h => h) (Or.inl ⟨by rfl, ?_⟩) ?_ ?_
            rotate_left; (intro w'; go_simp; with_reducible rfl); rotate_left; (simp only [Act.put, List.setIfInBounds_toArray, List.set_cons_zero, List.set_cons_succ, i64_w]; rfl)
            refine pure_ (i := 10) (N := some 99) (v := ?_) (a' := ?_) b11ML rfl rfl (any_of HT_.out (by kernel_rfl)) (fun _ _ _ h => h) (Or.inl ⟨by rfl, ?_⟩) ?_ ?_
            rotate_left; (intro w'; go_simp; with_reducible rfl); rotate_left; (simp only [Act.put, List.setIfInBounds_toArray, List.set_cons_zero, List.set_cons_succ, i64_w]; rfl)
            refine pure_ (i := 11) (N := some 100) (v := ?_) (a' := ?_) b12ML rfl rfl (any_of HT_.out (by kernel_rfl)) (fun _ _ _ h => h) (Or.inl ⟨by rfl, ?_⟩) ?_ ?_
            rotate_left; (intro w'; go_simp; with_reducible rfl); rotate_left; (simp only [Act.put, List.setIfInBounds_toArray, List.set_cons_zero, List.set_cons_succ, i64_w]; rfl)
            refine pure_ (i := 12) (N := some 101) (v := ?_) (a' := ?_) b13ML rfl rfl (any_of HT_.out (by kernel_rfl)) (fun _ _ _ h => h) (Or.inl ⟨by rfl, ?_⟩) ?_ ?_
            rotate_left; (intro w'; go_simp; with_reducible rfl); rotate_left; (simp only [Act.put, List.setIfInBounds_toArray, List.set_cons_zero, List.set_cons_succ, i64_w]; rfl)
            refine pure_ (i := 13) (N := some 102) (v := ?_) (a' := ?_) b14ML rfl rfl (any_of HT_.out (by kernel_rfl)) (fun _ _ _ h => h) (Or.inl ⟨by rfl, ?_⟩) ?_ ?_
            rotate_left; (intro w'; go_simp; with_reducible rfl); rotate_left; (simp only [Act.put, List.setIfInBounds_toArray, List.set_cons_zero, List.set_cons_succ, i64_w]; rfl)
            refine take_ (i := 14) (N := some 103) (v := ?_) (a' := ?_) b15ML rfl rfl (take_ofW HT_.out HW_.out (by kernel_rfl)) (fun _ _ _ h => h) (Or.inl ⟨by rfl, ?_⟩) hHeld ?_ ?_
            rotate_left
            ·rintro w' ⟨s0, s1⟩
             go_simp
             with_reducible rfl
            rotate_left
            ·simp only [Act.put, List.setIfInBounds_toArray, List.set_cons_zero, List.set_cons_succ, i64_w]
             rfl
            refine one_ (i := 15) (N := some 104) b16ML rfl rfl (one_of HT_.out (by kernel_rfl)) (by decide) (fun K hK => ?_)
            refine goes_ Try.func27 (by kernel_rfl) rfl #[.slice Ao74 t447.length co74, .int .i64 (rd (rd_L1 t439 x84_2) 2)] (by rfl) rfl rfl (by (try simp only [List.map_toArray, List.map_cons, List.map_nil]); first | done | rfl) ?_
            with_reducible refine (laws_dHas.calls k2 _ _ t447 (rd (rd_L1 t439 x84_2) 2) true _ ?side1 ?side2 A45.out).mono ?_
            (case side1 => repeat (first | exact (R_reads' HO_10.out).2.2 | (with_reducible first | refine C_alloc ?_ _ | refine C_drewN ?_ _ | refine C_drew ?_)))
            (case side2 => exact (R_reads' HO_10.out).2.1)
            rintro e w' ⟨rfl, ⟨nd, rfl⟩⟩
            refine ⟨_, rfl, ?_⟩
            refine hK.out _ _ ⟨hHeld.1, hHeld.2⟩ (fun hHeld => ?_)
            clear hK K
            refine norm_ (a' := ?_) ?_ ?_
            rotate_left
            ·show Act.put _ (some 104) _ = _
             simp only [Act.put, List.setIfInBounds_toArray, List.set_cons_zero, List.set_cons_succ, i64_w]
             rfl
            refine pure_ (i := 16) (N := some 105) (v := ?_) (a' := ?_) b17ML rfl rfl (any_of HT_.out (by kernel_rfl)) (fun _ _ _ h => h) (Or.inl ⟨by rfl, ?_⟩) ?_ ?_
            rotate_left; (intro w'; go_simp; with_reducible rfl); rotate_left; (simp only [Act.put, List.setIfInBounds_toArray, List.set_cons_zero, List.set_cons_succ, i64_w]; rfl)
            refine pure_ (i := 17) (N := some 106) (v := ?_) (a' := ?_) b18ML rfl rfl (any_of HT_.out (by kernel_rfl)) (fun _ _ _ h => h) (Or.inl ⟨by rfl, ?_⟩) ?_ ?_
            rotate_left; (intro w'; go_simp; with_reducible rfl); rotate_left; (simp only [Act.put, List.setIfInBounds_toArray, List.set_cons_zero, List.set_cons_succ, i64_w]; rfl)
            refine pure_ (i := 18) (N := some 107) (v := ?_) (a' := ?_) b19ML rfl rfl (any_of HT_.out (by kernel_rfl)) (fun _ _ _ h => h) (Or.inl ⟨by rfl, ?_⟩) ?_ ?_
            rotate_left; (intro w'; go_simp; with_reducible rfl); rotate_left; (simp only [Act.put, List.setIfInBounds_toArray, List.set_cons_zero, List.set_cons_succ, i64_w]; rfl)
            refine pure_ (i := 19) (N := some 108) (v := ?_) (a' := ?_) b20ML rfl rfl (any_of HT_.out (by kernel_rfl)) (fun _ _ _ h => h) (Or.inl ⟨by rfl, ?_⟩) ?_ ?_
            rotate_left; (intro w'; go_simp; with_reducible rfl); rotate_left; (simp only [Act.put, List.setIfInBounds_toArray, List.set_cons_zero, List.set_cons_succ, i64_w]; rfl)
            refine pure_ (i := 20) (N := some 109) (v := ?_) (a' := ?_) b21ML rfl rfl (any_of HT_.out (by kernel_rfl)) (fun _ _ _ h => h) (Or.inl ⟨by rfl, ?_⟩) ?_ ?_
            rotate_left; (intro w'; go_simp; with_reducible rfl); rotate_left; (simp only [Act.put, List.setIfInBounds_toArray, List.set_cons_zero, List.set_cons_succ, i64_w]; rfl)
            refine pure_ (i := 21) (N := some 110) (v := ?_) (a' := ?_) b22ML rfl rfl (any_of HT_.out (by kernel_rfl)) (fun _ _ _ h => h) (Or.inl ⟨by rfl, ?_⟩) ?_ ?_
            rotate_left; (intro w'; go_simp; with_reducible rfl); rotate_left; (simp only [Act.put, List.setIfInBounds_toArray, List.set_cons_zero, List.set_cons_succ, i64_w]; rfl)
            refine pure_ (i := 22) (N := some 111) (v := undef) (a' := ?_) b23ML rfl rfl (any_of HT_.out (by kernel_rfl)) (fun _ _ _ h => h) (Or.inr ⟨by rfl, rfl⟩) ?_ ?_
            rotate_left
            ·simp only [Act.put, List.setIfInBounds_toArray, List.set_cons_zero, List.set_cons_succ, i64_w]
             rfl
            refine pure_ (i := 23) (N := some 112) (v := undef) (a' := ?_) b24ML rfl rfl (any_of HT_.out (by kernel_rfl)) (fun _ _ _ h => h) (Or.inr ⟨by rfl, rfl⟩) ?_ ?_
            rotate_left
            ·simp only [Act.put, List.setIfInBounds_toArray, List.set_cons_zero, List.set_cons_succ, i64_w]
             rfl
            refine pure_ (i := 24) (N := some 113) (v := undef) (a' := ?_) b25ML rfl rfl (any_of HT_.out (by kernel_rfl)) (fun _ _ _ h => h) (Or.inr ⟨by rfl, rfl⟩) ?_ ?_
            rotate_left
            ·simp only [Act.put, List.setIfInBounds_toArray, List.set_cons_zero, List.set_cons_succ, i64_w]
             rfl
            refine pure_ (i := 25) (N := some 114) (v := undef) (a' := ?_) b26ML rfl rfl (any_of HT_.out (by kernel_rfl)) (fun _ _ _ h => h) (Or.inr ⟨by rfl, rfl⟩) ?_ ?_
            rotate_left
            ·simp only [Act.put, List.setIfInBounds_toArray, List.set_cons_zero, List.set_cons_succ, i64_w]
             rfl
            refine pure_ (i := 26) (N := some 115) (v := undef) (a' := ?_) b27ML rfl rfl (any_of HT_.out (by kernel_rfl)) (fun _ _ _ h => h) (Or.inr ⟨by rfl, rfl⟩) ?_ ?_
            rotate_left
            ·simp only [Act.put, List.setIfInBounds_toArray, List.set_cons_zero, List.set_cons_succ, i64_w]
             rfl
            refine pure_ (i := 27) (N := some 116) (v := undef) (a' := ?_) b28ML rfl rfl (any_of HT_.out (by kernel_rfl)) (fun _ _ _ h => h) (Or.inr ⟨by rfl, rfl⟩) ?_ ?_
            rotate_left
            ·simp only [Act.put, List.setIfInBounds_toArray, List.set_cons_zero, List.set_cons_succ, i64_w]
             rfl
            refine pure_ (i := 28) (N := some 117) (v := undef) (a' := ?_) b29ML rfl rfl (any_of HT_.out (by kernel_rfl)) (fun _ _ _ h => h) (Or.inr ⟨by rfl, rfl⟩) ?_ ?_
            rotate_left
            ·simp only [Act.put, List.setIfInBounds_toArray, List.set_cons_zero, List.set_cons_succ, i64_w]
             rfl
            refine pure_ (i := 29) (N := some 118) (v := undef) (a' := ?_) b30ML rfl rfl (any_of HT_.out (by kernel_rfl)) (fun _ _ _ h => h) (Or.inr ⟨by rfl, rfl⟩) ?_ ?_
            rotate_left
            ·simp only [Act.put, List.setIfInBounds_toArray, List.set_cons_zero, List.set_cons_succ, i64_w]
             rfl
            refine pure_ (i := 30) (N := some 119) (v := undef) (a' := ?_) b31ML rfl rfl (any_of HT_.out (by kernel_rfl)) (fun _ _ _ h => h) (Or.inr ⟨by rfl, rfl⟩) ?_ ?_
            rotate_left
            ·simp only [Act.put, List.setIfInBounds_toArray, List.set_cons_zero, List.set_cons_succ, i64_w]
             rfl
            refine pure_ (i := 31) (N := some 120) (v := undef) (a' := ?_) b32ML rfl rfl (any_of HT_.out (by kernel_rfl)) (fun _ _ _ h => h) (Or.inr ⟨by rfl, rfl⟩) ?_ ?_
            rotate_left
            ·simp only [Act.put, List.setIfInBounds_toArray, List.set_cons_zero, List.set_cons_succ, i64_w]
             rfl
            refine pure_ (i := 32) (N := some 121) (v := undef) (a' := ?_) b33ML rfl rfl (any_of HT_.out (by kernel_rfl)) (fun _ _ _ h => h) (Or.inr ⟨by rfl, rfl⟩) ?_ ?_
            rotate_left
            ·simp only [Act.put, List.setIfInBounds_toArray, List.set_cons_zero, List.set_cons_succ, i64_w]
             rfl
            refine pure_ (i := 33) (N := some 122) (v := ?_) (a' := ?_) b34ML rfl rfl (any_of HT_.out (by kernel_rfl)) (fun _ _ _ h => h) (Or.inl ⟨by rfl, ?_⟩) ?_ ?_
            rotate_left; (intro w'; go_simp; with_reducible rfl); rotate_left; (simp only [Act.put, List.setIfInBounds_toArray, List.set_cons_zero, List.set_cons_succ, i64_w]; rfl)
            refine pure_ (i := 34) (N := some 123) (v := ?_) (a' := ?_) b35ML rfl rfl (any_of HT_.out (by kernel_rfl)) (fun _ _ _ h => h) (Or.inl ⟨by rfl, ?_⟩) ?_ ?_
            rotate_left; (intro w'; go_simp; with_reducible rfl); rotate_left; (simp only [Act.put, List.setIfInBounds_toArray, List.set_cons_zero, List.set_cons_succ, i64_w]; rfl)
            refine done_ (done_of HT_.out (by kernel_rfl)) ?_
            try go_wp2
            go_roundg k2
            case measure => have := HJ9.out; have := HK2.out; omega
            case rel => exact ⟨(wrap64 (x84_2 + 1)), (by first | rfl | (simp; done) | (simp [*]; done)), H', ⟨by have := HJ9.out; have := HK2.out; omega⟩, ⟨by (with_reducible repeat (first | apply N_alloc | apply N_drewN | apply N_drew)); exact HO_6.out⟩, ⟨by (with_reducible repeat (first | apply R_alloc | apply R_drewN | apply R_drew)); exact HO_10.out⟩, ⟨by (with_reducible repeat (first | apply N_alloc | apply N_drewN | apply N_drew)); exact HO_82.out⟩, ⟨by repeat (first | (with_reducible first | exact HB.out | apply below_alloc | apply pw_below_drewN | apply below_drew1) | exact HB.out)⟩⟩
          ·as_aux_lemma =>
           replace c46 := Bool.eq_false_iff.mpr c46
           subst c46
           have H1 : (some false) = some r := by rw [if_neg (show ¬ (false = true) by decide)] at H; exact H
           clear H; have H := H1; clear H1
           obtain rfl := Option.some.inj H
           have p457 : 0 ≤ (x84_2 : Int) := of_decide_eq_true (by first | (with_reducible assumption) | assumption)
           have q457 : x84_2 < (t439.length : Int) := of_decide_eq_true (by first | (with_reducible assumption) | assumption)
           obtain ⟨ad457, A457_0, c457_0, e457, hx457_0, hl457_0, hi457_0⟩ := at_L1 (N_reads' HO_82.out).2.2 x84_2 p457 q457
           cases e457
           obtain ⟨ce457, hce457, hMe457, hcc457⟩ := N_get HO_82.out [] x84_2 p457 (by first | exact q457 | exact of_decide_eq_true (by first | (with_reducible assumption) | assumption) | (have e_ := (N_reads' HO_82.out).1; omega))
           obtain ⟨ua457_0, uc457_0, rfl, ul457_0, ge457_0⟩ := Kd.FK_slice_open hMe457
           have hv457_0 := hcc457 0 _ rfl
           rw [Nat.add_zero, show ((Kd.slice 3 (Kd.int .i64))).sz = 1 from rfl, Nat.mul_one] at hv457_0
           replace hv457_0 := Option.some.inj (hv457_0.symm.trans hx457_0)
           injection hv457_0 with hva_ hvn_ hvc_
           rw [hva_] at ge457_0
           rw [hvc_] at ul457_0
           have HL457_0 := Aside0.mk (show Kd.V (Kd.int .i64) 3 _ w.heap.size _ _ (rd_L1 t439 x84_2) from V_mk ul457_0 ge457_0)
           clear hva_ hvn_ hvc_ ge457_0 ul457_0; clear hcc457 hce457
           have HR457_0 := Aside0.mk hi457_0
           have HC457_0 := Aside0.mk hl457_0
           clear hi457_0 hl457_0; replace p457 := eq_true p457; replace q457 := eq_true q457
           try go_wp2
           have n0_ := Aside0.mk (N_drew HO_6.out)
           have n1_ := Aside0.mk (R_drew HO_10.out)
           have n2_ := Aside0.mk (N_drew HO_82.out)
           have n3_ := Aside0.mk (V_drew HL457_0.out)
           have n4_ := Aside0.mk (C_drew HR457_0.out)
           have n5_ := Aside0.mk (below_drew1 HB.out)
           clear HO_6; clear HO_10; clear HO_82; clear HL457_0; clear HR457_0; clear HB; have HO_6 := n0_; have HO_10 := n1_; have HO_82 := n2_; have HL457_0 := n3_; have HR457_0 := n4_; have HB := n5_; clear n0_ n1_ n2_ n3_ n4_ n5_
           have p459 : 0 ≤ (2 : Int) := (by omega)
           have q459 : 2 < ((rd_L1 t439 x84_2).length : Int) := of_decide_eq_true (by first | (with_reducible assumption) | assumption)
           obtain ⟨ad459, e459, hx459_0⟩ := Kd.at_int (by repeat (first | (with_reducible exact HR457_0.out) | (with_reducible first | refine C_alloc ?_ _ | refine C_drewN ?_ _ | refine C_drew ?_) | exact HR457_0.out)) 2 p459 q459
           cases e459
           (try simp only [show (2 : Int).toNat = 2 from rfl, Nat.reduceMul, Nat.reduceEqDiff, Go.Addr.add, ↓reduceIte] at hx459_0)
           have qi459 : (2 < (rd_L1 t439 x84_2).length) = True := eq_true (by omega)
           (try rw [show ((2 : Int)).toNat = 2 from rfl] at hx459_0)
           replace p459 := eq_true p459; replace q459 := eq_true q459
           have p460 : 0 ≤ (2 : Int) := (by omega)
           have q460 : 2 < ((rd_L1 t439 x84_2).length : Int) := of_decide_eq_true (by first | (with_reducible assumption) | assumption)
           obtain ⟨ad460, e460, hx460_0⟩ := Kd.at_int (by repeat (first | (with_reducible exact HR457_0.out) | (with_reducible first | refine C_alloc ?_ _ | refine C_drewN ?_ _ | refine C_drew ?_) | exact HR457_0.out)) 2 p460 q460
           obtain rfl : ad459 = ad460 := (by injection e460)
           (try simp only [show (2 : Int).toNat = 2 from rfl, Nat.reduceMul, Nat.reduceEqDiff, Go.Addr.add, ↓reduceIte] at hx460_0)
           have qi460 : (2 < (rd_L1 t439 x84_2).length) = True := eq_true (by omega)
           (try rw [show ((2 : Int)).toNat = 2 from rfl] at hx460_0)
           replace p460 := eq_true p460; replace q460 := eq_true q460
           refine start_ (n := 35) (S := fun w' => w'.cell? ⟨ad459.block, ad459.off + 2, none⟩ = some (.int .i64 (rd (rd_L1 t439 x84_2) 2)) ∧ w'.cell? ⟨ad459.block, ad459.off + 2, none⟩ = some (.int .i64 (rd (rd_L1 t439 x84_2) 2))) (ds := []) b0ML (by kernel_rfl) rfl rfl ⟨hx459_0, hx460_0⟩ (fun hHeld => ?_); refine with_tabW laws_FnMarkovLists.tab13 laws_FnMarkovLists.bits13 (fun HT_ HW_ => ?_)
           generalize wr.drew = w75 at HO_6 HO_10 HO_82 HL457_0 HR457_0 HB hHeld ⊢
           refine pure_ (i := 0) (N := some 89) (v := ?_) (a' := ?_) b1ML rfl rfl (any_of HT_.out (by kernel_rfl)) (fun _ _ _ h => h) (Or.inl ⟨by rfl, ?_⟩) ?_ ?_
           rotate_left; (intro w'; go_simp; with_reducible rfl); rotate_left; (simp only [Act.put, List.setIfInBounds_toArray, List.set_cons_zero, List.set_cons_succ, i64_w]; rfl)
           refine one_ (i := 1) (N := some 90) b2ML rfl rfl (one_of HT_.out (by kernel_rfl)) (by decide) (fun K hK => ?_)
           refine goes_ Try.func26 (by kernel_rfl) rfl #[.slice (some ad459) (rd_L1 t439 x84_2).length c457_0] (by rfl) rfl rfl (by (try simp only [List.map_toArray, List.map_cons, List.map_nil]); first | done | rfl) ?_
           with_reducible refine (impl_IsMarkov.calls k2 _ _ (rd_L1 t439 x84_2) true _ ?side1 ?side2 A39.out).mono ?_
           (case side1 => first | (obtain ⟨ad_, A_, c_, e_, hx_, hl_, hi_⟩ := at_L1 (N_reads' HO_82.out).2.2 x84_2 (of_eq_true p457) (of_eq_true q457); cases e_; have hq_ := hx_.symm.trans hHeld; injection hq_ with hq_; injection hq_ with e1_ e2_ e3_; subst e1_; exact hi_) | (obtain ⟨ad_, A_, c_, e_, hx_, hl_, hi_⟩ := at_L1 (N_reads' HO_82.out).2.2 x84_2 (of_eq_true p457) (of_eq_true q457); cases e_; have hq_ := hx_.symm.trans hHeld.1; injection hq_ with hq_; injection hq_ with e1_ e2_ e3_; subst e1_; exact hi_) | (obtain ⟨ad_, A_, c_, e_, hx_, hl_, hi_⟩ := at_L1 (N_reads' HO_82.out).2.2 x84_2 (of_eq_true p457) (of_eq_true q457); cases e_; have hq_ := hx_.symm.trans hHeld.2; injection hq_ with hq_; injection hq_ with e1_ e2_ e3_; subst e1_; exact hi_) | (repeat (first | exact (by repeat (first | (with_reducible exact HR457_0.out) | (with_reducible first | refine C_alloc ?_ _ | refine C_drewN ?_ _ | refine C_drew ?_) | exact HR457_0.out)) | (with_reducible first | refine C_alloc ?_ _ | refine C_drewN ?_ _ | refine C_drew ?_))))
           (case side2 => exact HC457_0.out)
           rintro e w76 ⟨rfl, hb⟩
           have HS0_ := (hb.cell (World.block_lt_of_cell? _ _ (hHeld.1))).trans (hHeld.1)
           have HS1_ := (hb.cell (World.block_lt_of_cell? _ _ (hHeld.2))).trans (hHeld.2)
           refine ⟨_, rfl, ?_⟩
           have n0_ := Aside0.mk (N_below (by (with_reducible repeat (first | apply N_alloc | apply N_drewN | apply N_drew)); exact HO_6.out) hb)
           have n1_ := Aside0.mk (R_below (by (with_reducible repeat (first | apply R_alloc | apply R_drewN | apply R_drew)); exact HO_10.out) hb)
           have n2_ := Aside0.mk (N_below (by (with_reducible repeat (first | apply N_alloc | apply N_drewN | apply N_drew)); exact HO_82.out) hb)
           have n3_ := Aside0.mk (V_below (by (with_reducible repeat (first | apply V_alloc | apply V_drewN | apply V_drew)); exact HL457_0.out) hb)
           have n4_ := Aside0.mk (C_below (by repeat (first | (with_reducible exact HR457_0.out) | (with_reducible first | refine C_alloc ?_ _ | refine C_drewN ?_ _ | refine C_drew ?_) | exact HR457_0.out)) hb)
           have n5_ := Aside0.mk (below_step (by repeat (first | (with_reducible first | exact HB.out | apply below_alloc | apply pw_below_drewN | apply below_drew1) | exact HB.out)) hb)
           clear HO_6; clear HO_10; clear HO_82; clear HL457_0; clear HR457_0; clear HB; have HO_6 := n0_; have HO_10 := n1_; have HO_82 := n2_; have HL457_0 := n3_; have HR457_0 := n4_; have HB := n5_; clear n0_ n1_ n2_ n3_ n4_ n5_; (try clear hb); (try clear hb2); (try clear hk); (try clear hi)
           have p459 : 0 ≤ (2 : Int) := (by omega)
           have q459 : 2 < ((rd_L1 t439 x84_2).length : Int) := of_decide_eq_true (by first | (with_reducible assumption) | assumption)
           obtain ⟨ad459x, e459, hx459_0⟩ := Kd.at_int (by repeat (first | (with_reducible exact HR457_0.out) | (with_reducible first | refine C_alloc ?_ _ | refine C_drewN ?_ _ | refine C_drew ?_) | exact HR457_0.out)) 2 p459 q459
           obtain rfl : ad459 = ad459x := (by injection e459)
           (try simp only [show (2 : Int).toNat = 2 from rfl, Nat.reduceMul, Nat.reduceEqDiff, Go.Addr.add, ↓reduceIte] at hx459_0)
           have qi459 : (2 < (rd_L1 t439 x84_2).length) = True := eq_true (by omega)
           (try rw [show ((2 : Int)).toNat = 2 from rfl] at hx459_0)
           replace p459 := eq_true p459; replace q459 := eq_true q459
           have p460 : 0 ≤ (2 : Int) := (by omega)
           have q460 : 2 < ((rd_L1 t439 x84_2).length : Int) := of_decide_eq_true (by first | (with_reducible assumption) | assumption)
           obtain ⟨ad460x, e460, hx460_0⟩ := Kd.at_int (by repeat (first | (with_reducible exact HR457_0.out) | (with_reducible first | refine C_alloc ?_ _ | refine C_drewN ?_ _ | refine C_drew ?_) | exact HR457_0.out)) 2 p460 q460
           obtain rfl : ad459 = ad460x := (by injection e460)
           (try simp only [show (2 : Int).toNat = 2 from rfl, Nat.reduceMul, Nat.reduceEqDiff, Go.Addr.add, ↓reduceIte] at hx460_0)
           have qi460 : (2 < (rd_L1 t439 x84_2).length) = True := eq_true (by omega)
           (try rw [show ((2 : Int)).toNat = 2 from rfl] at hx460_0)
           replace p460 := eq_true p460; replace q460 := eq_true q460
           obtain ⟨Ao77, co77, eo77⟩ := R_slice HO_10.out
           (first | subst eo77 | (injection eo77 with f1_ f2_ f3_; have f4_ := f1_.symm; have f5_ := f3_.symm; clear f1_ f2_ f3_; subst f4_; subst f5_))
           refine hK.out _ _ ⟨HS0_, HS1_⟩ (fun hHeld => ?_)
           clear hK K
           refine norm_ (a' := ?_) ?_ ?_
           rotate_left
           ·show Act.put _ (some 90) _ = _
            simp only [Act.put, List.setIfInBounds_toArray, List.set_cons_zero, List.set_cons_succ, i64_w]
            rfl
           refine pure_ (i := 2) (N := some 91) (v := ?_) (a' := ?_) b3ML rfl rfl (any_of HT_.out (by kernel_rfl)) (fun _ _ _ h => h) (Or.inl ⟨by rfl, ?_⟩) ?_ ?_
           rotate_left; (intro w'; go_simp; with_reducible rfl); rotate_left; (simp only [Act.put, List.setIfInBounds_toArray, List.set_cons_zero, List.set_cons_succ, i64_w]; rfl)
           refine pure_ (i := 3) (N := some 92) (v := ?_) (a' := ?_) b4ML rfl rfl (any_of HT_.out (by kernel_rfl)) (fun _ _ _ h => h) (Or.inl ⟨by rfl, ?_⟩) ?_ ?_
           rotate_left; (intro w'; go_simp; with_reducible rfl); rotate_left; (simp only [Act.put, List.setIfInBounds_toArray, List.set_cons_zero, List.set_cons_succ, i64_w]; rfl)
           refine pure_ (i := 4) (N := some 93) (v := ?_) (a' := ?_) b5ML rfl rfl (any_of HT_.out (by kernel_rfl)) (fun _ _ _ h => h) (Or.inl ⟨by rfl, ?_⟩) ?_ ?_
           rotate_left; (intro w'; go_simp; with_reducible rfl); rotate_left; (simp only [Act.put, List.setIfInBounds_toArray, List.set_cons_zero, List.set_cons_succ, i64_w]; rfl)
           refine pure_ (i := 5) (N := some 94) (v := ?_) (a' := ?_) b6ML rfl rfl (any_of HT_.out (by kernel_rfl)) (fun _ _ _ h => h) (Or.inl ⟨by rfl, ?_⟩) ?_ ?_
           rotate_left; (intro w'; go_simp; with_reducible rfl); rotate_left; (simp only [Act.put, List.setIfInBounds_toArray, List.set_cons_zero, List.set_cons_succ, i64_w]; rfl)
           refine pure_ (i := 7) (N := some 96) (v := ?_) (a' := ?_) b7ML rfl rfl (any_of HT_.out (by kernel_rfl)) (fun _ _ _ h => h) (Or.inl ⟨by rfl, ?_⟩) ?_ ?_
           rotate_left; (intro w'; go_simp; with_reducible rfl); rotate_left; (simp only [Act.put, List.setIfInBounds_toArray, List.set_cons_zero, List.set_cons_succ, i64_w]; rfl)
           refine take_ (i := 6) (N := some 95) (v := ?_) (a' := ?_) b8ML rfl rfl (take_ofW HT_.out HW_.out (by kernel_rfl)) (fun _ _ _ h => h) (Or.inl ⟨by rfl, ?_⟩) hHeld ?_ ?_
           rotate_left
           ·rintro w' ⟨s0, s1⟩
            go_simp
            with_reducible rfl
           rotate_left
           ·simp only [Act.put, List.setIfInBounds_toArray, List.set_cons_zero, List.set_cons_succ, i64_w]
            rfl
           refine pure_ (i := 8) (N := some 97) (v := ?_) (a' := ?_) b9ML rfl rfl (any_of HT_.out (by kernel_rfl)) (fun _ _ _ h => h) (Or.inl ⟨by rfl, ?_⟩) ?_ ?_
           rotate_left; (intro w'; go_simp; with_reducible rfl); rotate_left; (simp only [Act.put, List.setIfInBounds_toArray, List.set_cons_zero, List.set_cons_succ, i64_w]; rfl)
           refine pure_ (i := 9) (N := some 98) (v := ?_) (a' := ?_) b10ML rfl rfl (any_of HT_.out (by kernel_rfl)) (fun _ _ _ h => h) (Or.inl ⟨by rfl, ?_⟩) ?_ ?_
           rotate_left; (intro w'; go_simp; with_reducible rfl); rotate_left; (simp only [Act.put, List.setIfInBounds_toArray, List.set_cons_zero, List.set_cons_succ, i64_w]; rfl)
           refine pure_ (i := 10) (N := some 99) (v := ?_) (a' := ?_) b11ML rfl rfl (any_of HT_.out (by kernel_rfl)) (fun _ _ _ h => h) (Or.inl ⟨by rfl, ?_⟩) ?_ ?_
           rotate_left; (intro w'; go_simp; with_reducible rfl); rotate_left; (simp only [Act.put, List.setIfInBounds_toArray, List.set_cons_zero, List.set_cons_succ, i64_w]; rfl)
           refine pure_ (i := 11) (N := some 100) (v := ?_) (a' := ?_) b12ML rfl rfl (any_of HT_.out (by kernel_rfl)) (fun _ _ _ h => h) (Or.inl ⟨by rfl, ?_⟩) ?_ ?_
           rotate_left; (intro w'; go_simp; with_reducible rfl); rotate_left; (simp only [Act.put, List.setIfInBounds_toArray, List.set_cons_zero, List.set_cons_succ, i64_w]; rfl)
           refine pure_ (i := 12) (N := some 101) (v := ?_) (a' := ?_) b13ML rfl rfl (any_of HT_.out (by kernel_rfl)) (fun _ _ _ h => h) (Or.inl ⟨by rfl, ?_⟩) ?_ ?_
           rotate_left; (intro w'; go_simp; with_reducible rfl); rotate_left; (simp only [Act.put, List.setIfInBounds_toArray, List.set_cons_zero, List.set_cons_succ, i64_w]; rfl)
           refine pure_ (i := 13) (N := some 102) (v := ?_) (a' := ?_) b14ML rfl rfl (any_of HT_.out (by kernel_rfl)) (fun _ _ _ h => h) (Or.inl ⟨by rfl, ?_⟩) ?_ ?_
           rotate_left; (intro w'; go_simp; with_reducible rfl); rotate_left; (simp only [Act.put, List.setIfInBounds_toArray, List.set_cons_zero, List.set_cons_succ, i64_w]; rfl)
           refine take_ (i := 14) (N := some 103) (v := ?_) (a' := ?_) b15ML rfl rfl (take_ofW HT_.out HW_.out (by kernel_rfl)) (fun _ _ _ h => h) (Or.inl ⟨by rfl, ?_⟩) hHeld ?_ ?_
           rotate_left
           ·rintro w' ⟨s0, s1⟩
            go_simp
            with_reducible rfl
           rotate_left
           ·simp only [Act.put, List.setIfInBounds_toArray, List.set_cons_zero, List.set_cons_succ, i64_w]
            rfl
           refine one_ (i := 15) (N := some 104) b16ML rfl rfl (one_of HT_.out (by kernel_rfl)) (by decide) (fun K hK => ?_)
           refine goes_ Try.func27 (by kernel_rfl) rfl #[.slice Ao77 t447.length co77, .int .i64 (rd (rd_L1 t439 x84_2) 2)] (by rfl) rfl rfl (by (try simp only [List.map_toArray, List.map_cons, List.map_nil]); first | done | rfl) ?_
           with_reducible refine (laws_dHas.calls k2 _ _ t447 (rd (rd_L1 t439 x84_2) 2) false _ ?side1 ?side2 A45.out).mono ?_
           (case side1 => repeat (first | exact (R_reads' HO_10.out).2.2 | (with_reducible first | refine C_alloc ?_ _ | refine C_drewN ?_ _ | refine C_drew ?_)))
           (case side2 => exact (R_reads' HO_10.out).2.1)
           rintro e w' ⟨rfl, ⟨nd, rfl⟩⟩
           refine ⟨_, rfl, ?_⟩
           refine hK.out _ _ ⟨hHeld.1, hHeld.2⟩ (fun hHeld => ?_)
           clear hK K
           refine norm_ (a' := ?_) ?_ ?_
           rotate_left
           ·show Act.put _ (some 104) _ = _
            simp only [Act.put, List.setIfInBounds_toArray, List.set_cons_zero, List.set_cons_succ, i64_w]
            rfl
           refine pure_ (i := 16) (N := some 105) (v := ?_) (a' := ?_) b17ML rfl rfl (any_of HT_.out (by kernel_rfl)) (fun _ _ _ h => h) (Or.inl ⟨by rfl, ?_⟩) ?_ ?_
           rotate_left; (intro w'; go_simp; with_reducible rfl); rotate_left; (simp only [Act.put, List.setIfInBounds_toArray, List.set_cons_zero, List.set_cons_succ, i64_w]; rfl)
           refine pure_ (i := 17) (N := some 106) (v := ?_) (a' := ?_) b18ML rfl rfl (any_of HT_.out (by kernel_rfl)) (fun _ _ _ h => h) (Or.inl ⟨by rfl, ?_⟩) ?_ ?_
           rotate_left; (intro w'; go_simp; with_reducible rfl); rotate_left; (simp only [Act.put, List.setIfInBounds_toArray, List.set_cons_zero, List.set_cons_succ, i64_w]; rfl)
           refine pure_ (i := 18) (N := some 107) (v := ?_) (a' := ?_) b19ML rfl rfl (any_of HT_.out (by kernel_rfl)) (fun _ _ _ h => h) (Or.inl ⟨by rfl, ?_⟩) ?_ ?_
           rotate_left; (intro w'; go_simp; with_reducible rfl); rotate_left; (simp only [Act.put, List.setIfInBounds_toArray, List.set_cons_zero, List.set_cons_succ, i64_w]; rfl)
           refine pure_ (i := 19) (N := some 108) (v := undef) (a' := ?_) b20ML rfl rfl (any_of HT_.out (by kernel_rfl)) (fun _ _ _ h => h) (Or.inr ⟨by rfl, rfl⟩) ?_ ?_
           rotate_left
           ·simp only [Act.put, List.setIfInBounds_toArray, List.set_cons_zero, List.set_cons_succ, i64_w]
            rfl
           refine pure_ (i := 20) (N := some 109) (v := undef) (a' := ?_) b21ML rfl rfl (any_of HT_.out (by kernel_rfl)) (fun _ _ _ h => h) (Or.inr ⟨by rfl, rfl⟩) ?_ ?_
           rotate_left
           ·simp only [Act.put, List.setIfInBounds_toArray, List.set_cons_zero, List.set_cons_succ, i64_w]
            rfl
           refine pure_ (i := 21) (N := some 110) (v := undef) (a' := ?_) b22ML rfl rfl (any_of HT_.out (by kernel_rfl)) (fun _ _ _ h => h) (Or.inr ⟨by rfl, rfl⟩) ?_ ?_
           rotate_left
           ·simp only [Act.put, List.setIfInBounds_toArray, List.set_cons_zero, List.set_cons_succ, i64_w]
            rfl
           refine pure_ (i := 22) (N := some 111) (v := undef) (a' := ?_) b23ML rfl rfl (any_of HT_.out (by kernel_rfl)) (fun _ _ _ h => h) (Or.inr ⟨by rfl, rfl⟩) ?_ ?_
           rotate_left
           ·simp only [Act.put, List.setIfInBounds_toArray, List.set_cons_zero, List.set_cons_succ, i64_w]
            rfl
           refine pure_ (i := 23) (N := some 112) (v := undef) (a' := ?_) b24ML rfl rfl (any_of HT_.out (by kernel_rfl)) (fun _ _ _ h => h) (Or.inr ⟨by rfl, rfl⟩) ?_ ?_
           rotate_left
           ·simp only [Act.put, List.setIfInBounds_toArray, List.set_cons_zero, List.set_cons_succ, i64_w]
            rfl
           refine pure_ (i := 24) (N := some 113) (v := undef) (a' := ?_) b25ML rfl rfl (any_of HT_.out (by kernel_rfl)) (fun _ _ _ h => h) (Or.inr ⟨by rfl, rfl⟩) ?_ ?_
           rotate_left
           ·simp only [Act.put, List.setIfInBounds_toArray, List.set_cons_zero, List.set_cons_succ, i64_w]
            rfl
           refine pure_ (i := 25) (N := some 114) (v := undef) (a' := ?_) b26ML rfl rfl (any_of HT_.out (by kernel_rfl)) (fun _ _ _ h => h) (Or.inr ⟨by rfl, rfl⟩) ?_ ?_
           rotate_left
           ·simp only [Act.put, List.setIfInBounds_toArray, List.set_cons_zero, List.set_cons_succ, i64_w]
            rfl
           refine pure_ (i := 26) (N := some 115) (v := undef) (a' := ?_) b27ML rfl rfl (any_of HT_.out (by kernel_rfl)) (fun _ _ _ h => h) (Or.inr ⟨by rfl, rfl⟩) ?_ ?_
           rotate_left
           ·simp only [Act.put, List.setIfInBounds_toArray, List.set_cons_zero, List.set_cons_succ, i64_w]
            rfl
           refine pure_ (i := 27) (N := some 116) (v := undef) (a' := ?_) b28ML rfl rfl (any_of HT_.out (by kernel_rfl)) (fun _ _ _ h => h) (Or.inr ⟨by rfl, rfl⟩) ?_ ?_
           rotate_left
           ·simp only [Act.put, List.setIfInBounds_toArray, List.set_cons_zero, List.set_cons_succ, i64_w]
            rfl
           refine pure_ (i := 28) (N := some 117) (v := undef) (a' := ?_) b29ML rfl rfl (any_of HT_.out (by kernel_rfl)) (fun _ _ _ h => h) (Or.inr ⟨by rfl, rfl⟩) ?_ ?_
           rotate_left
           ·simp only [Act.put, List.setIfInBounds_toArray, List.set_cons_zero, List.set_cons_succ, i64_w]
            rfl
           refine pure_ (i := 29) (N := some 118) (v := undef) (a' := ?_) b30ML rfl rfl (any_of HT_.out (by kernel_rfl)) (fun _ _ _ h => h) (Or.inr ⟨by rfl, rfl⟩) ?_ ?_
           rotate_left
           ·simp only [Act.put, List.setIfInBounds_toArray, List.set_cons_zero, List.set_cons_succ, i64_w]
            rfl
           refine pure_ (i := 30) (N := some 119) (v := undef) (a' := ?_) b31ML rfl rfl (any_of HT_.out (by kernel_rfl)) (fun _ _ _ h => h) (Or.inr ⟨by rfl, rfl⟩) ?_ ?_
           rotate_left
           ·simp only [Act.put, List.setIfInBounds_toArray, List.set_cons_zero, List.set_cons_succ, i64_w]
            rfl
           refine pure_ (i := 31) (N := some 120) (v := undef) (a' := ?_) b32ML rfl rfl (any_of HT_.out (by kernel_rfl)) (fun _ _ _ h => h) (Or.inr ⟨by rfl, rfl⟩) ?_ ?_
           rotate_left
           ·simp only [Act.put, List.setIfInBounds_toArray, List.set_cons_zero, List.set_cons_succ, i64_w]
            rfl
           refine pure_ (i := 32) (N := some 121) (v := undef) (a' := ?_) b33ML rfl rfl (any_of HT_.out (by kernel_rfl)) (fun _ _ _ h => h) (Or.inr ⟨by rfl, rfl⟩) ?_ ?_
           rotate_left
           ·simp only [Act.put, List.setIfInBounds_toArray, List.set_cons_zero, List.set_cons_succ, i64_w]
            rfl
           refine pure_ (i := 33) (N := some 122) (v := undef) (a' := ?_) b34ML rfl rfl (any_of HT_.out (by kernel_rfl)) (fun _ _ _ h => h) (Or.inr ⟨by rfl, rfl⟩) ?_ ?_
           rotate_left
           ·simp only [Act.put, List.setIfInBounds_toArray, List.set_cons_zero, List.set_cons_succ, i64_w]
            rfl
           refine pure_ (i := 34) (N := some 123) (v := ?_) (a' := ?_) b35ML rfl rfl (any_of HT_.out (by kernel_rfl)) (fun _ _ _ h => h) (Or.inl ⟨by rfl, ?_⟩) ?_ ?_
           rotate_left; (intro w'; go_simp; with_reducible rfl); rotate_left; (simp only [Act.put, List.setIfInBounds_toArray, List.set_cons_zero, List.set_cons_succ, i64_w]; rfl)
           refine done_ (done_of HT_.out (by kernel_rfl)) ?_
           try go_wp2
           go_ret
           exact ⟨by first | rfl | (simp [*] <;> rfl), by repeat (first | (with_reducible first | exact HB.out | apply below_alloc | apply pw_below_drewN | apply below_drew1) | exact HB.out)⟩
        ·as_aux_lemma =>
         replace c40 := Bool.eq_false_iff.mpr c40
         subst c40
         have H1 : (some false) = some r := by rw [if_neg (show ¬ (false = true) by decide)] at H; exact H
         clear H; have H := H1; clear H1
         obtain rfl := Option.some.inj H
         have p457 : 0 ≤ (x84_2 : Int) := of_decide_eq_true (by first | (with_reducible assumption) | assumption)
         have q457 : x84_2 < (t439.length : Int) := of_decide_eq_true (by first | (with_reducible assumption) | assumption)
         obtain ⟨ad457, A457_0, c457_0, e457, hx457_0, hl457_0, hi457_0⟩ := at_L1 (N_reads' HO_82.out).2.2 x84_2 p457 q457
         cases e457
         obtain ⟨ce457, hce457, hMe457, hcc457⟩ := N_get HO_82.out [] x84_2 p457 (by first | exact q457 | exact of_decide_eq_true (by first | (with_reducible assumption) | assumption) | (have e_ := (N_reads' HO_82.out).1; omega))
         obtain ⟨ua457_0, uc457_0, rfl, ul457_0, ge457_0⟩ := Kd.FK_slice_open hMe457
         have hv457_0 := hcc457 0 _ rfl
         rw [Nat.add_zero, show ((Kd.slice 3 (Kd.int .i64))).sz = 1 from rfl, Nat.mul_one] at hv457_0
         replace hv457_0 := Option.some.inj (hv457_0.symm.trans hx457_0)
         injection hv457_0 with hva_ hvn_ hvc_
         rw [hva_] at ge457_0
         rw [hvc_] at ul457_0
         have HL457_0 := Aside0.mk (show Kd.V (Kd.int .i64) 3 _ w.heap.size _ _ (rd_L1 t439 x84_2) from V_mk ul457_0 ge457_0)
         clear hva_ hvn_ hvc_ ge457_0 ul457_0; clear hcc457 hce457
         have HR457_0 := Aside0.mk hi457_0
         have HC457_0 := Aside0.mk hl457_0
         clear hi457_0 hl457_0; replace p457 := eq_true p457; replace q457 := eq_true q457
         try go_wp2
         have n0_ := Aside0.mk (N_drew HO_6.out)
         have n1_ := Aside0.mk (R_drew HO_10.out)
         have n2_ := Aside0.mk (N_drew HO_82.out)
         have n3_ := Aside0.mk (V_drew HL457_0.out)
         have n4_ := Aside0.mk (C_drew HR457_0.out)
         have n5_ := Aside0.mk (below_drew1 HB.out)
         clear HO_6; clear HO_10; clear HO_82; clear HL457_0; clear HR457_0; clear HB; have HO_6 := n0_; have HO_10 := n1_; have HO_82 := n2_; have HL457_0 := n3_; have HR457_0 := n4_; have HB := n5_; clear n0_ n1_ n2_ n3_ n4_ n5_
         refine start_ (n := 35) (S := fun w' => True) (ds := []) b0ML (by kernel_rfl) rfl rfl trivial (fun hHeld => ?_); refine with_tabW laws_FnMarkovLists.tab13 laws_FnMarkovLists.bits13 (fun HT_ HW_ => ?_)
         generalize wr.drew = w78 at HO_6 HO_10 HO_82 HL457_0 HR457_0 HB hHeld ⊢
         refine pure_ (i := 0) (N := some 89) (v := ?_) (a' := ?_) b1ML rfl rfl (any_of HT_.out (by kernel_rfl)) (fun _ _ _ h => h) (Or.inl ⟨by rfl, ?_⟩) ?_ ?_
         rotate_left; (intro w'; go_simp; with_reducible rfl); rotate_left; (simp only [Act.put, List.setIfInBounds_toArray, List.set_cons_zero, List.set_cons_succ, i64_w]; rfl)
         refine one_ (i := 1) (N := some 90) b2ML rfl rfl (one_of HT_.out (by kernel_rfl)) (by decide) (fun K hK => ?_)
         refine goes_ Try.func26 (by kernel_rfl) rfl #[.slice A457_0 (rd_L1 t439 x84_2).length c457_0] (by rfl) rfl rfl (by (try simp only [List.map_toArray, List.map_cons, List.map_nil]); first | done | rfl) ?_
         with_reducible refine (impl_IsMarkov.calls k2 _ _ (rd_L1 t439 x84_2) false _ ?side1 ?side2 A39.out).mono ?_
         (case side1 => first | (obtain ⟨ad_, A_, c_, e_, hx_, hl_, hi_⟩ := at_L1 (N_reads' HO_82.out).2.2 x84_2 (of_eq_true p457) (of_eq_true q457); cases e_; have hq_ := hx_.symm.trans hHeld; injection hq_ with hq_; injection hq_ with e1_ e2_ e3_; subst e1_; exact hi_) | (obtain ⟨ad_, A_, c_, e_, hx_, hl_, hi_⟩ := at_L1 (N_reads' HO_82.out).2.2 x84_2 (of_eq_true p457) (of_eq_true q457); cases e_; have hq_ := hx_.symm.trans hHeld.1; injection hq_ with hq_; injection hq_ with e1_ e2_ e3_; subst e1_; exact hi_) | (obtain ⟨ad_, A_, c_, e_, hx_, hl_, hi_⟩ := at_L1 (N_reads' HO_82.out).2.2 x84_2 (of_eq_true p457) (of_eq_true q457); cases e_; have hq_ := hx_.symm.trans hHeld.2; injection hq_ with hq_; injection hq_ with e1_ e2_ e3_; subst e1_; exact hi_) | (repeat (first | exact (by repeat (first | (with_reducible exact HR457_0.out) | (with_reducible first | refine C_alloc ?_ _ | refine C_drewN ?_ _ | refine C_drew ?_) | exact HR457_0.out)) | (with_reducible first | refine C_alloc ?_ _ | refine C_drewN ?_ _ | refine C_drew ?_))))
         (case side2 => exact HC457_0.out)
         rintro e w79 ⟨rfl, hb⟩
         refine ⟨_, rfl, ?_⟩
         have n0_ := Aside0.mk (N_below (by (with_reducible repeat (first | apply N_alloc | apply N_drewN | apply N_drew)); exact HO_6.out) hb)
         have n1_ := Aside0.mk (R_below (by (with_reducible repeat (first | apply R_alloc | apply R_drewN | apply R_drew)); exact HO_10.out) hb)
         have n2_ := Aside0.mk (N_below (by (with_reducible repeat (first | apply N_alloc | apply N_drewN | apply N_drew)); exact HO_82.out) hb)
         have n3_ := Aside0.mk (V_below (by (with_reducible repeat (first | apply V_alloc | apply V_drewN | apply V_drew)); exact HL457_0.out) hb)
         have n4_ := Aside0.mk (C_below (by repeat (first | (with_reducible exact HR457_0.out) | (with_reducible first | refine C_alloc ?_ _ | refine C_drewN ?_ _ | refine C_drew ?_) | exact HR457_0.out)) hb)
         have n5_ := Aside0.mk (below_step (by repeat (first | (with_reducible first | exact HB.out | apply below_alloc | apply pw_below_drewN | apply below_drew1) | exact HB.out)) hb)
         clear HO_6; clear HO_10; clear HO_82; clear HL457_0; clear HR457_0; clear HB; have HO_6 := n0_; have HO_10 := n1_; have HO_82 := n2_; have HL457_0 := n3_; have HR457_0 := n4_; have HB := n5_; clear n0_ n1_ n2_ n3_ n4_ n5_; (try clear hb); (try clear hb2); (try clear hk); (try clear hi)
         refine hK.out _ _ trivial (fun hHeld => ?_)
         clear hK K
         refine norm_ (a' := ?_) ?_ ?_
         rotate_left
         ·show Act.put _ (some 90) _ = _
          simp only [Act.put, List.setIfInBounds_toArray, List.set_cons_zero, List.set_cons_succ, i64_w]
          rfl
         refine pure_ (i := 2) (N := some 91) (v := ?_) (a' := ?_) b3ML rfl rfl (any_of HT_.out (by kernel_rfl)) (fun _ _ _ h => h) (Or.inl ⟨by rfl, ?_⟩) ?_ ?_
         rotate_left; (intro w'; go_simp; with_reducible rfl); rotate_left; (simp only [Act.put, List.setIfInBounds_toArray, List.set_cons_zero, List.set_cons_succ, i64_w]; rfl)
         refine pure_ (i := 3) (N := some 92) (v := ?_) (a' := ?_) b4ML rfl rfl (any_of HT_.out (by kernel_rfl)) (fun _ _ _ h => h) (Or.inl ⟨by rfl, ?_⟩) ?_ ?_
         rotate_left; (intro w'; go_simp; with_reducible rfl); rotate_left; (simp only [Act.put, List.setIfInBounds_toArray, List.set_cons_zero, List.set_cons_succ, i64_w]; rfl)
         refine pure_ (i := 4) (N := some 93) (v := undef) (a' := ?_) b5ML rfl rfl (any_of HT_.out (by kernel_rfl)) (fun _ _ _ h => h) (Or.inr ⟨by rfl, rfl⟩) ?_ ?_
         rotate_left
         ·simp only [Act.put, List.setIfInBounds_toArray, List.set_cons_zero, List.set_cons_succ, i64_w]
          rfl
         refine pure_ (i := 5) (N := some 94) (v := undef) (a' := ?_) b6ML rfl rfl (any_of HT_.out (by kernel_rfl)) (fun _ _ _ h => h) (Or.inr ⟨by rfl, rfl⟩) ?_ ?_
         rotate_left
         ·simp only [Act.put, List.setIfInBounds_toArray, List.set_cons_zero, List.set_cons_succ, i64_w]
          rfl
         refine pure_ (i := 6) (N := some 95) (v := undef) (a' := ?_) b40ML rfl rfl (any_of HT_.out (by kernel_rfl)) (fun _ _ _ h => h) (Or.inr ⟨by rfl, rfl⟩) ?_ ?_
         rotate_left
         ·simp only [Act.put, List.setIfInBounds_toArray, List.set_cons_zero, List.set_cons_succ, i64_w]
          rfl
         refine pure_ (i := 7) (N := some 96) (v := undef) (a' := ?_) b8ML rfl rfl (any_of HT_.out (by kernel_rfl)) (fun _ _ _ h => h) (Or.inr ⟨by rfl, rfl⟩) ?_ ?_
         rotate_left
         ·simp only [Act.put, List.setIfInBounds_toArray, List.set_cons_zero, List.set_cons_succ, i64_w]
          rfl
         refine pure_ (i := 8) (N := some 97) (v := undef) (a' := ?_) b9ML rfl rfl (any_of HT_.out (by kernel_rfl)) (fun _ _ _ h => h) (Or.inr ⟨by rfl, rfl⟩) ?_ ?_
         rotate_left
         ·simp only [Act.put, List.setIfInBounds_toArray, List.set_cons_zero, List.set_cons_succ, i64_w]
          rfl
         refine pure_ (i := 9) (N := some 98) (v := ?_) (a' := ?_) b10ML rfl rfl (any_of HT_.out (by kernel_rfl)) (fun _ _ _ h => h) (Or.inl ⟨by rfl, ?_⟩) ?_ ?_
         rotate_left; (intro w'; go_simp; with_reducible rfl); rotate_left; (simp only [Act.put, List.setIfInBounds_toArray, List.set_cons_zero, List.set_cons_succ, i64_w]; rfl)
         refine pure_ (i := 10) (N := some 99) (v := ?_) (a' := ?_) b11ML rfl rfl (any_of HT_.out (by kernel_rfl)) (fun _ _ _ h => h) (Or.inl ⟨by rfl, ?_⟩) ?_ ?_
         rotate_left; (intro w'; go_simp; with_reducible rfl); rotate_left; (simp only [Act.put, List.setIfInBounds_toArray, List.set_cons_zero, List.set_cons_succ, i64_w]; rfl)
         refine pure_ (i := 11) (N := some 100) (v := undef) (a' := ?_) b12ML rfl rfl (any_of HT_.out (by kernel_rfl)) (fun _ _ _ h => h) (Or.inr ⟨by rfl, rfl⟩) ?_ ?_
         rotate_left
         ·simp only [Act.put, List.setIfInBounds_toArray, List.set_cons_zero, List.set_cons_succ, i64_w]
          rfl
         refine pure_ (i := 12) (N := some 101) (v := undef) (a' := ?_) b13ML rfl rfl (any_of HT_.out (by kernel_rfl)) (fun _ _ _ h => h) (Or.inr ⟨by rfl, rfl⟩) ?_ ?_
         rotate_left
         ·simp only [Act.put, List.setIfInBounds_toArray, List.set_cons_zero, List.set_cons_succ, i64_w]
          rfl
         refine pure_ (i := 13) (N := some 102) (v := undef) (a' := ?_) b14ML rfl rfl (any_of HT_.out (by kernel_rfl)) (fun _ _ _ h => h) (Or.inr ⟨by rfl, rfl⟩) ?_ ?_
         rotate_left
         ·simp only [Act.put, List.setIfInBounds_toArray, List.set_cons_zero, List.set_cons_succ, i64_w]
          rfl
         refine pure_ (i := 14) (N := some 103) (v := undef) (a' := ?_) b15ML rfl rfl (any_of HT_.out (by kernel_rfl)) (fun _ _ _ h => h) (Or.inr ⟨by rfl, rfl⟩) ?_ ?_
         rotate_left
         ·simp only [Act.put, List.setIfInBounds_toArray, List.set_cons_zero, List.set_cons_succ, i64_w]
          rfl
         refine pure_ (i := 15) (N := some 104) (v := undef) (a' := ?_) b16ML rfl rfl (any_of HT_.out (by kernel_rfl)) (fun _ _ _ h => h) (Or.inr ⟨by rfl, rfl⟩) ?_ ?_
         rotate_left
         ·simp only [Act.put, List.setIfInBounds_toArray, List.set_cons_zero, List.set_cons_succ, i64_w]
          rfl
         refine pure_ (i := 16) (N := some 105) (v := undef) (a' := ?_) b17ML rfl rfl (any_of HT_.out (by kernel_rfl)) (fun _ _ _ h => h) (Or.inr ⟨by rfl, rfl⟩) ?_ ?_
         rotate_left
         ·simp only [Act.put, List.setIfInBounds_toArray, List.set_cons_zero, List.set_cons_succ, i64_w]
          rfl
         refine pure_ (i := 17) (N := some 106) (v := ?_) (a' := ?_) b18ML rfl rfl (any_of HT_.out (by kernel_rfl)) (fun _ _ _ h => h) (Or.inl ⟨by rfl, ?_⟩) ?_ ?_
         rotate_left; (intro w'; go_simp; with_reducible rfl); rotate_left; (simp only [Act.put, List.setIfInBounds_toArray, List.set_cons_zero, List.set_cons_succ, i64_w]; rfl)
         refine pure_ (i := 18) (N := some 107) (v := ?_) (a' := ?_) b19ML rfl rfl (any_of HT_.out (by kernel_rfl)) (fun _ _ _ h => h) (Or.inl ⟨by rfl, ?_⟩) ?_ ?_
         rotate_left; (intro w'; go_simp; with_reducible rfl); rotate_left; (simp only [Act.put, List.setIfInBounds_toArray, List.set_cons_zero, List.set_cons_succ, i64_w]; rfl)
         refine pure_ (i := 19) (N := some 108) (v := undef) (a' := ?_) b20ML rfl rfl (any_of HT_.out (by kernel_rfl)) (fun _ _ _ h => h) (Or.inr ⟨by rfl, rfl⟩) ?_ ?_
         rotate_left
         ·simp only [Act.put, List.setIfInBounds_toArray, List.set_cons_zero, List.set_cons_succ, i64_w]
          rfl
         refine pure_ (i := 20) (N := some 109) (v := undef) (a' := ?_) b21ML rfl rfl (any_of HT_.out (by kernel_rfl)) (fun _ _ _ h => h) (Or.inr ⟨by rfl, rfl⟩) ?_ ?_
         rotate_left
         ·simp only [Act.put, List.setIfInBounds_toArray, List.set_cons_zero, List.set_cons_succ, i64_w]
          rfl
         refine pure_ (i := 21) (N := some 110) (v := undef) (a' := ?_) b22ML rfl rfl (any_of HT_.out (by kernel_rfl)) (fun _ _ _ h => h) (Or.inr ⟨by rfl, rfl⟩) ?_ ?_
         rotate_left
         ·simp only [Act.put, List.setIfInBounds_toArray, List.set_cons_zero, List.set_cons_succ, i64_w]
          rfl
         refine pure_ (i := 22) (N := some 111) (v := undef) (a' := ?_) b23ML rfl rfl (any_of HT_.out (by kernel_rfl)) (fun _ _ _ h => h) (Or.inr ⟨by rfl, rfl⟩) ?_ ?_
         rotate_left
         ·simp only [Act.put, List.setIfInBounds_toArray, List.set_cons_zero, List.set_cons_succ, i64_w]
          rfl
         refine pure_ (i := 23) (N := some 112) (v := undef) (a' := ?_) b24ML rfl rfl (any_of HT_.out (by kernel_rfl)) (fun _ _ _ h => h) (Or.inr ⟨by rfl, rfl⟩) ?_ ?_
         rotate_left
         ·simp only [Act.put, List.setIfInBounds_toArray, List.set_cons_zero, List.set_cons_succ, i64_w]
          rfl
         refine pure_ (i := 24) (N := some 113) (v := undef) (a' := ?_) b25ML rfl rfl (any_of HT_.out (by kernel_rfl)) (fun _ _ _ h => h) (Or.inr ⟨by rfl, rfl⟩) ?_ ?_
         rotate_left
         ·simp only [Act.put, List.setIfInBounds_toArray, List.set_cons_zero, List.set_cons_succ, i64_w]
          rfl
         refine pure_ (i := 25) (N := some 114) (v := undef) (a' := ?_) b26ML rfl rfl (any_of HT_.out (by kernel_rfl)) (fun _ _ _ h => h) (Or.inr ⟨by rfl, rfl⟩) ?_ ?_
         rotate_left
         ·simp only [Act.put, List.setIfInBounds_toArray, List.set_cons_zero, List.set_cons_succ, i64_w]
          rfl
         refine pure_ (i := 26) (N := some 115) (v := undef) (a' := ?_) b27ML rfl rfl (any_of HT_.out (by kernel_rfl)) (fun _ _ _ h => h) (Or.inr ⟨by rfl, rfl⟩) ?_ ?_
         rotate_left
         ·simp only [Act.put, List.setIfInBounds_toArray, List.set_cons_zero, List.set_cons_succ, i64_w]
          rfl
         refine pure_ (i := 27) (N := some 116) (v := undef) (a' := ?_) b28ML rfl rfl (any_of HT_.out (by kernel_rfl)) (fun _ _ _ h => h) (Or.inr ⟨by rfl, rfl⟩) ?_ ?_
         rotate_left
         ·simp only [Act.put, List.setIfInBounds_toArray, List.set_cons_zero, List.set_cons_succ, i64_w]
          rfl
         refine pure_ (i := 28) (N := some 117) (v := undef) (a' := ?_) b29ML rfl rfl (any_of HT_.out (by kernel_rfl)) (fun _ _ _ h => h) (Or.inr ⟨by rfl, rfl⟩) ?_ ?_
         rotate_left
         ·simp only [Act.put, List.setIfInBounds_toArray, List.set_cons_zero, List.set_cons_succ, i64_w]
          rfl
         refine pure_ (i := 29) (N := some 118) (v := undef) (a' := ?_) b30ML rfl rfl (any_of HT_.out (by kernel_rfl)) (fun _ _ _ h => h) (Or.inr ⟨by rfl, rfl⟩) ?_ ?_
         rotate_left
         ·simp only [Act.put, List.setIfInBounds_toArray, List.set_cons_zero, List.set_cons_succ, i64_w]
          rfl
         refine pure_ (i := 30) (N := some 119) (v := undef) (a' := ?_) b31ML rfl rfl (any_of HT_.out (by kernel_rfl)) (fun _ _ _ h => h) (Or.inr ⟨by rfl, rfl⟩) ?_ ?_
         rotate_left
         ·simp only [Act.put, List.setIfInBounds_toArray, List.set_cons_zero, List.set_cons_succ, i64_w]
          rfl
         refine pure_ (i := 31) (N := some 120) (v := undef) (a' := ?_) b32ML rfl rfl (any_of HT_.out (by kernel_rfl)) (fun _ _ _ h => h) (Or.inr ⟨by rfl, rfl⟩) ?_ ?_
         rotate_left
         ·simp only [Act.put, List.setIfInBounds_toArray, List.set_cons_zero, List.set_cons_succ, i64_w]
          rfl
         refine pure_ (i := 32) (N := some 121) (v := undef) (a' := ?_) b33ML rfl rfl (any_of HT_.out (by kernel_rfl)) (fun _ _ _ h => h) (Or.inr ⟨by rfl, rfl⟩) ?_ ?_
         rotate_left
         ·simp only [Act.put, List.setIfInBounds_toArray, List.set_cons_zero, List.set_cons_succ, i64_w]
          rfl
         refine pure_ (i := 33) (N := some 122) (v := undef) (a' := ?_) b34ML rfl rfl (any_of HT_.out (by kernel_rfl)) (fun _ _ _ h => h) (Or.inr ⟨by rfl, rfl⟩) ?_ ?_
         rotate_left
         ·simp only [Act.put, List.setIfInBounds_toArray, List.set_cons_zero, List.set_cons_succ, i64_w]
          rfl
         refine pure_ (i := 34) (N := some 123) (v := ?_) (a' := ?_) b35ML rfl rfl (any_of HT_.out (by kernel_rfl)) (fun _ _ _ h => h) (Or.inl ⟨by rfl, ?_⟩) ?_ ?_
         rotate_left; (intro w'; go_simp; with_reducible rfl); rotate_left; (simp only [Act.put, List.setIfInBounds_toArray, List.set_cons_zero, List.set_cons_succ, i64_w]; rfl)
         refine done_ (done_of HT_.out (by kernel_rfl)) ?_
         try go_wp2
         go_ret
         exact ⟨by first | rfl | (simp [*] <;> rfl), by repeat (first | (with_reducible first | exact HB.out | apply below_alloc | apply pw_below_drewN | apply below_drew1) | exact HB.out)⟩
       ·as_aux_lemma =>
        rw [if_neg c36] at H
        have c36b0 : decide (x84_2 < (t439.length : Int)) = false := decide_eq_false c36
        clear c36
        replace H := Option.bind_eq_some_iff.mp H
        obtain ⟨t476, A800, H⟩ := H
        replace H : ((impl_TriplesWith.f k2 t476).bind fun bt477 => ((spec_TriplesWith.f k2 t476).bind fun bt481 => ((impl_IsMarkovNumber.f k2 t476).bind fun bt485 => ((spec_IsMarkovNumber.f k2 t476).bind fun bt487 => (if (bt477.2 != bt481.2) = true then (some false) else ((laws_dLists.f k2 bt477.1 bt481.1).bind fun t489 => (if t489 = true then (if (bt485.2 != bt487.2) = true then (some false) else (if (bt485.1 != bt487.1) = true then (some false) else (if (bt485.2 != bt477.2) = true then (some false) else (if (bt485.1 != (decide ((bt477.1.length : Int) > 0))) = true then (some false) else (laws_FnMarkovLists.l2 k2 t476 bt477.1 (bt477.1.length : Int) 0))))) else (some false)))))))) = some r := H
        have A80 := Aside0.mk A800
        clear A800
        replace H := Option.bind_eq_some_iff.mp H
        obtain ⟨⟨t477, t478⟩, A810, H⟩ := H
        replace H : ((spec_TriplesWith.f k2 t476).bind fun bt481 => ((impl_IsMarkovNumber.f k2 t476).bind fun bt485 => ((spec_IsMarkovNumber.f k2 t476).bind fun bt487 => (if (t478 != bt481.2) = true then (some false) else ((laws_dLists.f k2 t477 bt481.1).bind fun t489 => (if t489 = true then (if (bt485.2 != bt487.2) = true then (some false) else (if (bt485.1 != bt487.1) = true then (some false) else (if (bt485.2 != t478) = true then (some false) else (if (bt485.1 != (decide ((t477.length : Int) > 0))) = true then (some false) else (laws_FnMarkovLists.l2 k2 t476 t477 (t477.length : Int) 0))))) else (some false))))))) = some r := H
        have A81 := Aside0.mk A810
        clear A810
        replace H := Option.bind_eq_some_iff.mp H
        obtain ⟨⟨t481, t484⟩, A820, H⟩ := H
        replace H : ((impl_IsMarkovNumber.f k2 t476).bind fun bt485 => ((spec_IsMarkovNumber.f k2 t476).bind fun bt487 => (if (t478 != t484) = true then (some false) else ((laws_dLists.f k2 t477 t481).bind fun t489 => (if t489 = true then (if (bt485.2 != bt487.2) = true then (some false) else (if (bt485.1 != bt487.1) = true then (some false) else (if (bt485.2 != t478) = true then (some false) else (if (bt485.1 != (decide ((t477.length : Int) > 0))) = true then (some false) else (laws_FnMarkovLists.l2 k2 t476 t477 (t477.length : Int) 0))))) else (some false)))))) = some r := H
        have A82 := Aside0.mk A820
        clear A820
        replace H := Option.bind_eq_some_iff.mp H
        obtain ⟨⟨t485, t486⟩, A830, H⟩ := H
        replace H : ((spec_IsMarkovNumber.f k2 t476).bind fun bt487 => (if (t478 != t484) = true then (some false) else ((laws_dLists.f k2 t477 t481).bind fun t489 => (if t489 = true then (if (t486 != bt487.2) = true then (some false) else (if (t485 != bt487.1) = true then (some false) else (if (t486 != t478) = true then (some false) else (if (t485 != (decide ((t477.length : Int) > 0))) = true then (some false) else (laws_FnMarkovLists.l2 k2 t476 t477 (t477.length : Int) 0))))) else (some false))))) = some r := H
        have A83 := Aside0.mk A830
        clear A830
        replace H := Option.bind_eq_some_iff.mp H
        obtain ⟨⟨t487, t488⟩, A840, H⟩ := H
        replace H : (if (t478 != t484) = true then (some false) else ((laws_dLists.f k2 t477 t481).bind fun t489 => (if t489 = true then (if (t486 != t488) = true then (some false) else (if (t485 != t487) = true then (some false) else (if (t486 != t478) = true then (some false) else (if (t485 != (decide ((t477.length : Int) > 0))) = true then (some false) else (laws_FnMarkovLists.l2 k2 t476 t477 (t477.length : Int) 0))))) else (some false)))) = some r := H
        have A84 := Aside0.mk A840
        clear A840
        by_cases c85 : (t478 != t484) = true
        ·rw [if_pos c85] at H
         have c85b0 : (t478 != t484) = true := c85
         (try (have c85b1 : decide (t478 = t484) = false := by simpa using c85))
         (try (have c85b2 : (t478 == t484) = false := by simpa using c85))
         (try (have c85b3 : ¬ (t478 = t484) := by simpa using c85))
         clear c85
         obtain rfl := Option.some.inj H
         go_wp2_with (first | ((with_reducible refine gate_callee (f := 29) rfl ?_); refine goesL_ (some 154) rfl rfl Try.func29 (by kernel_rfl) rfl #[.slice A1 l1.length c1] rfl (by (try simp only [List.map_toArray, List.map_cons, List.map_nil]); first | done | rfl) ?_; (with_reducible refine (spec_DrawTriplesWith.calls k2 _ _ l1 t476 _ ?side1 ?side2 A80.out).mono ?_); (case side1 => repeat (first | exact (C_below HR1.out HB.out) | (with_reducible first | refine C_alloc ?_ _ | refine C_drewN ?_ _ | refine C_drew ?_))); (case side2 => exact HC1.out); rintro e w86 ⟨rfl, hb⟩; refine ⟨_, rfl, ?_⟩; have n0_ := Aside0.mk (N_below (by (with_reducible repeat (first | apply N_alloc | apply N_drewN | apply N_drew)); exact HO_6.out) hb); have n1_ := Aside0.mk (R_below (by (with_reducible repeat (first | apply R_alloc | apply R_drewN | apply R_drew)); exact HO_10.out) hb); have n2_ := Aside0.mk (N_below (by (with_reducible repeat (first | apply N_alloc | apply N_drewN | apply N_drew)); exact HO_82.out) hb); have n3_ := Aside0.mk (below_step (by repeat (first | (with_reducible first | exact HB.out | apply below_alloc | apply pw_below_drewN | apply below_drew1) | exact HB.out)) hb); clear HO_6; clear HO_10; clear HO_82; clear HB; have HO_6 := n0_; have HO_10 := n1_; have HO_82 := n2_; have HB := n3_; clear n0_ n1_ n2_ n3_; (try clear hb); (try clear hb2); (try clear hk); (try clear hi)) | ((with_reducible refine gate_callee (f := 21) rfl ?_); refine goesL_ (some 157) rfl rfl Try.func21 (by kernel_rfl) rfl #[.int .i64 t476] rfl (by (try simp only [List.map_toArray, List.map_cons, List.map_nil]); first | done | rfl) ?_; (with_reducible refine (impl_TriplesWith.calls k2 t476 t477 t478 _ A81.out).mono ?_); rintro e w87 ⟨v479, rfl, ho0, hb⟩; refine ⟨_, rfl, ?_⟩; have n0_ := Aside0.mk (N_elder' (by (with_reducible repeat (first | apply N_alloc | apply N_drewN | apply N_drew)); exact HO_6.out) (by first | exact N_base ho0 | exact S_base ho0) hb); have n1_ := Aside0.mk (R_below (by (with_reducible repeat (first | apply R_alloc | apply R_drewN | apply R_drew)); exact HO_10.out) hb); have n2_ := Aside0.mk (N_elder' (by (with_reducible repeat (first | apply N_alloc | apply N_drewN | apply N_drew)); exact HO_82.out) (by first | exact N_base ho0 | exact S_base ho0) hb); have n3_ := Aside0.mk (N_lower (N_mono (ok' := fun k_ => some k_ ≠ (.slice Ao35 t439.length co35 : Value).ownBlock ∧ some k_ ≠ (v449 : Value).ownBlock ∧ some k_ ≠ (.slice Ao35 t439.length co35 : Value).ownBlock) (S_N (S_bound ho0)) (fun k_ hk_ => ⟨(Kd.fresh' (N_lt (by (with_reducible repeat (first | apply N_alloc | apply N_drewN | apply N_drew)); exact HO_6.out)) k_ hk_.2.1), (Kd.fresh' (R_lt (by (with_reducible repeat (first | apply R_alloc | apply R_drewN | apply R_drew)); exact HO_10.out)) k_ hk_.2.1), (Kd.fresh' (N_lt (by (with_reducible repeat (first | apply N_alloc | apply N_drewN | apply N_drew)); exact HO_82.out)) k_ hk_.2.1)⟩)) (below_size (by repeat (first | (with_reducible first | exact HB.out | apply below_alloc | apply pw_below_drewN | apply below_drew1) | exact HB.out)))); have n4_ := Aside0.mk (below_step (by repeat (first | (with_reducible first | exact HB.out | apply below_alloc | apply pw_below_drewN | apply below_drew1) | exact HB.out)) hb); clear HO_6; clear HO_10; clear HO_82; clear HB; have HO_6 := n0_; have HO_10 := n1_; have HO_82 := n2_; have HO480 := n3_; have HB := n4_; clear n0_ n1_ n2_ n3_ n4_; (try clear hb); (try clear hb2); (try clear hk); (try clear hi); (try clear ho0)) | ((with_reducible refine gate_callee (f := 20) rfl ?_); refine goesL_ (some 162) rfl rfl Try.func20 (by kernel_rfl) rfl #[.int .i64 t476] rfl (by (try simp only [List.map_toArray, List.map_cons, List.map_nil]); first | done | rfl) ?_; (with_reducible refine (spec_TriplesWith.calls k2 t476 t481 t484 _ A82.out).mono ?_); rintro e w88 ⟨v482, rfl, ho0, hb⟩; refine ⟨_, rfl, ?_⟩; have n0_ := Aside0.mk (N_elder' (by (with_reducible repeat (first | apply N_alloc | apply N_drewN | apply N_drew)); exact HO_6.out) (by first | exact N_base ho0 | exact S_base ho0) hb); have n1_ := Aside0.mk (R_below (by (with_reducible repeat (first | apply R_alloc | apply R_drewN | apply R_drew)); exact HO_10.out) hb); have n2_ := Aside0.mk (N_elder' (by (with_reducible repeat (first | apply N_alloc | apply N_drewN | apply N_drew)); exact HO_82.out) (by first | exact N_base ho0 | exact S_base ho0) hb); have n3_ := Aside0.mk (N_elder' (by (with_reducible repeat (first | apply N_alloc | apply N_drewN | apply N_drew)); exact HO480.out) (by first | exact N_base ho0 | exact S_base ho0) hb); have n4_ := Aside0.mk (N_lower (N_mono (ok' := fun k_ => some k_ ≠ (.slice Ao35 t439.length co35 : Value).ownBlock ∧ some k_ ≠ (v449 : Value).ownBlock ∧ some k_ ≠ (.slice Ao35 t439.length co35 : Value).ownBlock ∧ some k_ ≠ (v479 : Value).ownBlock) ho0 (fun k_ hk_ => ⟨(Kd.fresh' (N_lt (by (with_reducible repeat (first | apply N_alloc | apply N_drewN | apply N_drew)); exact HO_6.out)) k_ hk_), (Kd.fresh' (R_lt (by (with_reducible repeat (first | apply R_alloc | apply R_drewN | apply R_drew)); exact HO_10.out)) k_ hk_), (Kd.fresh' (N_lt (by (with_reducible repeat (first | apply N_alloc | apply N_drewN | apply N_drew)); exact HO_82.out)) k_ hk_), (Kd.fresh' (N_lt (by (with_reducible repeat (first | apply N_alloc | apply N_drewN | apply N_drew)); exact HO480.out)) k_ hk_)⟩)) (below_size (by repeat (first | (with_reducible first | exact HB.out | apply below_alloc | apply pw_below_drewN | apply below_drew1) | exact HB.out)))); have n5_ := Aside0.mk (below_step (by repeat (first | (with_reducible first | exact HB.out | apply below_alloc | apply pw_below_drewN | apply below_drew1) | exact HB.out)) hb); clear HO_6; clear HO_10; clear HO_82; clear HO480; clear HB; have HO_6 := n0_; have HO_10 := n1_; have HO_82 := n2_; have HO480 := n3_; have HO483 := n4_; have HB := n5_; clear n0_ n1_ n2_ n3_ n4_ n5_; (try clear hb); (try clear hb2); (try clear hk); (try clear hi); (try clear ho0)) | ((with_reducible refine gate_callee (f := 9) rfl ?_); refine goesL_ (some 167) rfl rfl Try.func9 (by kernel_rfl) rfl #[.int .i64 t476] rfl (by (try simp only [List.map_toArray, List.map_cons, List.map_nil]); first | done | rfl) ?_; (with_reducible refine (impl_IsMarkovNumber.calls k2 t476 t485 t486 _ A83.out).mono ?_); rintro e w89 ⟨rfl, hb⟩; refine ⟨_, rfl, ?_⟩; have n0_ := Aside0.mk (N_below (by (with_reducible repeat (first | apply N_alloc | apply N_drewN | apply N_drew)); exact HO_6.out) hb); have n1_ := Aside0.mk (R_below (by (with_reducible repeat (first | apply R_alloc | apply R_drewN | apply R_drew)); exact HO_10.out) hb); have n2_ := Aside0.mk (N_below (by (with_reducible repeat (first | apply N_alloc | apply N_drewN | apply N_drew)); exact HO_82.out) hb); have n3_ := Aside0.mk (N_below (by (with_reducible repeat (first | apply N_alloc | apply N_drewN | apply N_drew)); exact HO480.out) hb); have n4_ := Aside0.mk (N_below (by (with_reducible repeat (first | apply N_alloc | apply N_drewN | apply N_drew)); exact HO483.out) hb); have n5_ := Aside0.mk (below_step (by repeat (first | (with_reducible first | exact HB.out | apply below_alloc | apply pw_below_drewN | apply below_drew1) | exact HB.out)) hb); clear HO_6; clear HO_10; clear HO_82; clear HO480; clear HO483; clear HB; have HO_6 := n0_; have HO_10 := n1_; have HO_82 := n2_; have HO480 := n3_; have HO483 := n4_; have HB := n5_; clear n0_ n1_ n2_ n3_ n4_ n5_; (try clear hb); (try clear hb2); (try clear hk); (try clear hi)) | ((with_reducible refine gate_callee (f := 8) rfl ?_); refine goesL_ (some 172) rfl rfl Try.func8 (by kernel_rfl) rfl #[.int .i64 t476] rfl (by (try simp only [List.map_toArray, List.map_cons, List.map_nil]); first | done | rfl) ?_; (with_reducible refine (spec_IsMarkovNumber.calls k2 t476 t487 t488 _ A84.out).mono ?_); rintro e w90 ⟨rfl, hb⟩; refine ⟨_, rfl, ?_⟩; have n0_ := Aside0.mk (N_below (by (with_reducible repeat (first | apply N_alloc | apply N_drewN | apply N_drew)); exact HO_6.out) hb); have n1_ := Aside0.mk (R_below (by (with_reducible repeat (first | apply R_alloc | apply R_drewN | apply R_drew)); exact HO_10.out) hb); have n2_ := Aside0.mk (N_below (by (with_reducible repeat (first | apply N_alloc | apply N_drewN | apply N_drew)); exact HO_82.out) hb); have n3_ := Aside0.mk (N_below (by (with_reducible repeat (first | apply N_alloc | apply N_drewN | apply N_drew)); exact HO480.out) hb); have n4_ := Aside0.mk (N_below (by (with_reducible repeat (first | apply N_alloc | apply N_drewN | apply N_drew)); exact HO483.out) hb); have n5_ := Aside0.mk (below_step (by repeat (first | (with_reducible first | exact HB.out | apply below_alloc | apply pw_below_drewN | apply below_drew1) | exact HB.out)) hb); clear HO_6; clear HO_10; clear HO_82; clear HO480; clear HO483; clear HB; have HO_6 := n0_; have HO_10 := n1_; have HO_82 := n2_; have HO480 := n3_; have HO483 := n4_; have HB := n5_; clear n0_ n1_ n2_ n3_ n4_ n5_; (try clear hb); (try clear hb2); (try clear hk); (try clear hi)))
         go_ret
         exact ⟨by first | rfl | (simp [*] <;> rfl), by repeat (first | (with_reducible first | exact HB.out | apply below_alloc | apply pw_below_drewN | apply below_drew1) | exact HB.out)⟩
        ·as_aux_lemma =>
         rw [if_neg c85] at H
         have c85b0 : (t478 != t484) = false := by simpa using c85
         (try (have c85b1 : decide (t478 = t484) = true := by simpa using c85))
         (try (have c85b2 : (t478 == t484) = true := by simpa using c85))
         clear c85
         replace H := Option.bind_eq_some_iff.mp H
         obtain ⟨t489, A910, H⟩ := H
         replace H : (if t489 = true then (if (t486 != t488) = true then (some false) else (if (t485 != t487) = true then (some false) else (if (t486 != t478) = true then (some false) else (if (t485 != (decide ((t477.length : Int) > 0))) = true then (some false) else (laws_FnMarkovLists.l2 k2 t476 t477 (t477.length : Int) 0))))) else (some false)) = some r := H
         have A91 := Aside0.mk A910
         clear A910
         by_cases c92 : t489 = true
         ·as_aux_lemma =>
          subst c92
          have H1 : (if (t486 != t488) = true then (some false) else (if (t485 != t487) = true then (some false) else (if (t486 != t478) = true then (some false) else (if (t485 != (decide ((t477.length : Int) > 0))) = true then (some false) else (laws_FnMarkovLists.l2 k2 t476 t477 (t477.length : Int) 0))))) = some r := by rw [if_pos rfl] at H; exact H
          clear H; have H := H1; clear H1
          by_cases c93 : (t486 != t488) = true
          ·rw [if_pos c93] at H
           have c93b0 : (t486 != t488) = true := c93
           (try (have c93b1 : decide (t486 = t488) = false := by simpa using c93))
           (try (have c93b2 : (t486 == t488) = false := by simpa using c93))
           (try (have c93b3 : ¬ (t486 = t488) := by simpa using c93))
           clear c93
           obtain rfl := Option.some.inj H
           go_wp2_with (first | ((with_reducible refine gate_callee (f := 29) rfl ?_); refine goesL_ (some 154) rfl rfl Try.func29 (by kernel_rfl) rfl #[.slice A1 l1.length c1] rfl (by (try simp only [List.map_toArray, List.map_cons, List.map_nil]); first | done | rfl) ?_; (with_reducible refine (spec_DrawTriplesWith.calls k2 _ _ l1 t476 _ ?side1 ?side2 A80.out).mono ?_); (case side1 => repeat (first | exact (C_below HR1.out HB.out) | (with_reducible first | refine C_alloc ?_ _ | refine C_drewN ?_ _ | refine C_drew ?_))); (case side2 => exact HC1.out); rintro e w94 ⟨rfl, hb⟩; refine ⟨_, rfl, ?_⟩; have n0_ := Aside0.mk (N_below (by (with_reducible repeat (first | apply N_alloc | apply N_drewN | apply N_drew)); exact HO_6.out) hb); have n1_ := Aside0.mk (R_below (by (with_reducible repeat (first | apply R_alloc | apply R_drewN | apply R_drew)); exact HO_10.out) hb); have n2_ := Aside0.mk (N_below (by (with_reducible repeat (first | apply N_alloc | apply N_drewN | apply N_drew)); exact HO_82.out) hb); have n3_ := Aside0.mk (below_step (by repeat (first | (with_reducible first | exact HB.out | apply below_alloc | apply pw_below_drewN | apply below_drew1) | exact HB.out)) hb); clear HO_6; clear HO_10; clear HO_82; clear HB; have HO_6 := n0_; have HO_10 := n1_; have HO_82 := n2_; have HB := n3_; clear n0_ n1_ n2_ n3_; (try clear hb); (try clear hb2); (try clear hk); (try clear hi)) | ((with_reducible refine gate_callee (f := 21) rfl ?_); refine goesL_ (some 157) rfl rfl Try.func21 (by kernel_rfl) rfl #[.int .i64 t476] rfl (by (try simp only [List.map_toArray, List.map_cons, List.map_nil]); first | done | rfl) ?_; (with_reducible refine (impl_TriplesWith.calls k2 t476 t477 t478 _ A81.out).mono ?_); rintro e w95 ⟨v479, rfl, ho0, hb⟩; refine ⟨_, rfl, ?_⟩; have n0_ := Aside0.mk (N_elder' (by (with_reducible repeat (first | apply N_alloc | apply N_drewN | apply N_drew)); exact HO_6.out) (by first | exact N_base ho0 | exact S_base ho0) hb); have n1_ := Aside0.mk (R_below (by (with_reducible repeat (first | apply R_alloc | apply R_drewN | apply R_drew)); exact HO_10.out) hb); have n2_ := Aside0.mk (N_elder' (by (with_reducible repeat (first | apply N_alloc | apply N_drewN | apply N_drew)); exact HO_82.out) (by first | exact N_base ho0 | exact S_base ho0) hb); have n3_ := Aside0.mk (N_lower (N_mono (ok' := fun k_ => some k_ ≠ (.slice Ao35 t439.length co35 : Value).ownBlock ∧ some k_ ≠ (v449 : Value).ownBlock ∧ some k_ ≠ (.slice Ao35 t439.length co35 : Value).ownBlock) (S_N (S_bound ho0)) (fun k_ hk_ => ⟨(Kd.fresh' (N_lt (by (with_reducible repeat (first | apply N_alloc | apply N_drewN | apply N_drew)); exact HO_6.out)) k_ hk_.2.1), (Kd.fresh' (R_lt (by (with_reducible repeat (first | apply R_alloc | apply R_drewN | apply R_drew)); exact HO_10.out)) k_ hk_.2.1), (Kd.fresh' (N_lt (by (with_reducible repeat (first | apply N_alloc | apply N_drewN | apply N_drew)); exact HO_82.out)) k_ hk_.2.1)⟩)) (below_size (by repeat (first | (with_reducible first | exact HB.out | apply below_alloc | apply pw_below_drewN | apply below_drew1) | exact HB.out)))); have n4_ := Aside0.mk (below_step (by repeat (first | (with_reducible first | exact HB.out | apply below_alloc | apply pw_below_drewN | apply below_drew1) | exact HB.out)) hb); clear HO_6; clear HO_10; clear HO_82; clear HB; have HO_6 := n0_; have HO_10 := n1_; have HO_82 := n2_; have HO480 := n3_; have HB := n4_; clear n0_ n1_ n2_ n3_ n4_; (try clear hb); (try clear hb2); (try clear hk); (try clear hi); (try clear ho0)) | ((with_reducible refine gate_callee (f := 20) rfl ?_); refine goesL_ (some 162) rfl rfl Try.func20 (by kernel_rfl) rfl #[.int .i64 t476] rfl (by (try simp only [List.map_toArray, List.map_cons, List.map_nil]); first | done | rfl) ?_; (with_reducible refine (spec_TriplesWith.calls k2 t476 t481 t484 _ A82.out).mono ?_); rintro e w96 ⟨v482, rfl, ho0, hb⟩; refine ⟨_, rfl, ?_⟩; have n0_ := Aside0.mk (N_elder' (by (with_reducible repeat (first | apply N_alloc | apply N_drewN | apply N_drew)); exact HO_6.out) (by first | exact N_base ho0 | exact S_base ho0) hb); have n1_ := Aside0.mk (R_below (by (with_reducible repeat (first | apply R_alloc | apply R_drewN | apply R_drew)); exact HO_10.out) hb); have n2_ := Aside0.mk (N_elder' (by (with_reducible repeat (first | apply N_alloc | apply N_drewN | apply N_drew)); exact HO_82.out) (by first | exact N_base ho0 | exact S_base ho0) hb); have n3_ := Aside0.mk (N_elder' (by (with_reducible repeat (first | apply N_alloc | apply N_drewN | apply N_drew)); exact HO480.out) (by first | exact N_base ho0 | exact S_base ho0) hb); have n4_ := Aside0.mk (N_lower (N_mono (ok' := fun k_ => some k_ ≠ (.slice Ao35 t439.length co35 : Value).ownBlock ∧ some k_ ≠ (v449 : Value).ownBlock ∧ some k_ ≠ (.slice Ao35 t439.length co35 : Value).ownBlock ∧ some k_ ≠ (v479 : Value).ownBlock) ho0 (fun k_ hk_ => ⟨(Kd.fresh' (N_lt (by (with_reducible repeat (first | apply N_alloc | apply N_drewN | apply N_drew)); exact HO_6.out)) k_ hk_), (Kd.fresh' (R_lt (by (with_reducible repeat (first | apply R_alloc | apply R_drewN | apply R_drew)); exact HO_10.out)) k_ hk_), (Kd.fresh' (N_lt (by (with_reducible repeat (first | apply N_alloc | apply N_drewN | apply N_drew)); exact HO_82.out)) k_ hk_), (Kd.fresh' (N_lt (by (with_reducible repeat (first | apply N_alloc | apply N_drewN | apply N_drew)); exact HO480.out)) k_ hk_)⟩)) (below_size (by repeat (first | (with_reducible first | exact HB.out | apply below_alloc | apply pw_below_drewN | apply below_drew1) | exact HB.out)))); have n5_ := Aside0.mk (below_step (by repeat (first | (with_reducible first | exact HB.out | apply below_alloc | apply pw_below_drewN | apply below_drew1) | exact HB.out)) hb); clear HO_6; clear HO_10; clear HO_82; clear HO480; clear HB; have HO_6 := n0_; have HO_10 := n1_; have HO_82 := n2_; have HO480 := n3_; have HO483 := n4_; have HB := n5_; clear n0_ n1_ n2_ n3_ n4_ n5_; (try clear hb); (try clear hb2); (try clear hk); (try clear hi); (try clear ho0)) | ((with_reducible refine gate_callee (f := 9) rfl ?_); refine goesL_ (some 167) rfl rfl Try.func9 (by kernel_rfl) rfl #[.int .i64 t476] rfl (by (try simp only [List.map_toArray, List.map_cons, List.map_nil]); first | done | rfl) ?_; (with_reducible refine (impl_IsMarkovNumber.calls k2 t476 t485 t486 _ A83.out).mono ?_); rintro e w97 ⟨rfl, hb⟩; refine ⟨_, rfl, ?_⟩; have n0_ := Aside0.mk (N_below (by (with_reducible repeat (first | apply N_alloc | apply N_drewN | apply N_drew)); exact HO_6.out) hb); have n1_ := Aside0.mk (R_below (by (with_reducible repeat (first | apply R_alloc | apply R_drewN | apply R_drew)); exact HO_10.out) hb); have n2_ := Aside0.mk (N_below (by (with_reducible repeat (first | apply N_alloc | apply N_drewN | apply N_drew)); exact HO_82.out) hb); have n3_ := Aside0.mk (N_below (by (with_reducible repeat (first | apply N_alloc | apply N_drewN | apply N_drew)); exact HO480.out) hb); have n4_ := Aside0.mk (N_below (by (with_reducible repeat (first | apply N_alloc | apply N_drewN | apply N_drew)); exact HO483.out) hb); have n5_ := Aside0.mk (below_step (by repeat (first | (with_reducible first | exact HB.out | apply below_alloc | apply pw_below_drewN | apply below_drew1) | exact HB.out)) hb); clear HO_6; clear HO_10; clear HO_82; clear HO480; clear HO483; clear HB; have HO_6 := n0_; have HO_10 := n1_; have HO_82 := n2_; have HO480 := n3_; have HO483 := n4_; have HB := n5_; clear n0_ n1_ n2_ n3_ n4_ n5_; (try clear hb); (try clear hb2); (try clear hk); (try clear hi)) | ((with_reducible refine gate_callee (f := 8) rfl ?_); refine goesL_ (some 172) rfl rfl Try.func8 (by kernel_rfl) rfl #[.int .i64 t476] rfl (by (try simp only [List.map_toArray, List.map_cons, List.map_nil]); first | done | rfl) ?_; (with_reducible refine (spec_IsMarkovNumber.calls k2 t476 t487 t488 _ A84.out).mono ?_); rintro e w98 ⟨rfl, hb⟩; refine ⟨_, rfl, ?_⟩; have n0_ := Aside0.mk (N_below (by (with_reducible repeat (first | apply N_alloc | apply N_drewN | apply N_drew)); exact HO_6.out) hb); have n1_ := Aside0.mk (R_below (by (with_reducible repeat (first | apply R_alloc | apply R_drewN | apply R_drew)); exact HO_10.out) hb); have n2_ := Aside0.mk (N_below (by (with_reducible repeat (first | apply N_alloc | apply N_drewN | apply N_drew)); exact HO_82.out) hb); have n3_ := Aside0.mk (N_below (by (with_reducible repeat (first | apply N_alloc | apply N_drewN | apply N_drew)); exact HO480.out) hb); have n4_ := Aside0.mk (N_below (by (with_reducible repeat (first | apply N_alloc | apply N_drewN | apply N_drew)); exact HO483.out) hb); have n5_ := Aside0.mk (below_step (by repeat (first | (with_reducible first | exact HB.out | apply below_alloc | apply pw_below_drewN | apply below_drew1) | exact HB.out)) hb); clear HO_6; clear HO_10; clear HO_82; clear HO480; clear HO483; clear HB; have HO_6 := n0_; have HO_10 := n1_; have HO_82 := n2_; have HO480 := n3_; have HO483 := n4_; have HB := n5_; clear n0_ n1_ n2_ n3_ n4_ n5_; (try clear hb); (try clear hb2); (try clear hk); (try clear hi); obtain ⟨Ao99, co99, eo99⟩ := N_slice HO480.out; subst eo99; obtain ⟨Ao100, co100, eo100⟩ := N_slice HO483.out; subst eo100) | (go_at_call 24; (with_reducible refine (laws_dLists.calls k2 _ _ t477 _ _ t481 true _ ?side1 ?side2 ?side3 ?side4 A91.out).mono ?_); (case side1 => repeat (first | exact (N_reads' HO480.out).2.2 | (with_reducible first | refine C_alloc ?_ _ | refine C_drewN ?_ _ | refine C_drew ?_))); (case side2 => exact (N_reads' HO480.out).2.1); (case side3 => repeat (first | exact (N_reads' HO483.out).2.2 | (with_reducible first | refine C_alloc ?_ _ | refine C_drewN ?_ _ | refine C_drew ?_))); (case side4 => exact (N_reads' HO483.out).2.1); rintro e w' ⟨rfl, ⟨nd, rfl⟩⟩))
           go_ret
           exact ⟨by first | rfl | (simp [*] <;> rfl), by repeat (first | (with_reducible first | exact HB.out | apply below_alloc | apply pw_below_drewN | apply below_drew1) | exact HB.out)⟩
          ·as_aux_lemma =>
           rw [if_neg c93] at H
           have c93b0 : (t486 != t488) = false := by simpa using c93
           (try (have c93b1 : decide (t486 = t488) = true := by simpa using c93))
           (try (have c93b2 : (t486 == t488) = true := by simpa using c93))
           clear c93
           by_cases c101 : (t485 != t487) = true
           ·rw [if_pos c101] at H
            have c101b0 : (t485 != t487) = true := c101
            (try (have c101b1 : decide (t485 = t487) = false := by simpa using c101))
            (try (have c101b2 : (t485 == t487) = false := by simpa using c101))
            (try (have c101b3 : ¬ (t485 = t487) := by simpa using c101))
            clear c101
            obtain rfl := Option.some.inj H
            go_wp2_with (first | ((with_reducible refine gate_callee (f := 29) rfl ?_); refine goesL_ (some 154) rfl rfl Try.func29 (by kernel_rfl) rfl #[.slice A1 l1.length c1] rfl (by (try simp only [List.map_toArray, List.map_cons, List.map_nil]); first | done | rfl) ?_; (with_reducible refine (spec_DrawTriplesWith.calls k2 _ _ l1 t476 _ ?side1 ?side2 A80.out).mono ?_); (case side1 => repeat (first | exact (C_below HR1.out HB.out) | (with_reducible first | refine C_alloc ?_ _ | refine C_drewN ?_ _ | refine C_drew ?_))); (case side2 => exact HC1.out); rintro e w102 ⟨rfl, hb⟩; refine ⟨_, rfl, ?_⟩; have n0_ := Aside0.mk (N_below (by (with_reducible repeat (first | apply N_alloc | apply N_drewN | apply N_drew)); exact HO_6.out) hb); have n1_ := Aside0.mk (R_below (by (with_reducible repeat (first | apply R_alloc | apply R_drewN | apply R_drew)); exact HO_10.out) hb); have n2_ := Aside0.mk (N_below (by (with_reducible repeat (first | apply N_alloc | apply N_drewN | apply N_drew)); exact HO_82.out) hb); have n3_ := Aside0.mk (below_step (by repeat (first | (with_reducible first | exact HB.out | apply below_alloc | apply pw_below_drewN | apply below_drew1) | exact HB.out)) hb); clear HO_6; clear HO_10; clear HO_82; clear HB; have HO_6 := n0_; have HO_10 := n1_; have HO_82 := n2_; have HB := n3_; clear n0_ n1_ n2_ n3_; (try clear hb); (try clear hb2); (try clear hk); (try clear hi)) | ((with_reducible refine gate_callee (f := 21) rfl ?_); refine goesL_ (some 157) rfl rfl Try.func21 (by kernel_rfl) rfl #[.int .i64 t476] rfl (by (try simp only [List.map_toArray, List.map_cons, List.map_nil]); first | done | rfl) ?_; (with_reducible refine (impl_TriplesWith.calls k2 t476 t477 t478 _ A81.out).mono ?_); rintro e w103 ⟨v479, rfl, ho0, hb⟩; refine ⟨_, rfl, ?_⟩; have n0_ := Aside0.mk (N_elder' (by (with_reducible repeat (first | apply N_alloc | apply N_drewN | apply N_drew)); exact HO_6.out) (by first | exact N_base ho0 | exact S_base ho0) hb); have n1_ := Aside0.mk (R_below (by (with_reducible repeat (first | apply R_alloc | apply R_drewN | apply R_drew)); exact HO_10.out) hb); have n2_ := Aside0.mk (N_elder' (by (with_reducible repeat (first | apply N_alloc | apply N_drewN | apply N_drew)); exact HO_82.out) (by first | exact N_base ho0 | exact S_base ho0) hb); have n3_ := Aside0.mk (N_lower (N_mono (ok' := fun k_ => some k_ ≠ (.slice Ao35 t439.length co35 : Value).ownBlock ∧ some k_ ≠ (v449 : Value).ownBlock ∧ some k_ ≠ (.slice Ao35 t439.length co35 : Value).ownBlock) (S_N (S_bound ho0)) (fun k_ hk_ => ⟨(Kd.fresh' (N_lt (by (with_reducible repeat (first | apply N_alloc | apply N_drewN | apply N_drew)); exact HO_6.out)) k_ hk_.2.1), (Kd.fresh' (R_lt (by (with_reducible repeat (first | apply R_alloc | apply R_drewN | apply R_drew)); exact HO_10.out)) k_ hk_.2.1), (Kd.fresh' (N_lt (by (with_reducible repeat (first | apply N_alloc | apply N_drewN | apply N_drew)); exact HO_82.out)) k_ hk_.2.1)⟩)) (below_size (by repeat (first | (with_reducible first | exact HB.out | apply below_alloc | apply pw_below_drewN | apply below_drew1) | exact HB.out)))); have n4_ := Aside0.mk (below_step (by repeat (first | (with_reducible first | exact HB.out | apply below_alloc | apply pw_below_drewN | apply below_drew1) | exact HB.out)) hb); clear HO_6; clear HO_10; clear HO_82; clear HB; have HO_6 := n0_; have HO_10 := n1_; have HO_82 := n2_; have HO480 := n3_; have HB := n4_; clear n0_ n1_ n2_ n3_ n4_; (try clear hb); (try clear hb2); (try clear hk); (try clear hi); (try clear ho0)) | ((with_reducible refine gate_callee (f := 20) rfl ?_); refine goesL_ (some 162) rfl rfl Try.func20 (by kernel_rfl) rfl #[.int .i64 t476] rfl (by (try simp only [List.map_toArray, List.map_cons, List.map_nil]); first | done | rfl) ?_; (with_reducible refine (spec_TriplesWith.calls k2 t476 t481 t484 _ A82.out).mono ?_); rintro e w104 ⟨v482, rfl, ho0, hb⟩; refine ⟨_, rfl, ?_⟩; have n0_ := Aside0.mk (N_elder' (by (with_reducible repeat (first | apply N_alloc | apply N_drewN | apply N_drew)); exact HO_6.out) (by first | exact N_base ho0 | exact S_base ho0) hb); have n1_ := Aside0.mk (R_below (by (with_reducible repeat (first | apply R_alloc | apply R_drewN | apply R_drew)); exact HO_10.out) hb); have n2_ := Aside0.mk (N_elder' (by (with_reducible repeat (first | apply N_alloc | apply N_drewN | apply N_drew)); exact HO_82.out) (by first | exact N_base ho0 | exact S_base ho0) hb); have n3_ := Aside0.mk (N_elder' (by (with_reducible repeat (first | apply N_alloc | apply N_drewN | apply N_drew)); exact HO480.out) (by first | exact N_base ho0 | exact S_base ho0) hb); have n4_ := Aside0.mk (N_lower (N_mono (ok' := fun k_ => some k_ ≠ (.slice Ao35 t439.length co35 : Value).ownBlock ∧ some k_ ≠ (v449 : Value).ownBlock ∧ some k_ ≠ (.slice Ao35 t439.length co35 : Value).ownBlock ∧ some k_ ≠ (v479 : Value).ownBlock) ho0 (fun k_ hk_ => ⟨(Kd.fresh' (N_lt (by (with_reducible repeat (first | apply N_alloc | apply N_drewN | apply N_drew)); exact HO_6.out)) k_ hk_), (Kd.fresh' (R_lt (by (with_reducible repeat (first | apply R_alloc | apply R_drewN | apply R_drew)); exact HO_10.out)) k_ hk_), (Kd.fresh' (N_lt (by (with_reducible repeat (first | apply N_alloc | apply N_drewN | apply N_drew)); exact HO_82.out)) k_ hk_), (Kd.fresh' (N_lt (by (with_reducible repeat (first | apply N_alloc | apply N_drewN | apply N_drew)); exact HO480.out)) k_ hk_)⟩)) (below_size (by repeat (first | (with_reducible first | exact HB.out | apply below_alloc | apply pw_below_drewN | apply below_drew1) | exact HB.out)))); have n5_ := Aside0.mk (below_step (by repeat (first | (with_reducible first | exact HB.out | apply below_alloc | apply pw_below_drewN | apply below_drew1) | exact HB.out)) hb); clear HO_6; clear HO_10; clear HO_82; clear HO480; clear HB; have HO_6 := n0_; have HO_10 := n1_; have HO_82 := n2_; have HO480 := n3_; have HO483 := n4_; have HB := n5_; clear n0_ n1_ n2_ n3_ n4_ n5_; (try clear hb); (try clear hb2); (try clear hk); (try clear hi); (try clear ho0)) | ((with_reducible refine gate_callee (f := 9) rfl ?_); refine goesL_ (some 167) rfl rfl Try.func9 (by kernel_rfl) rfl #[.int .i64 t476] rfl (by (try simp only [List.map_toArray, List.map_cons, List.map_nil]); first | done | rfl) ?_; (with_reducible refine (impl_IsMarkovNumber.calls k2 t476 t485 t486 _ A83.out).mono ?_); rintro e w105 ⟨rfl, hb⟩; refine ⟨_, rfl, ?_⟩; have n0_ := Aside0.mk (N_below (by (with_reducible repeat (first | apply N_alloc | apply N_drewN | apply N_drew)); exact HO_6.out) hb); have n1_ := Aside0.mk (R_below (by (with_reducible repeat (first | apply R_alloc | apply R_drewN | apply R_drew)); exact HO_10.out) hb); have n2_ := Aside0.mk (N_below (by (with_reducible repeat (first | apply N_alloc | apply N_drewN | apply N_drew)); exact HO_82.out) hb); have n3_ := Aside0.mk (N_below (by (with_reducible repeat (first | apply N_alloc | apply N_drewN | apply N_drew)); exact HO480.out) hb); have n4_ := Aside0.mk (N_below (by (with_reducible repeat (first | apply N_alloc | apply N_drewN | apply N_drew)); exact HO483.out) hb); have n5_ := Aside0.mk (below_step (by repeat (first | (with_reducible first | exact HB.out | apply below_alloc | apply pw_below_drewN | apply below_drew1) | exact HB.out)) hb); clear HO_6; clear HO_10; clear HO_82; clear HO480; clear HO483; clear HB; have HO_6 := n0_; have HO_10 := n1_; have HO_82 := n2_; have HO480 := n3_; have HO483 := n4_; have HB := n5_; clear n0_ n1_ n2_ n3_ n4_ n5_; (try clear hb); (try clear hb2); (try clear hk); (try clear hi)) | ((with_reducible refine gate_callee (f := 8) rfl ?_); refine goesL_ (some 172) rfl rfl Try.func8 (by kernel_rfl) rfl #[.int .i64 t476] rfl (by (try simp only [List.map_toArray, List.map_cons, List.map_nil]); first | done | rfl) ?_; (with_reducible refine (spec_IsMarkovNumber.calls k2 t476 t487 t488 _ A84.out).mono ?_); rintro e w106 ⟨rfl, hb⟩; refine ⟨_, rfl, ?_⟩; have n0_ := Aside0.mk (N_below (by (with_reducible repeat (first | apply N_alloc | apply N_drewN | apply N_drew)); exact HO_6.out) hb); have n1_ := Aside0.mk (R_below (by (with_reducible repeat (first | apply R_alloc | apply R_drewN | apply R_drew)); exact HO_10.out) hb); have n2_ := Aside0.mk (N_below (by (with_reducible repeat (first | apply N_alloc | apply N_drewN | apply N_drew)); exact HO_82.out) hb); have n3_ := Aside0.mk (N_below (by (with_reducible repeat (first | apply N_alloc | apply N_drewN | apply N_drew)); exact HO480.out) hb); have n4_ := Aside0.mk (N_below (by (with_reducible repeat (first | apply N_alloc | apply N_drewN | apply N_drew)); exact HO483.out) hb); have n5_ := Aside0.mk (below_step (by repeat (first | (with_reducible first | exact HB.out | apply below_alloc | apply pw_below_drewN | apply below_drew1) | exact HB.out)) hb); clear HO_6; clear HO_10; clear HO_82; clear HO480; clear HO483; clear HB; have HO_6 := n0_; have HO_10 := n1_; have HO_82 := n2_; have HO480 := n3_; have HO483 := n4_; have HB := n5_; clear n0_ n1_ n2_ n3_ n4_ n5_; (try clear hb); (try clear hb2); (try clear hk); (try clear hi); obtain ⟨Ao107, co107, eo107⟩ := N_slice HO480.out; subst eo107; obtain ⟨Ao108, co108, eo108⟩ := N_slice HO483.out; subst eo108) | (go_at_call 24; (with_reducible refine (laws_dLists.calls k2 _ _ t477 _ _ t481 true _ ?side1 ?side2 ?side3 ?side4 A91.out).mono ?_); (case side1 => repeat (first | exact (N_reads' HO480.out).2.2 | (with_reducible first | refine C_alloc ?_ _ | refine C_drewN ?_ _ | refine C_drew ?_))); (case side2 => exact (N_reads' HO480.out).2.1); (case side3 => repeat (first | exact (N_reads' HO483.out).2.2 | (with_reducible first | refine C_alloc ?_ _ | refine C_drewN ?_ _ | refine C_drew ?_))); (case side4 => exact (N_reads' HO483.out).2.1); rintro e w' ⟨rfl, ⟨nd, rfl⟩⟩))
            go_ret
            exact ⟨by first | rfl | (simp [*] <;> rfl), by repeat (first | (with_reducible first | exact HB.out | apply below_alloc | apply pw_below_drewN | apply below_drew1) | exact HB.out)⟩
           ·as_aux_lemma =>
            rw [if_neg c101] at H
            have c101b0 : (t485 != t487) = false := by simpa using c101
            (try (have c101b1 : decide (t485 = t487) = true := by simpa using c101))
            (try (have c101b2 : (t485 == t487) = true := by simpa using c101))
            clear c101
            by_cases c109 : (t486 != t478) = true
            ·rw [if_pos c109] at H
             have c109b0 : (t486 != t478) = true := c109
             (try (have c109b1 : decide (t486 = t478) = false := by simpa using c109))
             (try (have c109b2 : (t486 == t478) = false := by simpa using c109))
             (try (have c109b3 : ¬ (t486 = t478) := by simpa using c109))
             clear c109
             obtain rfl := Option.some.inj H
             go_wp2_with (first | ((with_reducible refine gate_callee (f := 29) rfl ?_); refine goesL_ (some 154) rfl rfl Try.func29 (by kernel_rfl) rfl #[.slice A1 l1.length c1] rfl (by (try simp only [List.map_toArray, List.map_cons, List.map_nil]); first | done | rfl) ?_; (with_reducible refine (spec_DrawTriplesWith.calls k2 _ _ l1 t476 _ ?side1 ?side2 A80.out).mono ?_); (case side1 => repeat (first | exact (C_below HR1.out HB.out) | (with_reducible first | refine C_alloc ?_ _ | refine C_drewN ?_ _ | refine C_drew ?_))); (case side2 => exact HC1.out); rintro e w110 ⟨rfl, hb⟩; refine ⟨_, rfl, ?_⟩; have n0_ := Aside0.mk (N_below (by (with_reducible repeat (first | apply N_alloc | apply N_drewN | apply N_drew)); exact HO_6.out) hb); have n1_ := Aside0.mk (R_below (by (with_reducible repeat (first | apply R_alloc | apply R_drewN | apply R_drew)); exact HO_10.out) hb); have n2_ := Aside0.mk (N_below (by (with_reducible repeat (first | apply N_alloc | apply N_drewN | apply N_drew)); exact HO_82.out) hb); have n3_ := Aside0.mk (below_step (by repeat (first | (with_reducible first | exact HB.out | apply below_alloc | apply pw_below_drewN | apply below_drew1) | exact HB.out)) hb); clear HO_6; clear HO_10; clear HO_82; clear HB; have HO_6 := n0_; have HO_10 := n1_; have HO_82 := n2_; have HB := n3_; clear n0_ n1_ n2_ n3_; (try clear hb); (try clear hb2); (try clear hk); (try clear hi)) | ((with_reducible refine gate_callee (f := 21) rfl ?_); refine goesL_ (some 157) rfl rfl Try.func21 (by kernel_rfl) rfl #[.int .i64 t476] rfl (by (try simp only [List.map_toArray, List.map_cons, List.map_nil]); first | done | rfl) ?_; (with_reducible refine (impl_TriplesWith.calls k2 t476 t477 t478 _ A81.out).mono ?_); rintro e w111 ⟨v479, rfl, ho0, hb⟩; refine ⟨_, rfl, ?_⟩; have n0_ := Aside0.mk (N_elder' (by (with_reducible repeat (first | apply N_alloc | apply N_drewN | apply N_drew)); exact HO_6.out) (by first | exact N_base ho0 | exact S_base ho0) hb); have n1_ := Aside0.mk (R_below (by (with_reducible repeat (first | apply R_alloc | apply R_drewN | apply R_drew)); exact HO_10.out) hb); have n2_ := Aside0.mk (N_elder' (by (with_reducible repeat (first | apply N_alloc | apply N_drewN | apply N_drew)); exact HO_82.out) (by first | exact N_base ho0 | exact S_base ho0) hb); have n3_ := Aside0.mk (N_lower (N_mono (ok' := fun k_ => some k_ ≠ (.slice Ao35 t439.length co35 : Value).ownBlock ∧ some k_ ≠ (v449 : Value).ownBlock ∧ some k_ ≠ (.slice Ao35 t439.length co35 : Value).ownBlock) (S_N (S_bound ho0)) (fun k_ hk_ => ⟨(Kd.fresh' (N_lt (by (with_reducible repeat (first | apply N_alloc | apply N_drewN | apply N_drew)); exact HO_6.out)) k_ hk_.2.1), (Kd.fresh' (R_lt (by (with_reducible repeat (first | apply R_alloc | apply R_drewN | apply R_drew)); exact HO_10.out)) k_ hk_.2.1), (Kd.fresh' (N_lt (by (with_reducible repeat (first | apply N_alloc | apply N_drewN | apply N_drew)); exact HO_82.out)) k_ hk_.2.1)⟩)) (below_size (by repeat (first | (with_reducible first | exact HB.out | apply below_alloc | apply pw_below_drewN | apply below_drew1) | exact HB.out)))); have n4_ := Aside0.mk (below_step (by repeat (first | (with_reducible first | exact HB.out | apply below_alloc | apply pw_below_drewN | apply below_drew1) | exact HB.out)) hb); clear HO_6; clear HO_10; clear HO_82; clear HB; have HO_6 := n0_; have HO_10 := n1_; have HO_82 := n2_; have HO480 := n3_; have HB := n4_; clear n0_ n1_ n2_ n3_ n4_; (try clear hb); (try clear hb2); (try clear hk); (try clear hi); (try clear ho0)) | ((with_reducible refine gate_callee (f := 20) rfl ?_); refine goesL_ (some 162) rfl rfl Try.func20 (by kernel_rfl) rfl #[.int .i64 t476] rfl (by (try simp only [List.map_toArray, List.map_cons, List.map_nil]); first | done | rfl) ?_; (with_reducible refine (spec_TriplesWith.calls k2 t476 t481 t484 _ A82.out).mono ?_); rintro e w112 ⟨v482, rfl, ho0, hb⟩; refine ⟨_, rfl, ?_⟩; have n0_ := Aside0.mk (N_elder' (by (with_reducible repeat (first | apply N_alloc | apply N_drewN | apply N_drew)); exact HO_6.out) (by first | exact N_base ho0 | exact S_base ho0) hb); have n1_ := Aside0.mk (R_below (by (with_reducible repeat (first | apply R_alloc | apply R_drewN | apply R_drew)); exact HO_10.out) hb); have n2_ := Aside0.mk (N_elder' (by (with_reducible repeat (first | apply N_alloc | apply N_drewN | apply N_drew)); exact HO_82.out) (by first | exact N_base ho0 | exact S_base ho0) hb); have n3_ := Aside0.mk (N_elder' (by (with_reducible repeat (first | apply N_alloc | apply N_drewN | apply N_drew)); exact HO480.out) (by first | exact N_base ho0 | exact S_base ho0) hb); have n4_ := Aside0.mk (N_lower (N_mono (ok' := fun k_ => some k_ ≠ (.slice Ao35 t439.length co35 : Value).ownBlock ∧ some k_ ≠ (v449 : Value).ownBlock ∧ some k_ ≠ (.slice Ao35 t439.length co35 : Value).ownBlock ∧ some k_ ≠ (v479 : Value).ownBlock) ho0 (fun k_ hk_ => ⟨(Kd.fresh' (N_lt (by (with_reducible repeat (first | apply N_alloc | apply N_drewN | apply N_drew)); exact HO_6.out)) k_ hk_), (Kd.fresh' (R_lt (by (with_reducible repeat (first | apply R_alloc | apply R_drewN | apply R_drew)); exact HO_10.out)) k_ hk_), (Kd.fresh' (N_lt (by (with_reducible repeat (first | apply N_alloc | apply N_drewN | apply N_drew)); exact HO_82.out)) k_ hk_), (Kd.fresh' (N_lt (by (with_reducible repeat (first | apply N_alloc | apply N_drewN | apply N_drew)); exact HO480.out)) k_ hk_)⟩)) (below_size (by repeat (first | (with_reducible first | exact HB.out | apply below_alloc | apply pw_below_drewN | apply below_drew1) | exact HB.out)))); have n5_ := Aside0.mk (below_step (by repeat (first | (with_reducible first | exact HB.out | apply below_alloc | apply pw_below_drewN | apply below_drew1) | exact HB.out)) hb); clear HO_6; clear HO_10; clear HO_82; clear HO480; clear HB; have HO_6 := n0_; have HO_10 := n1_; have HO_82 := n2_; have HO480 := n3_; have HO483 := n4_; have HB := n5_; clear n0_ n1_ n2_ n3_ n4_ n5_; (try clear hb); (try clear hb2); (try clear hk); (try clear hi); (try clear ho0)) | ((with_reducible refine gate_callee (f := 9) rfl ?_); refine goesL_ (some 167) rfl rfl Try.func9 (by kernel_rfl) rfl #[.int .i64 t476] rfl (by (try simp only [List.map_toArray, List.map_cons, List.map_nil]); first | done | rfl) ?_; (with_reducible refine (impl_IsMarkovNumber.calls k2 t476 t485 t486 _ A83.out).mono ?_); rintro e w113 ⟨rfl, hb⟩; refine ⟨_, rfl, ?_⟩; have n0_ := Aside0.mk (N_below (by (with_reducible repeat (first | apply N_alloc | apply N_drewN | apply N_drew)); exact HO_6.out) hb); have n1_ := Aside0.mk (R_below (by (with_reducible repeat (first | apply R_alloc | apply R_drewN | apply R_drew)); exact HO_10.out) hb); have n2_ := Aside0.mk (N_below (by (with_reducible repeat (first | apply N_alloc | apply N_drewN | apply N_drew)); exact HO_82.out) hb); have n3_ := Aside0.mk (N_below (by (with_reducible repeat (first | apply N_alloc | apply N_drewN | apply N_drew)); exact HO480.out) hb); have n4_ := Aside0.mk (N_below (by (with_reducible repeat (first | apply N_alloc | apply N_drewN | apply N_drew)); exact HO483.out) hb); have n5_ := Aside0.mk (below_step (by repeat (first | (with_reducible first | exact HB.out | apply below_alloc | apply pw_below_drewN | apply below_drew1) | exact HB.out)) hb); clear HO_6; clear HO_10; clear HO_82; clear HO480; clear HO483; clear HB; have HO_6 := n0_; have HO_10 := n1_; have HO_82 := n2_; have HO480 := n3_; have HO483 := n4_; have HB := n5_; clear n0_ n1_ n2_ n3_ n4_ n5_; (try clear hb); (try clear hb2); (try clear hk); (try clear hi)) | ((with_reducible refine gate_callee (f := 8) rfl ?_); refine goesL_ (some 172) rfl rfl Try.func8 (by kernel_rfl) rfl #[.int .i64 t476] rfl (by (try simp only [List.map_toArray, List.map_cons, List.map_nil]); first | done | rfl) ?_; (with_reducible refine (spec_IsMarkovNumber.calls k2 t476 t487 t488 _ A84.out).mono ?_); rintro e w114 ⟨rfl, hb⟩; refine ⟨_, rfl, ?_⟩; have n0_ := Aside0.mk (N_below (by (with_reducible repeat (first | apply N_alloc | apply N_drewN | apply N_drew)); exact HO_6.out) hb); have n1_ := Aside0.mk (R_below (by (with_reducible repeat (first | apply R_alloc | apply R_drewN | apply R_drew)); exact HO_10.out) hb); have n2_ := Aside0.mk (N_below (by (with_reducible repeat (first | apply N_alloc | apply N_drewN | apply N_drew)); exact HO_82.out) hb); have n3_ := Aside0.mk (N_below (by (with_reducible repeat (first | apply N_alloc | apply N_drewN | apply N_drew)); exact HO480.out) hb); have n4_ := Aside0.mk (N_below (by (with_reducible repeat (first | apply N_alloc | apply N_drewN | apply N_drew)); exact HO483.out) hb); have n5_ := Aside0.mk (below_step (by repeat (first | (with_reducible first | exact HB.out | apply below_alloc | apply pw_below_drewN | apply below_drew1) | exact HB.out)) hb); clear HO_6; clear HO_10; clear HO_82; clear HO480; clear HO483; clear HB; have HO_6 := n0_; have HO_10 := n1_; have HO_82 := n2_; have HO480 := n3_; have HO483 := n4_; have HB := n5_; clear n0_ n1_ n2_ n3_ n4_ n5_; (try clear hb); (try clear hb2); (try clear hk); (try clear hi); obtain ⟨Ao115, co115, eo115⟩ := N_slice HO480.out; subst eo115; obtain ⟨Ao116, co116, eo116⟩ := N_slice HO483.out; subst eo116) | (go_at_call 24; (with_reducible refine (laws_dLists.calls k2 _ _ t477 _ _ t481 true _ ?side1 ?side2 ?side3 ?side4 A91.out).mono ?_); (case side1 => repeat (first | exact (N_reads' HO480.out).2.2 | (with_reducible first | refine C_alloc ?_ _ | refine C_drewN ?_ _ | refine C_drew ?_))); (case side2 => exact (N_reads' HO480.out).2.1); (case side3 => repeat (first | exact (N_reads' HO483.out).2.2 | (with_reducible first | refine C_alloc ?_ _ | refine C_drewN ?_ _ | refine C_drew ?_))); (case side4 => exact (N_reads' HO483.out).2.1); rintro e w' ⟨rfl, ⟨nd, rfl⟩⟩))
             go_ret
             exact ⟨by first | rfl | (simp [*] <;> rfl), by repeat (first | (with_reducible first | exact HB.out | apply below_alloc | apply pw_below_drewN | apply below_drew1) | exact HB.out)⟩
            ·as_aux_lemma =>
             rw [if_neg c109] at H
             have c109b0 : (t486 != t478) = false := by simpa using c109
             (try (have c109b1 : decide (t486 = t478) = true := by simpa using c109))
             (try (have c109b2 : (t486 == t478) = true := by simpa using c109))
             clear c109
             by_cases c117 : (t485 != (decide ((t477.length : Int) > 0))) = true
             ·rw [if_pos c117] at H
              have c117b0 : (t485 != (decide ((t477.length : Int) > 0))) = true := c117
              have c117b7 : (!(t485 == decide (0 < t477.length))) = true := by (have h_ := c117b0; have e_ : decide ((t477.length : Int) > 0) = decide (0 < t477.length) := by simp); rw [e_] at h_; revert h_; generalize decide (0 < t477.length) = b_; cases t485 <;> cases b_ <;> decide
              (try (have c117b1 : decide (t485 = (decide ((t477.length : Int) > 0))) = false := by simpa using c117))
              (try (have c117b2 : (t485 == (decide ((t477.length : Int) > 0))) = false := by simpa using c117))
              (try (have c117b3 : ¬ (t485 = (decide ((t477.length : Int) > 0))) := by simpa using c117))
              clear c117
              obtain rfl := Option.some.inj H
              go_wp2_with (first | ((with_reducible refine gate_callee (f := 29) rfl ?_); refine goesL_ (some 154) rfl rfl Try.func29 (by kernel_rfl) rfl #[.slice A1 l1.length c1] rfl (by (try simp only [List.map_toArray, List.map_cons, List.map_nil]); first | done | rfl) ?_; (with_reducible refine (spec_DrawTriplesWith.calls k2 _ _ l1 t476 _ ?side1 ?side2 A80.out).mono ?_); (case side1 => repeat (first | exact (C_below HR1.out HB.out) | (with_reducible first | refine C_alloc ?_ _ | refine C_drewN ?_ _ | refine C_drew ?_))); (case side2 => exact HC1.out); rintro e w118 ⟨rfl, hb⟩; refine ⟨_, rfl, ?_⟩; have n0_ := Aside0.mk (N_below (by (with_reducible repeat (first | apply N_alloc | apply N_drewN | apply N_drew)); exact HO_6.out) hb); have n1_ := Aside0.mk (R_below (by (with_reducible repeat (first | apply R_alloc | apply R_drewN | apply R_drew)); exact HO_10.out) hb); have n2_ := Aside0.mk (N_below (by (with_reducible repeat (first | apply N_alloc | apply N_drewN | apply N_drew)); exact HO_82.out) hb); have n3_ := Aside0.mk (below_step (by repeat (first | (with_reducible first | exact HB.out | apply below_alloc | apply pw_below_drewN | apply below_drew1) | exact HB.out)) hb); clear HO_6; clear HO_10; clear HO_82; clear HB; have HO_6 := n0_; have HO_10 := n1_; have HO_82 := n2_; have HB := n3_; clear n0_ n1_ n2_ n3_; (try clear hb); (try clear hb2); (try clear hk); (try clear hi)) | ((with_reducible refine gate_callee (f := 21) rfl ?_); refine goesL_ (some 157) rfl rfl Try.func21 (by kernel_rfl) rfl #[.int .i64 t476] rfl (by (try simp only [List.map_toArray, List.map_cons, List.map_nil]); first | done | rfl) ?_; (with_reducible refine (impl_TriplesWith.calls k2 t476 t477 t478 _ A81.out).mono ?_); rintro e w119 ⟨v479, rfl, ho0, hb⟩; refine ⟨_, rfl, ?_⟩; have n0_ := Aside0.mk (N_elder' (by (with_reducible repeat (first | apply N_alloc | apply N_drewN | apply N_drew)); exact HO_6.out) (by first | exact N_base ho0 | exact S_base ho0) hb); have n1_ := Aside0.mk (R_below (by (with_reducible repeat (first | apply R_alloc | apply R_drewN | apply R_drew)); exact HO_10.out) hb); have n2_ := Aside0.mk (N_elder' (by (with_reducible repeat (first | apply N_alloc | apply N_drewN | apply N_drew)); exact HO_82.out) (by first | exact N_base ho0 | exact S_base ho0) hb); have n3_ := Aside0.mk (N_lower (N_mono (ok' := fun k_ => some k_ ≠ (.slice Ao35 t439.length co35 : Value).ownBlock ∧ some k_ ≠ (v449 : Value).ownBlock ∧ some k_ ≠ (.slice Ao35 t439.length co35 : Value).ownBlock) (S_N (S_bound ho0)) (fun k_ hk_ => ⟨(Kd.fresh' (N_lt (by (with_reducible repeat (first | apply N_alloc | apply N_drewN | apply N_drew)); exact HO_6.out)) k_ hk_.2.1), (Kd.fresh' (R_lt (by (with_reducible repeat (first | apply R_alloc | apply R_drewN | apply R_drew)); exact HO_10.out)) k_ hk_.2.1), (Kd.fresh' (N_lt (by (with_reducible repeat (first | apply N_alloc | apply N_drewN | apply N_drew)); exact HO_82.out)) k_ hk_.2.1)⟩)) (below_size (by repeat (first | (with_reducible first | exact HB.out | apply below_alloc | apply pw_below_drewN | apply below_drew1) | exact HB.out)))); have n4_ := Aside0.mk (below_step (by repeat (first | (with_reducible first | exact HB.out | apply below_alloc | apply pw_below_drewN | apply below_drew1) | exact HB.out)) hb); clear HO_6; clear HO_10; clear HO_82; clear HB; have HO_6 := n0_; have HO_10 := n1_; have HO_82 := n2_; have HO480 := n3_; have HB := n4_; clear n0_ n1_ n2_ n3_ n4_; (try clear hb); (try clear hb2); (try clear hk); (try clear hi); (try clear ho0)) | ((with_reducible refine gate_callee (f := 20) rfl ?_); refine goesL_ (some 162) rfl rfl Try.func20 (by kernel_rfl) rfl #[.int .i64 t476] rfl (by (try simp only [List.map_toArray, List.map_cons, List.map_nil]); first | done | rfl) ?_; (with_reducible refine (spec_TriplesWith.calls k2 t476 t481 t484 _ A82.out).mono ?_); rintro e w120 ⟨v482, rfl, ho0, hb⟩; refine ⟨_, rfl, ?_⟩; have n0_ := Aside0.mk (N_elder' (by (with_reducible repeat (first | apply N_alloc | apply N_drewN | apply N_drew)); exact HO_6.out) (by first | exact N_base ho0 | exact S_base ho0) hb); have n1_ := Aside0.mk (R_below (by (with_reducible repeat (first | apply R_alloc | apply R_drewN | apply R_drew)); exact HO_10.out) hb); have n2_ := Aside0.mk (N_elder' (by (with_reducible repeat (first | apply N_alloc | apply N_drewN | apply N_drew)); exact HO_82.out) (by first | exact N_base ho0 | exact S_base ho0) hb); have n3_ := Aside0.mk (N_elder' (by (with_reducible repeat (first | apply N_alloc | apply N_drewN | apply N_drew)); exact HO480.out) (by first | exact N_base ho0 | exact S_base ho0) hb); have n4_ := Aside0.mk (N_lower (N_mono (ok' := fun k_ => some k_ ≠ (.slice Ao35 t439.length co35 : Value).ownBlock ∧ some k_ ≠ (v449 : Value).ownBlock ∧ some k_ ≠ (.slice Ao35 t439.length co35 : Value).ownBlock ∧ some k_ ≠ (v479 : Value).ownBlock) ho0 (fun k_ hk_ => ⟨(Kd.fresh' (N_lt (by (with_reducible repeat (first | apply N_alloc | apply N_drewN | apply N_drew)); exact HO_6.out)) k_ hk_), (Kd.fresh' (R_lt (by (with_reducible repeat (first | apply R_alloc | apply R_drewN | apply R_drew)); exact HO_10.out)) k_ hk_), (Kd.fresh' (N_lt (by (with_reducible repeat (first | apply N_alloc | apply N_drewN | apply N_drew)); exact HO_82.out)) k_ hk_), (Kd.fresh' (N_lt (by (with_reducible repeat (first | apply N_alloc | apply N_drewN | apply N_drew)); exact HO480.out)) k_ hk_)⟩)) (below_size (by repeat (first | (with_reducible first | exact HB.out | apply below_alloc | apply pw_below_drewN | apply below_drew1) | exact HB.out)))); have n5_ := Aside0.mk (below_step (by repeat (first | (with_reducible first | exact HB.out | apply below_alloc | apply pw_below_drewN | apply below_drew1) | exact HB.out)) hb); clear HO_6; clear HO_10; clear HO_82; clear HO480; clear HB; have HO_6 := n0_; have HO_10 := n1_; have HO_82 := n2_; have HO480 := n3_; have HO483 := n4_; have HB := n5_; clear n0_ n1_ n2_ n3_ n4_ n5_; (try clear hb); (try clear hb2); (try clear hk); (try clear hi); (try clear ho0)) | ((with_reducible refine gate_callee (f := 9) rfl ?_); refine goesL_ (some 167) rfl rfl Try.func9 (by kernel_rfl) rfl #[.int .i64 t476] rfl (by (try simp only [List.map_toArray, List.map_cons, List.map_nil]); first | done | rfl) ?_; (with_reducible refine (impl_IsMarkovNumber.calls k2 t476 t485 t486 _ A83.out).mono ?_); rintro e w121 ⟨rfl, hb⟩; refine ⟨_, rfl, ?_⟩; have n0_ := Aside0.mk (N_below (by (with_reducible repeat (first | apply N_alloc | apply N_drewN | apply N_drew)); exact HO_6.out) hb); have n1_ := Aside0.mk (R_below (by (with_reducible repeat (first | apply R_alloc | apply R_drewN | apply R_drew)); exact HO_10.out) hb); have n2_ := Aside0.mk (N_below (by (with_reducible repeat (first | apply N_alloc | apply N_drewN | apply N_drew)); exact HO_82.out) hb); have n3_ := Aside0.mk (N_below (by (with_reducible repeat (first | apply N_alloc | apply N_drewN | apply N_drew)); exact HO480.out) hb); have n4_ := Aside0.mk (N_below (by (with_reducible repeat (first | apply N_alloc | apply N_drewN | apply N_drew)); exact HO483.out) hb); have n5_ := Aside0.mk (below_step (by repeat (first | (with_reducible first | exact HB.out | apply below_alloc | apply pw_below_drewN | apply below_drew1) | exact HB.out)) hb); clear HO_6; clear HO_10; clear HO_82; clear HO480; clear HO483; clear HB; have HO_6 := n0_; have HO_10 := n1_; have HO_82 := n2_; have HO480 := n3_; have HO483 := n4_; have HB := n5_; clear n0_ n1_ n2_ n3_ n4_ n5_; (try clear hb); (try clear hb2); (try clear hk); (try clear hi)) | ((with_reducible refine gate_callee (f := 8) rfl ?_); refine goesL_ (some 172) rfl rfl Try.func8 (by kernel_rfl) rfl #[.int .i64 t476] rfl (by (try simp only [List.map_toArray, List.map_cons, List.map_nil]); first | done | rfl) ?_; (with_reducible refine (spec_IsMarkovNumber.calls k2 t476 t487 t488 _ A84.out).mono ?_); rintro e w122 ⟨rfl, hb⟩; refine ⟨_, rfl, ?_⟩; have n0_ := Aside0.mk (N_below (by (with_reducible repeat (first | apply N_alloc | apply N_drewN | apply N_drew)); exact HO_6.out) hb); have n1_ := Aside0.mk (R_below (by (with_reducible repeat (first | apply R_alloc | apply R_drewN | apply R_drew)); exact HO_10.out) hb); have n2_ := Aside0.mk (N_below (by (with_reducible repeat (first | apply N_alloc | apply N_drewN | apply N_drew)); exact HO_82.out) hb); have n3_ := Aside0.mk (N_below (by (with_reducible repeat (first | apply N_alloc | apply N_drewN | apply N_drew)); exact HO480.out) hb); have n4_ := Aside0.mk (N_below (by (with_reducible repeat (first | apply N_alloc | apply N_drewN | apply N_drew)); exact HO483.out) hb); have n5_ := Aside0.mk (below_step (by repeat (first | (with_reducible first | exact HB.out | apply below_alloc | apply pw_below_drewN | apply below_drew1) | exact HB.out)) hb); clear HO_6; clear HO_10; clear HO_82; clear HO480; clear HO483; clear HB; have HO_6 := n0_; have HO_10 := n1_; have HO_82 := n2_; have HO480 := n3_; have HO483 := n4_; have HB := n5_; clear n0_ n1_ n2_ n3_ n4_ n5_; (try clear hb); (try clear hb2); (try clear hk); (try clear hi); obtain ⟨Ao123, co123, eo123⟩ := N_slice HO480.out; subst eo123; obtain ⟨Ao124, co124, eo124⟩ := N_slice HO483.out; subst eo124) | (go_at_call 24; (with_reducible refine (laws_dLists.calls k2 _ _ t477 _ _ t481 true _ ?side1 ?side2 ?side3 ?side4 A91.out).mono ?_); (case side1 => repeat (first | exact (N_reads' HO480.out).2.2 | (with_reducible first | refine C_alloc ?_ _ | refine C_drewN ?_ _ | refine C_drew ?_))); (case side2 => exact (N_reads' HO480.out).2.1); (case side3 => repeat (first | exact (N_reads' HO483.out).2.2 | (with_reducible first | refine C_alloc ?_ _ | refine C_drewN ?_ _ | refine C_drew ?_))); (case side4 => exact (N_reads' HO483.out).2.1); rintro e w' ⟨rfl, ⟨nd, rfl⟩⟩))
              try any_goals (refine absurd (Eq.trans (b := (!(t485 == decide (0 < t477.length)))) (c117b7.symm) (?h_ : _ = false)) (by decide); assumption)
              go_ret
              exact ⟨by first | rfl | (simp [*] <;> rfl), by repeat (first | (with_reducible first | exact HB.out | apply below_alloc | apply pw_below_drewN | apply below_drew1) | exact HB.out)⟩
             ·as_aux_lemma =>
              rw [if_neg c117] at H
              have c117b0 : (t485 != (decide ((t477.length : Int) > 0))) = false := by simpa using c117
              have c117b7 : (!(t485 == decide (0 < t477.length))) = false := by (have h_ := c117b0; have e_ : decide ((t477.length : Int) > 0) = decide (0 < t477.length) := by simp); rw [e_] at h_; revert h_; generalize decide (0 < t477.length) = b_; cases t485 <;> cases b_ <;> decide
              (try (have c117b1 : decide (t485 = (decide ((t477.length : Int) > 0))) = true := by simpa using c117))
              (try (have c117b2 : (t485 == (decide ((t477.length : Int) > 0))) = true := by simpa using c117))
              clear c117
              have H' := Aside0.mk H
              clear H
              go_wp2_with (first | ((with_reducible refine gate_callee (f := 29) rfl ?_); refine goesL_ (some 154) rfl rfl Try.func29 (by kernel_rfl) rfl #[.slice A1 l1.length c1] rfl (by (try simp only [List.map_toArray, List.map_cons, List.map_nil]); first | done | rfl) ?_; (with_reducible refine (spec_DrawTriplesWith.calls k2 _ _ l1 t476 _ ?side1 ?side2 A80.out).mono ?_); (case side1 => repeat (first | exact (C_below HR1.out HB.out) | (with_reducible first | refine C_alloc ?_ _ | refine C_drewN ?_ _ | refine C_drew ?_))); (case side2 => exact HC1.out); rintro e w125 ⟨rfl, hb⟩; refine ⟨_, rfl, ?_⟩; have n0_ := Aside0.mk (N_below (by (with_reducible repeat (first | apply N_alloc | apply N_drewN | apply N_drew)); exact HO_6.out) hb); have n1_ := Aside0.mk (R_below (by (with_reducible repeat (first | apply R_alloc | apply R_drewN | apply R_drew)); exact HO_10.out) hb); have n2_ := Aside0.mk (N_below (by (with_reducible repeat (first | apply N_alloc | apply N_drewN | apply N_drew)); exact HO_82.out) hb); have n3_ := Aside0.mk (below_step (by repeat (first | (with_reducible first | exact HB.out | apply below_alloc | apply pw_below_drewN | apply below_drew1) | exact HB.out)) hb); clear HO_6; clear HO_10; clear HO_82; clear HB; have HO_6 := n0_; have HO_10 := n1_; have HO_82 := n2_; have HB := n3_; clear n0_ n1_ n2_ n3_; (try clear hb); (try clear hb2); (try clear hk); (try clear hi)) | ((with_reducible refine gate_callee (f := 21) rfl ?_); refine goesL_ (some 157) rfl rfl Try.func21 (by kernel_rfl) rfl #[.int .i64 t476] rfl (by (try simp only [List.map_toArray, List.map_cons, List.map_nil]); first | done | rfl) ?_; (with_reducible refine (impl_TriplesWith.calls k2 t476 t477 t478 _ A81.out).mono ?_); rintro e w126 ⟨v479, rfl, ho0, hb⟩; refine ⟨_, rfl, ?_⟩; have n0_ := Aside0.mk (N_elder' (by (with_reducible repeat (first | apply N_alloc | apply N_drewN | apply N_drew)); exact HO_6.out) (by first | exact N_base ho0 | exact S_base ho0) hb); have n1_ := Aside0.mk (R_below (by (with_reducible repeat (first | apply R_alloc | apply R_drewN | apply R_drew)); exact HO_10.out) hb); have n2_ := Aside0.mk (N_elder' (by (with_reducible repeat (first | apply N_alloc | apply N_drewN | apply N_drew)); exact HO_82.out) (by first | exact N_base ho0 | exact S_base ho0) hb); have n3_ := Aside0.mk (N_lower (N_mono (ok' := fun k_ => some k_ ≠ (.slice Ao35 t439.length co35 : Value).ownBlock ∧ some k_ ≠ (v449 : Value).ownBlock ∧ some k_ ≠ (.slice Ao35 t439.length co35 : Value).ownBlock) (S_N (S_bound ho0)) (fun k_ hk_ => ⟨(Kd.fresh' (N_lt (by (with_reducible repeat (first | apply N_alloc | apply N_drewN | apply N_drew)); exact HO_6.out)) k_ hk_.2.1), (Kd.fresh' (R_lt (by (with_reducible repeat (first | apply R_alloc | apply R_drewN | apply R_drew)); exact HO_10.out)) k_ hk_.2.1), (Kd.fresh' (N_lt (by (with_reducible repeat (first | apply N_alloc | apply N_drewN | apply N_drew)); exact HO_82.out)) k_ hk_.2.1)⟩)) (below_size (by repeat (first | (with_reducible first | exact HB.out | apply below_alloc | apply pw_below_drewN | apply below_drew1) | exact HB.out)))); have n4_ := Aside0.mk (below_step (by repeat (first | (with_reducible first | exact HB.out | apply below_alloc | apply pw_below_drewN | apply below_drew1) | exact HB.out)) hb); clear HO_6; clear HO_10; clear HO_82; clear HB; have HO_6 := n0_; have HO_10 := n1_; have HO_82 := n2_; have HO480 := n3_; have HB := n4_; clear n0_ n1_ n2_ n3_ n4_; (try clear hb); (try clear hb2); (try clear hk); (try clear hi); (try clear ho0)) | ((with_reducible refine gate_callee (f := 20) rfl ?_); refine goesL_ (some 162) rfl rfl Try.func20 (by kernel_rfl) rfl #[.int .i64 t476] rfl (by (try simp only [List.map_toArray, List.map_cons, List.map_nil]); first | done | rfl) ?_; (with_reducible refine (spec_TriplesWith.calls k2 t476 t481 t484 _ A82.out).mono ?_); rintro e w127 ⟨v482, rfl, ho0, hb⟩; refine ⟨_, rfl, ?_⟩; have n0_ := Aside0.mk (N_elder' (by (with_reducible repeat (first | apply N_alloc | apply N_drewN | apply N_drew)); exact HO_6.out) (by first | exact N_base ho0 | exact S_base ho0) hb); have n1_ := Aside0.mk (R_below (by (with_reducible repeat (first | apply R_alloc | apply R_drewN | apply R_drew)); exact HO_10.out) hb); have n2_ := Aside0.mk (N_elder' (by (with_reducible repeat (first | apply N_alloc | apply N_drewN | apply N_drew)); exact HO_82.out) (by first | exact N_base ho0 | exact S_base ho0) hb); have n3_ := Aside0.mk (N_elder' (by (with_reducible repeat (first | apply N_alloc | apply N_drewN | apply N_drew)); exact HO480.out) (by first | exact N_base ho0 | exact S_base ho0) hb); have n4_ := Aside0.mk (N_lower (N_mono (ok' := fun k_ => some k_ ≠ (.slice Ao35 t439.length co35 : Value).ownBlock ∧ some k_ ≠ (v449 : Value).ownBlock ∧ some k_ ≠ (.slice Ao35 t439.length co35 : Value).ownBlock ∧ some k_ ≠ (v479 : Value).ownBlock) ho0 (fun k_ hk_ => ⟨(Kd.fresh' (N_lt (by (with_reducible repeat (first | apply N_alloc | apply N_drewN | apply N_drew)); exact HO_6.out)) k_ hk_), (Kd.fresh' (R_lt (by (with_reducible repeat (first | apply R_alloc | apply R_drewN | apply R_drew)); exact HO_10.out)) k_ hk_), (Kd.fresh' (N_lt (by (with_reducible repeat (first | apply N_alloc | apply N_drewN | apply N_drew)); exact HO_82.out)) k_ hk_), (Kd.fresh' (N_lt (by (with_reducible repeat (first | apply N_alloc | apply N_drewN | apply N_drew)); exact HO480.out)) k_ hk_)⟩)) (below_size (by repeat (first | (with_reducible first | exact HB.out | apply below_alloc | apply pw_below_drewN | apply below_drew1) | exact HB.out)))); have n5_ := Aside0.mk (below_step (by repeat (first | (with_reducible first | exact HB.out | apply below_alloc | apply pw_below_drewN | apply below_drew1) | exact HB.out)) hb); clear HO_6; clear HO_10; clear HO_82; clear HO480; clear HB; have HO_6 := n0_; have HO_10 := n1_; have HO_82 := n2_; have HO480 := n3_; have HO483 := n4_; have HB := n5_; clear n0_ n1_ n2_ n3_ n4_ n5_; (try clear hb); (try clear hb2); (try clear hk); (try clear hi); (try clear ho0)) | ((with_reducible refine gate_callee (f := 9) rfl ?_); refine goesL_ (some 167) rfl rfl Try.func9 (by kernel_rfl) rfl #[.int .i64 t476] rfl (by (try simp only [List.map_toArray, List.map_cons, List.map_nil]); first | done | rfl) ?_; (with_reducible refine (impl_IsMarkovNumber.calls k2 t476 t485 t486 _ A83.out).mono ?_); rintro e w128 ⟨rfl, hb⟩; refine ⟨_, rfl, ?_⟩; have n0_ := Aside0.mk (N_below (by (with_reducible repeat (first | apply N_alloc | apply N_drewN | apply N_drew)); exact HO_6.out) hb); have n1_ := Aside0.mk (R_below (by (with_reducible repeat (first | apply R_alloc | apply R_drewN | apply R_drew)); exact HO_10.out) hb); have n2_ := Aside0.mk (N_below (by (with_reducible repeat (first | apply N_alloc | apply N_drewN | apply N_drew)); exact HO_82.out) hb); have n3_ := Aside0.mk (N_below (by (with_reducible repeat (first | apply N_alloc | apply N_drewN | apply N_drew)); exact HO480.out) hb); have n4_ := Aside0.mk (N_below (by (with_reducible repeat (first | apply N_alloc | apply N_drewN | apply N_drew)); exact HO483.out) hb); have n5_ := Aside0.mk (below_step (by repeat (first | (with_reducible first | exact HB.out | apply below_alloc | apply pw_below_drewN | apply below_drew1) | exact HB.out)) hb); clear HO_6; clear HO_10; clear HO_82; clear HO480; clear HO483; clear HB; have HO_6 := n0_; have HO_10 := n1_; have HO_82 := n2_; have HO480 := n3_; have HO483 := n4_; have HB := n5_; clear n0_ n1_ n2_ n3_ n4_ n5_; (try clear hb); (try clear hb2); (try clear hk); (try clear hi)) | ((with_reducible refine gate_callee (f := 8) rfl ?_); refine goesL_ (some 172) rfl rfl Try.func8 (by kernel_rfl) rfl #[.int .i64 t476] rfl (by (try simp only [List.map_toArray, List.map_cons, List.map_nil]); first | done | rfl) ?_; (with_reducible refine (spec_IsMarkovNumber.calls k2 t476 t487 t488 _ A84.out).mono ?_); rintro e w129 ⟨rfl, hb⟩; refine ⟨_, rfl, ?_⟩; have n0_ := Aside0.mk (N_below (by (with_reducible repeat (first | apply N_alloc | apply N_drewN | apply N_drew)); exact HO_6.out) hb); have n1_ := Aside0.mk (R_below (by (with_reducible repeat (first | apply R_alloc | apply R_drewN | apply R_drew)); exact HO_10.out) hb); have n2_ := Aside0.mk (N_below (by (with_reducible repeat (first | apply N_alloc | apply N_drewN | apply N_drew)); exact HO_82.out) hb); have n3_ := Aside0.mk (N_below (by (with_reducible repeat (first | apply N_alloc | apply N_drewN | apply N_drew)); exact HO480.out) hb); have n4_ := Aside0.mk (N_below (by (with_reducible repeat (first | apply N_alloc | apply N_drewN | apply N_drew)); exact HO483.out) hb); have n5_ := Aside0.mk (below_step (by repeat (first | (with_reducible first | exact HB.out | apply below_alloc | apply pw_below_drewN | apply below_drew1) | exact HB.out)) hb); clear HO_6; clear HO_10; clear HO_82; clear HO480; clear HO483; clear HB; have HO_6 := n0_; have HO_10 := n1_; have HO_82 := n2_; have HO480 := n3_; have HO483 := n4_; have HB := n5_; clear n0_ n1_ n2_ n3_ n4_ n5_; (try clear hb); (try clear hb2); (try clear hk); (try clear hi); obtain ⟨Ao130, co130, eo130⟩ := N_slice HO480.out; subst eo130; obtain ⟨Ao131, co131, eo131⟩ := N_slice HO483.out; subst eo131) | (go_at_call 24; (with_reducible refine (laws_dLists.calls k2 _ _ t477 _ _ t481 true _ ?side1 ?side2 ?side3 ?side4 A91.out).mono ?_); (case side1 => repeat (first | exact (N_reads' HO480.out).2.2 | (with_reducible first | refine C_alloc ?_ _ | refine C_drewN ?_ _ | refine C_drew ?_))); (case side2 => exact (N_reads' HO480.out).2.1); (case side3 => repeat (first | exact (N_reads' HO483.out).2.2 | (with_reducible first | refine C_alloc ?_ _ | refine C_drewN ?_ _ | refine C_drew ?_))); (case side4 => exact (N_reads' HO483.out).2.1); rintro e w' ⟨rfl, ⟨nd, rfl⟩⟩))
              try any_goals (refine absurd (Eq.trans (b := (!(t485 == decide (0 < t477.length)))) (c117b7.symm) (?h_ : _ = true)) (by decide); assumption)
              go_loopg [208] k2 (fun kq v208 w' => ∃ (x208_3 : Int), v208 = .int .i64 x208_3 ∧ Aside0 (laws_FnMarkovLists.l2 kq t476 t477 (t477.length : Int) x208_3 = some r) ∧ Aside0 (kq ≤ k2) ∧ Aside0 (Kd.N (Kd.slice 3 (Kd.int .i64)) 30 w' w.heap.size (fun _ => True) (.slice Ao130 t477.length co130) t477) ∧ Aside0 (Below w.heap.size w w'))
              case atStart => exact ⟨(0), (by first | rfl | (simp; done) | (simp [*]; done)), H', ⟨Nat.le_refl _⟩, ⟨by (with_reducible repeat (first | apply N_alloc | apply N_drewN | apply N_drew)); exact N_mono HO480.out (fun _ hk => trivial)⟩, ⟨by repeat (first | (with_reducible first | exact HB.out | apply below_alloc | apply pw_below_drewN | apply below_drew1) | exact HB.out)⟩⟩
              case round => as_aux_lemma =>
               clear H'
               (try clear c1); (try clear c2); (try clear p2); (try clear c3); (try clear c4); (try clear p4); (try clear q4); (try clear hx4); (try clear c8); (try clear c9); (try clear c10); (try clear c11); (try clear c20); (try clear c21); (try clear c26); (try clear c27); (try clear c29); (try clear c36); (try clear c36b0); (try clear c37); (try clear c38); (try clear c40); (try clear c41); (try clear c45); (try clear p45); (try clear q45); (try clear hx45); (try clear c85); (try clear c85b0); (try clear c85b1); (try clear c85b2); (try clear c92); (try clear c93); (try clear c93b0); (try clear c93b1); (try clear c93b2); (try clear c101); (try clear c101b0); (try clear c101b1); (try clear c101b2); (try clear c109); (try clear c109b0); (try clear c109b1); (try clear c109b2); (try clear c117); (try clear c117b0); (try clear c117b1); (try clear c117b2); (try clear hx457_0); (try clear p457); (try clear q457)
               obtain ⟨x208_3, rfl, HA, HK3, HO_206, HB⟩ := hrel
               cases gk with
               | zero => exact absurd HA.out (by simp [laws_FnMarkovLists.l2])
               | succ k3 =>
                have H := HA.out; clear HA
                simp only [laws_FnMarkovLists.l2] at H
                by_cases c132 : x208_3 < (t477.length : Int)
                ·as_aux_lemma =>
                 rw [if_pos c132] at H
                 have c132b0 : decide (x208_3 < (t477.length : Int)) = true := decide_eq_true c132
                 clear c132
                 by_cases c133 : 0 ≤ x208_3
                 rotate_left
                 ·rw [if_neg c133] at H
                  exact absurd H (by simp)
                 as_aux_lemma =>
                 rw [if_pos c133] at H
                 have c133b0 : decide (0 ≤ x208_3) = true := decide_eq_true c133
                 clear c133
                 by_cases c134 : x208_3 < (t477.length : Int)
                 rotate_left
                 ·rw [if_neg c134] at H
                  exact absurd H (by simp)
                 as_aux_lemma =>
                 rw [if_pos c134] at H
                 have c134b0 : decide (x208_3 < (t477.length : Int)) = true := decide_eq_true c134
                 clear c134
                 replace H := Option.bind_eq_some_iff.mp H
                 obtain ⟨t491, A1350, H⟩ := H
                 replace H : (if t491 = true then (if 2 < ((rd_L1 t477 x208_3).length : Int) then (if (rd (rd_L1 t477 x208_3) 2) = t476 then (laws_FnMarkovLists.l2 k3 t476 t477 (t477.length : Int) (wrap64 (x208_3 + 1))) else (some false)) else (none)) else (some false)) = some r := H
                 have A135 := Aside0.mk A1350
                 clear A1350
                 by_cases c136 : t491 = true
                 ·as_aux_lemma =>
                  subst c136
                  have H1 : (if 2 < ((rd_L1 t477 x208_3).length : Int) then (if (rd (rd_L1 t477 x208_3) 2) = t476 then (laws_FnMarkovLists.l2 k3 t476 t477 (t477.length : Int) (wrap64 (x208_3 + 1))) else (some false)) else (none)) = some r := by rw [if_pos rfl] at H; exact H
                  clear H; have H := H1; clear H1
                  by_cases c137 : 2 < ((rd_L1 t477 x208_3).length : Int)
                  rotate_left
                  ·rw [if_neg c137] at H
                   exact absurd H (by simp)
                  as_aux_lemma =>
                  rw [if_pos c137] at H
                  have c137b0 : decide (2 < ((rd_L1 t477 x208_3).length : Int)) = true := decide_eq_true c137
                  have c137b1 : decide (2 < (rd_L1 t477 x208_3).length) = true := decide_eq_true (by omega)
                  clear c137
                  by_cases c138 : (rd (rd_L1 t477 x208_3) 2) = t476
                  ·as_aux_lemma =>
                   rw [if_pos c138] at H
                   have c138b0 : ((rd (rd_L1 t477 x208_3) 2) == t476) = true := beq_iff_eq.mpr c138
                   have c138b1 : ((rd (rd_L1 t477 x208_3) 2) != t476) = false := bne_eq_false_iff_eq.mpr c138
                   clear c138
                   have H' := Aside0.mk H
                   clear H
                   have p490 : 0 ≤ (x208_3 : Int) := of_decide_eq_true (by first | (with_reducible assumption) | assumption)
                   have q490 : x208_3 < (t477.length : Int) := of_decide_eq_true (by first | (with_reducible assumption) | assumption)
                   obtain ⟨ad490, A490_0, c490_0, e490, hx490_0, hl490_0, hi490_0⟩ := at_L1 (N_reads' HO_206.out).2.2 x208_3 p490 q490
                   cases e490
                   obtain ⟨ce490, hce490, hMe490, hcc490⟩ := N_get HO_206.out [] x208_3 p490 (by first | exact q490 | exact of_decide_eq_true (by first | (with_reducible assumption) | assumption) | (have e_ := (N_reads' HO_206.out).1; omega))
                   obtain ⟨ua490_0, uc490_0, rfl, ul490_0, ge490_0⟩ := Kd.FK_slice_open hMe490
                   have hv490_0 := hcc490 0 _ rfl
                   rw [Nat.add_zero, show ((Kd.slice 3 (Kd.int .i64))).sz = 1 from rfl, Nat.mul_one] at hv490_0
                   replace hv490_0 := Option.some.inj (hv490_0.symm.trans hx490_0)
                   injection hv490_0 with hva_ hvn_ hvc_
                   rw [hva_] at ge490_0
                   rw [hvc_] at ul490_0
                   have HL490_0 := Aside0.mk (show Kd.V (Kd.int .i64) 3 _ w.heap.size _ _ (rd_L1 t477 x208_3) from V_mk ul490_0 ge490_0)
                   clear hva_ hvn_ hvc_ ge490_0 ul490_0; clear hcc490 hce490
                   have HR490_0 := Aside0.mk hi490_0
                   have HC490_0 := Aside0.mk hl490_0
                   clear hi490_0 hl490_0; replace p490 := eq_true p490; replace q490 := eq_true q490
                   go_wp2_with (first | ((with_reducible refine gate_callee (f := 26) rfl ?_); refine goesL_ (some 213) rfl rfl Try.func26 (by kernel_rfl) rfl #[.slice A490_0 (rd_L1 t477 x208_3).length c490_0] rfl (by (try simp only [List.map_toArray, List.map_cons, List.map_nil]); first | done | rfl) ?_; (with_reducible refine (impl_IsMarkov.calls k3 _ _ (rd_L1 t477 x208_3) true _ ?side1 ?side2 A135.out).mono ?_); (case side1 => repeat (first | exact (by repeat (first | (with_reducible exact HR490_0.out) | (with_reducible first | refine C_alloc ?_ _ | refine C_drewN ?_ _ | refine C_drew ?_) | exact HR490_0.out)) | (with_reducible first | refine C_alloc ?_ _ | refine C_drewN ?_ _ | refine C_drew ?_))); (case side2 => exact HC490_0.out); rintro e w139 ⟨rfl, hb⟩; refine ⟨_, rfl, ?_⟩; have n0_ := Aside0.mk (N_below (by (with_reducible repeat (first | apply N_alloc | apply N_drewN | apply N_drew)); exact HO_206.out) hb); have n1_ := Aside0.mk (V_below (by (with_reducible repeat (first | apply V_alloc | apply V_drewN | apply V_drew)); exact HL490_0.out) hb); have n2_ := Aside0.mk (C_below (by repeat (first | (with_reducible exact HR490_0.out) | (with_reducible first | refine C_alloc ?_ _ | refine C_drewN ?_ _ | refine C_drew ?_) | exact HR490_0.out)) hb); have n3_ := Aside0.mk (below_step (by repeat (first | (with_reducible first | exact HB.out | apply below_alloc | apply pw_below_drewN | apply below_drew1) | exact HB.out)) hb); clear HO_206; clear HL490_0; clear HR490_0; clear HB; have HO_206 := n0_; have HL490_0 := n1_; have HR490_0 := n2_; have HB := n3_; clear n0_ n1_ n2_ n3_; (try clear hb); (try clear hb2); (try clear hk); (try clear hi); have p492 : 0 ≤ (2 : Int) := (by omega); have q492 : 2 < ((rd_L1 t477 x208_3).length : Int) := of_decide_eq_true (by first | (with_reducible assumption) | assumption); obtain ⟨ad492, e492, hx492_0⟩ := Kd.at_int (by repeat (first | (with_reducible exact HR490_0.out) | (with_reducible first | refine C_alloc ?_ _ | refine C_drewN ?_ _ | refine C_drew ?_) | exact HR490_0.out)) 2 p492 q492; cases e492; (try simp only [show (2 : Int).toNat = 2 from rfl, Nat.reduceMul, Nat.reduceEqDiff, Go.Addr.add, ↓reduceIte] at hx492_0); have qi492 : (2 < (rd_L1 t477 x208_3).length) = True := eq_true (by omega); (try rw [show ((2 : Int)).toNat = 2 from rfl] at hx492_0); replace p492 := eq_true p492; replace q492 := eq_true q492))
                   go_roundg k3
                   case measure => have := HJ9.out; have := HK2.out; have := HK3.out; omega
                   case rel => exact ⟨(wrap64 (x208_3 + 1)), (by first | rfl | (simp; done) | (simp [*]; done)), H', ⟨by have := HJ9.out; have := HK2.out; have := HK3.out; omega⟩, ⟨by (with_reducible repeat (first | apply N_alloc | apply N_drewN | apply N_drew)); exact HO_206.out⟩, ⟨by repeat (first | (with_reducible first | exact HB.out | apply below_alloc | apply pw_below_drewN | apply below_drew1) | exact HB.out)⟩⟩
                  ·as_aux_lemma =>
                   rw [if_neg c138] at H
                   have c138b0 : ((rd (rd_L1 t477 x208_3) 2) == t476) = false := beq_eq_false_iff_ne.mpr c138
                   have c138b1 : ((rd (rd_L1 t477 x208_3) 2) != t476) = true := bne_iff_ne.mpr c138
                   obtain rfl := Option.some.inj H
                   have p490 : 0 ≤ (x208_3 : Int) := of_decide_eq_true (by first | (with_reducible assumption) | assumption)
                   have q490 : x208_3 < (t477.length : Int) := of_decide_eq_true (by first | (with_reducible assumption) | assumption)
                   obtain ⟨ad490, A490_0, c490_0, e490, hx490_0, hl490_0, hi490_0⟩ := at_L1 (N_reads' HO_206.out).2.2 x208_3 p490 q490
                   cases e490
                   obtain ⟨ce490, hce490, hMe490, hcc490⟩ := N_get HO_206.out [] x208_3 p490 (by first | exact q490 | exact of_decide_eq_true (by first | (with_reducible assumption) | assumption) | (have e_ := (N_reads' HO_206.out).1; omega))
                   obtain ⟨ua490_0, uc490_0, rfl, ul490_0, ge490_0⟩ := Kd.FK_slice_open hMe490
                   have hv490_0 := hcc490 0 _ rfl
                   rw [Nat.add_zero, show ((Kd.slice 3 (Kd.int .i64))).sz = 1 from rfl, Nat.mul_one] at hv490_0
                   replace hv490_0 := Option.some.inj (hv490_0.symm.trans hx490_0)
                   injection hv490_0 with hva_ hvn_ hvc_
                   rw [hva_] at ge490_0
                   rw [hvc_] at ul490_0
                   have HL490_0 := Aside0.mk (show Kd.V (Kd.int .i64) 3 _ w.heap.size _ _ (rd_L1 t477 x208_3) from V_mk ul490_0 ge490_0)
                   clear hva_ hvn_ hvc_ ge490_0 ul490_0; clear hcc490 hce490
                   have HR490_0 := Aside0.mk hi490_0
                   have HC490_0 := Aside0.mk hl490_0
                   clear hi490_0 hl490_0; replace p490 := eq_true p490; replace q490 := eq_true q490
                   go_wp2_with (first | ((with_reducible refine gate_callee (f := 26) rfl ?_); refine goesL_ (some 213) rfl rfl Try.func26 (by kernel_rfl) rfl #[.slice A490_0 (rd_L1 t477 x208_3).length c490_0] rfl (by (try simp only [List.map_toArray, List.map_cons, List.map_nil]); first | done | rfl) ?_; (with_reducible refine (impl_IsMarkov.calls k3 _ _ (rd_L1 t477 x208_3) true _ ?side1 ?side2 A135.out).mono ?_); (case side1 => repeat (first | exact (by repeat (first | (with_reducible exact HR490_0.out) | (with_reducible first | refine C_alloc ?_ _ | refine C_drewN ?_ _ | refine C_drew ?_) | exact HR490_0.out)) | (with_reducible first | refine C_alloc ?_ _ | refine C_drewN ?_ _ | refine C_drew ?_))); (case side2 => exact HC490_0.out); rintro e w140 ⟨rfl, hb⟩; refine ⟨_, rfl, ?_⟩; have n0_ := Aside0.mk (N_below (by (with_reducible repeat (first | apply N_alloc | apply N_drewN | apply N_drew)); exact HO_206.out) hb); have n1_ := Aside0.mk (V_below (by (with_reducible repeat (first | apply V_alloc | apply V_drewN | apply V_drew)); exact HL490_0.out) hb); have n2_ := Aside0.mk (C_below (by repeat (first | (with_reducible exact HR490_0.out) | (with_reducible first | refine C_alloc ?_ _ | refine C_drewN ?_ _ | refine C_drew ?_) | exact HR490_0.out)) hb); have n3_ := Aside0.mk (below_step (by repeat (first | (with_reducible first | exact HB.out | apply below_alloc | apply pw_below_drewN | apply below_drew1) | exact HB.out)) hb); clear HO_206; clear HL490_0; clear HR490_0; clear HB; have HO_206 := n0_; have HL490_0 := n1_; have HR490_0 := n2_; have HB := n3_; clear n0_ n1_ n2_ n3_; (try clear hb); (try clear hb2); (try clear hk); (try clear hi); have p492 : 0 ≤ (2 : Int) := (by omega); have q492 : 2 < ((rd_L1 t477 x208_3).length : Int) := of_decide_eq_true (by first | (with_reducible assumption) | assumption); obtain ⟨ad492, e492, hx492_0⟩ := Kd.at_int (by repeat (first | (with_reducible exact HR490_0.out) | (with_reducible first | refine C_alloc ?_ _ | refine C_drewN ?_ _ | refine C_drew ?_) | exact HR490_0.out)) 2 p492 q492; cases e492; (try simp only [show (2 : Int).toNat = 2 from rfl, Nat.reduceMul, Nat.reduceEqDiff, Go.Addr.add, ↓reduceIte] at hx492_0); have qi492 : (2 < (rd_L1 t477 x208_3).length) = True := eq_true (by omega); (try rw [show ((2 : Int)).toNat = 2 from rfl] at hx492_0); replace p492 := eq_true p492; replace q492 := eq_true q492))
                   go_ret
                   exact ⟨by first | rfl | (simp [*] <;> rfl), by repeat (first | (with_reducible first | exact HB.out | apply below_alloc | apply pw_below_drewN | apply below_drew1) | exact HB.out)⟩
                 ·as_aux_lemma =>
                  replace c136 := Bool.eq_false_iff.mpr c136
                  subst c136
                  have H1 : (some false) = some r := by rw [if_neg (show ¬ (false = true) by decide)] at H; exact H
                  clear H; have H := H1; clear H1
                  obtain rfl := Option.some.inj H
                  have p490 : 0 ≤ (x208_3 : Int) := of_decide_eq_true (by first | (with_reducible assumption) | assumption)
                  have q490 : x208_3 < (t477.length : Int) := of_decide_eq_true (by first | (with_reducible assumption) | assumption)
                  obtain ⟨ad490, A490_0, c490_0, e490, hx490_0, hl490_0, hi490_0⟩ := at_L1 (N_reads' HO_206.out).2.2 x208_3 p490 q490
                  cases e490
                  obtain ⟨ce490, hce490, hMe490, hcc490⟩ := N_get HO_206.out [] x208_3 p490 (by first | exact q490 | exact of_decide_eq_true (by first | (with_reducible assumption) | assumption) | (have e_ := (N_reads' HO_206.out).1; omega))
                  obtain ⟨ua490_0, uc490_0, rfl, ul490_0, ge490_0⟩ := Kd.FK_slice_open hMe490
                  have hv490_0 := hcc490 0 _ rfl
                  rw [Nat.add_zero, show ((Kd.slice 3 (Kd.int .i64))).sz = 1 from rfl, Nat.mul_one] at hv490_0
                  replace hv490_0 := Option.some.inj (hv490_0.symm.trans hx490_0)
                  injection hv490_0 with hva_ hvn_ hvc_
                  rw [hva_] at ge490_0
                  rw [hvc_] at ul490_0
                  have HL490_0 := Aside0.mk (show Kd.V (Kd.int .i64) 3 _ w.heap.size _ _ (rd_L1 t477 x208_3) from V_mk ul490_0 ge490_0)
                  clear hva_ hvn_ hvc_ ge490_0 ul490_0; clear hcc490 hce490
                  have HR490_0 := Aside0.mk hi490_0
                  have HC490_0 := Aside0.mk hl490_0
                  clear hi490_0 hl490_0; replace p490 := eq_true p490; replace q490 := eq_true q490
                  go_wp2_with (first | ((with_reducible refine gate_callee (f := 26) rfl ?_); refine goesL_ (some 213) rfl rfl Try.func26 (by kernel_rfl) rfl #[.slice A490_0 (rd_L1 t477 x208_3).length c490_0] rfl (by (try simp only [List.map_toArray, List.map_cons, List.map_nil]); first | done | rfl) ?_; (with_reducible refine (impl_IsMarkov.calls k3 _ _ (rd_L1 t477 x208_3) false _ ?side1 ?side2 A135.out).mono ?_); (case side1 => repeat (first | exact (by repeat (first | (with_reducible exact HR490_0.out) | (with_reducible first | refine C_alloc ?_ _ | refine C_drewN ?_ _ | refine C_drew ?_) | exact HR490_0.out)) | (with_reducible first | refine C_alloc ?_ _ | refine C_drewN ?_ _ | refine C_drew ?_))); (case side2 => exact HC490_0.out); rintro e w141 ⟨rfl, hb⟩; refine ⟨_, rfl, ?_⟩; have n0_ := Aside0.mk (N_below (by (with_reducible repeat (first | apply N_alloc | apply N_drewN | apply N_drew)); exact HO_206.out) hb); have n1_ := Aside0.mk (V_below (by (with_reducible repeat (first | apply V_alloc | apply V_drewN | apply V_drew)); exact HL490_0.out) hb); have n2_ := Aside0.mk (C_below (by repeat (first | (with_reducible exact HR490_0.out) | (with_reducible first | refine C_alloc ?_ _ | refine C_drewN ?_ _ | refine C_drew ?_) | exact HR490_0.out)) hb); have n3_ := Aside0.mk (below_step (by repeat (first | (with_reducible first | exact HB.out | apply below_alloc | apply pw_below_drewN | apply below_drew1) | exact HB.out)) hb); clear HO_206; clear HL490_0; clear HR490_0; clear HB; have HO_206 := n0_; have HL490_0 := n1_; have HR490_0 := n2_; have HB := n3_; clear n0_ n1_ n2_ n3_; (try clear hb); (try clear hb2); (try clear hk); (try clear hi)))
                  go_ret
                  exact ⟨by first | rfl | (simp [*] <;> rfl), by repeat (first | (with_reducible first | exact HB.out | apply below_alloc | apply pw_below_drewN | apply below_drew1) | exact HB.out)⟩
                ·rw [if_neg c132] at H
                 have c132b0 : decide (x208_3 < (t477.length : Int)) = false := decide_eq_false c132
                 clear c132
                 obtain rfl := Option.some.inj H
                 go_wp2
                 go_ret
                 exact ⟨by first | rfl | (simp [*] <;> rfl), by repeat (first | (with_reducible first | exact HB.out | apply below_alloc | apply pw_below_drewN | apply below_drew1) | exact HB.out)⟩
         ·replace c92 := Bool.eq_false_iff.mpr c92
          subst c92
          have H1 : (some false) = some r := by rw [if_neg (show ¬ (false = true) by decide)] at H; exact H
          clear H; have H := H1; clear H1
          obtain rfl := Option.some.inj H
          go_wp2_with (first | ((with_reducible refine gate_callee (f := 29) rfl ?_); refine goesL_ (some 154) rfl rfl Try.func29 (by kernel_rfl) rfl #[.slice A1 l1.length c1] rfl (by (try simp only [List.map_toArray, List.map_cons, List.map_nil]); first | done | rfl) ?_; (with_reducible refine (spec_DrawTriplesWith.calls k2 _ _ l1 t476 _ ?side1 ?side2 A80.out).mono ?_); (case side1 => repeat (first | exact (C_below HR1.out HB.out) | (with_reducible first | refine C_alloc ?_ _ | refine C_drewN ?_ _ | refine C_drew ?_))); (case side2 => exact HC1.out); rintro e w142 ⟨rfl, hb⟩; refine ⟨_, rfl, ?_⟩; have n0_ := Aside0.mk (N_below (by (with_reducible repeat (first | apply N_alloc | apply N_drewN | apply N_drew)); exact HO_6.out) hb); have n1_ := Aside0.mk (R_below (by (with_reducible repeat (first | apply R_alloc | apply R_drewN | apply R_drew)); exact HO_10.out) hb); have n2_ := Aside0.mk (N_below (by (with_reducible repeat (first | apply N_alloc | apply N_drewN | apply N_drew)); exact HO_82.out) hb); have n3_ := Aside0.mk (below_step (by repeat (first | (with_reducible first | exact HB.out | apply below_alloc | apply pw_below_drewN | apply below_drew1) | exact HB.out)) hb); clear HO_6; clear HO_10; clear HO_82; clear HB; have HO_6 := n0_; have HO_10 := n1_; have HO_82 := n2_; have HB := n3_; clear n0_ n1_ n2_ n3_; (try clear hb); (try clear hb2); (try clear hk); (try clear hi)) | ((with_reducible refine gate_callee (f := 21) rfl ?_); refine goesL_ (some 157) rfl rfl Try.func21 (by kernel_rfl) rfl #[.int .i64 t476] rfl (by (try simp only [List.map_toArray, List.map_cons, List.map_nil]); first | done | rfl) ?_; (with_reducible refine (impl_TriplesWith.calls k2 t476 t477 t478 _ A81.out).mono ?_); rintro e w143 ⟨v479, rfl, ho0, hb⟩; refine ⟨_, rfl, ?_⟩; have n0_ := Aside0.mk (N_elder' (by (with_reducible repeat (first | apply N_alloc | apply N_drewN | apply N_drew)); exact HO_6.out) (by first | exact N_base ho0 | exact S_base ho0) hb); have n1_ := Aside0.mk (R_below (by (with_reducible repeat (first | apply R_alloc | apply R_drewN | apply R_drew)); exact HO_10.out) hb); have n2_ := Aside0.mk (N_elder' (by (with_reducible repeat (first | apply N_alloc | apply N_drewN | apply N_drew)); exact HO_82.out) (by first | exact N_base ho0 | exact S_base ho0) hb); have n3_ := Aside0.mk (N_lower (N_mono (ok' := fun k_ => some k_ ≠ (.slice Ao35 t439.length co35 : Value).ownBlock ∧ some k_ ≠ (v449 : Value).ownBlock ∧ some k_ ≠ (.slice Ao35 t439.length co35 : Value).ownBlock) (S_N (S_bound ho0)) (fun k_ hk_ => ⟨(Kd.fresh' (N_lt (by (with_reducible repeat (first | apply N_alloc | apply N_drewN | apply N_drew)); exact HO_6.out)) k_ hk_.2.1), (Kd.fresh' (R_lt (by (with_reducible repeat (first | apply R_alloc | apply R_drewN | apply R_drew)); exact HO_10.out)) k_ hk_.2.1), (Kd.fresh' (N_lt (by (with_reducible repeat (first | apply N_alloc | apply N_drewN | apply N_drew)); exact HO_82.out)) k_ hk_.2.1)⟩)) (below_size (by repeat (first | (with_reducible first | exact HB.out | apply below_alloc | apply pw_below_drewN | apply below_drew1) | exact HB.out)))); have n4_ := Aside0.mk (below_step (by repeat (first | (with_reducible first | exact HB.out | apply below_alloc | apply pw_below_drewN | apply below_drew1) | exact HB.out)) hb); clear HO_6; clear HO_10; clear HO_82; clear HB; have HO_6 := n0_; have HO_10 := n1_; have HO_82 := n2_; have HO480 := n3_; have HB := n4_; clear n0_ n1_ n2_ n3_ n4_; (try clear hb); (try clear hb2); (try clear hk); (try clear hi); (try clear ho0)) | ((with_reducible refine gate_callee (f := 20) rfl ?_); refine goesL_ (some 162) rfl rfl Try.func20 (by kernel_rfl) rfl #[.int .i64 t476] rfl (by (try simp only [List.map_toArray, List.map_cons, List.map_nil]); first | done | rfl) ?_; (with_reducible refine (spec_TriplesWith.calls k2 t476 t481 t484 _ A82.out).mono ?_); rintro e w144 ⟨v482, rfl, ho0, hb⟩; refine ⟨_, rfl, ?_⟩; have n0_ := Aside0.mk (N_elder' (by (with_reducible repeat (first | apply N_alloc | apply N_drewN | apply N_drew)); exact HO_6.out) (by first | exact N_base ho0 | exact S_base ho0) hb); have n1_ := Aside0.mk (R_below (by (with_reducible repeat (first | apply R_alloc | apply R_drewN | apply R_drew)); exact HO_10.out) hb); have n2_ := Aside0.mk (N_elder' (by (with_reducible repeat (first | apply N_alloc | apply N_drewN | apply N_drew)); exact HO_82.out) (by first | exact N_base ho0 | exact S_base ho0) hb); have n3_ := Aside0.mk (N_elder' (by (with_reducible repeat (first | apply N_alloc | apply N_drewN | apply N_drew)); exact HO480.out) (by first | exact N_base ho0 | exact S_base ho0) hb); have n4_ := Aside0.mk (N_lower (N_mono (ok' := fun k_ => some k_ ≠ (.slice Ao35 t439.length co35 : Value).ownBlock ∧ some k_ ≠ (v449 : Value).ownBlock ∧ some k_ ≠ (.slice Ao35 t439.length co35 : Value).ownBlock ∧ some k_ ≠ (v479 : Value).ownBlock) ho0 (fun k_ hk_ => ⟨(Kd.fresh' (N_lt (by (with_reducible repeat (first | apply N_alloc | apply N_drewN | apply N_drew)); exact HO_6.out)) k_ hk_), (Kd.fresh' (R_lt (by (with_reducible repeat (first | apply R_alloc | apply R_drewN | apply R_drew)); exact HO_10.out)) k_ hk_), (Kd.fresh' (N_lt (by (with_reducible repeat (first | apply N_alloc | apply N_drewN | apply N_drew)); exact HO_82.out)) k_ hk_), (Kd.fresh' (N_lt (by (with_reducible repeat (first | apply N_alloc | apply N_drewN | apply N_drew)); exact HO480.out)) k_ hk_)⟩)) (below_size (by repeat (first | (with_reducible first | exact HB.out | apply below_alloc | apply pw_below_drewN | apply below_drew1) | exact HB.out)))); have n5_ := Aside0.mk (below_step (by repeat (first | (with_reducible first | exact HB.out | apply below_alloc | apply pw_below_drewN | apply below_drew1) | exact HB.out)) hb); clear HO_6; clear HO_10; clear HO_82; clear HO480; clear HB; have HO_6 := n0_; have HO_10 := n1_; have HO_82 := n2_; have HO480 := n3_; have HO483 := n4_; have HB := n5_; clear n0_ n1_ n2_ n3_ n4_ n5_; (try clear hb); (try clear hb2); (try clear hk); (try clear hi); (try clear ho0)) | ((with_reducible refine gate_callee (f := 9) rfl ?_); refine goesL_ (some 167) rfl rfl Try.func9 (by kernel_rfl) rfl #[.int .i64 t476] rfl (by (try simp only [List.map_toArray, List.map_cons, List.map_nil]); first | done | rfl) ?_; (with_reducible refine (impl_IsMarkovNumber.calls k2 t476 t485 t486 _ A83.out).mono ?_); rintro e w145 ⟨rfl, hb⟩; refine ⟨_, rfl, ?_⟩; have n0_ := Aside0.mk (N_below (by (with_reducible repeat (first | apply N_alloc | apply N_drewN | apply N_drew)); exact HO_6.out) hb); have n1_ := Aside0.mk (R_below (by (with_reducible repeat (first | apply R_alloc | apply R_drewN | apply R_drew)); exact HO_10.out) hb); have n2_ := Aside0.mk (N_below (by (with_reducible repeat (first | apply N_alloc | apply N_drewN | apply N_drew)); exact HO_82.out) hb); have n3_ := Aside0.mk (N_below (by (with_reducible repeat (first | apply N_alloc | apply N_drewN | apply N_drew)); exact HO480.out) hb); have n4_ := Aside0.mk (N_below (by (with_reducible repeat (first | apply N_alloc | apply N_drewN | apply N_drew)); exact HO483.out) hb); have n5_ := Aside0.mk (below_step (by repeat (first | (with_reducible first | exact HB.out | apply below_alloc | apply pw_below_drewN | apply below_drew1) | exact HB.out)) hb); clear HO_6; clear HO_10; clear HO_82; clear HO480; clear HO483; clear HB; have HO_6 := n0_; have HO_10 := n1_; have HO_82 := n2_; have HO480 := n3_; have HO483 := n4_; have HB := n5_; clear n0_ n1_ n2_ n3_ n4_ n5_; (try clear hb); (try clear hb2); (try clear hk); (try clear hi)) | ((with_reducible refine gate_callee (f := 8) rfl ?_); refine goesL_ (some 172) rfl rfl Try.func8 (by kernel_rfl) rfl #[.int .i64 t476] rfl (by (try simp only [List.map_toArray, List.map_cons, List.map_nil]); first | done | rfl) ?_; (with_reducible refine (spec_IsMarkovNumber.calls k2 t476 t487 t488 _ A84.out).mono ?_); rintro e w146 ⟨rfl, hb⟩; refine ⟨_, rfl, ?_⟩; have n0_ := Aside0.mk (N_below (by (with_reducible repeat (first | apply N_alloc | apply N_drewN | apply N_drew)); exact HO_6.out) hb); have n1_ := Aside0.mk (R_below (by (with_reducible repeat (first | apply R_alloc | apply R_drewN | apply R_drew)); exact HO_10.out) hb); have n2_ := Aside0.mk (N_below (by (with_reducible repeat (first | apply N_alloc | apply N_drewN | apply N_drew)); exact HO_82.out) hb); have n3_ := Aside0.mk (N_below (by (with_reducible repeat (first | apply N_alloc | apply N_drewN | apply N_drew)); exact HO480.out) hb); have n4_ := Aside0.mk (N_below (by (with_reducible repeat (first | apply N_alloc | apply N_drewN | apply N_drew)); exact HO483.out) hb); have n5_ := Aside0.mk (below_step (by repeat (first | (with_reducible first | exact HB.out | apply below_alloc | apply pw_below_drewN | apply below_drew1) | exact HB.out)) hb); clear HO_6; clear HO_10; clear HO_82; clear HO480; clear HO483; clear HB; have HO_6 := n0_; have HO_10 := n1_; have HO_82 := n2_; have HO480 := n3_; have HO483 := n4_; have HB := n5_; clear n0_ n1_ n2_ n3_ n4_ n5_; (try clear hb); (try clear hb2); (try clear hk); (try clear hi); obtain ⟨Ao147, co147, eo147⟩ := N_slice HO480.out; subst eo147; obtain ⟨Ao148, co148, eo148⟩ := N_slice HO483.out; subst eo148) | (go_at_call 24; (with_reducible refine (laws_dLists.calls k2 _ _ t477 _ _ t481 false _ ?side1 ?side2 ?side3 ?side4 A91.out).mono ?_); (case side1 => repeat (first | exact (N_reads' HO480.out).2.2 | (with_reducible first | refine C_alloc ?_ _ | refine C_drewN ?_ _ | refine C_drew ?_))); (case side2 => exact (N_reads' HO480.out).2.1); (case side3 => repeat (first | exact (N_reads' HO483.out).2.2 | (with_reducible first | refine C_alloc ?_ _ | refine C_drewN ?_ _ | refine C_drew ?_))); (case side4 => exact (N_reads' HO483.out).2.1); rintro e w' ⟨rfl, ⟨nd, rfl⟩⟩))
          go_ret
          exact ⟨by first | rfl | (simp [*] <;> rfl), by repeat (first | (with_reducible first | exact HB.out | apply below_alloc | apply pw_below_drewN | apply below_drew1) | exact HB.out)⟩

/-- THE ONE PURE STATEMENT of laws_FnMarkovLists: yours. -/
def laws_FnMarkovLists.Pure : Prop := ∀ (l0 : List Int) (l1 : List Int), l0.length ≤ maxLen → l0.length * 1 ≤ 140737488351232 → (∀ x ∈ l0, (Lit.int .u8 x).wf = true) → l1.length ≤ maxLen → l1.length * 1 ≤ 140737488351232 → (∀ x ∈ l1, (Lit.int .u8 x).wf = true) → ∃ k, laws_FnMarkovLists.f k l0 l1 = some true
theorem laws_FnMarkovLists.walk (P : laws_FnMarkovLists.Pure) (a0 : Option Addr) (len0 cap0 : Nat) (z0 : List Int) (a1 : Option Addr) (len1 cap1 : Nat) (z1 : List Int) (w : World) (w0 : (a0 = none ∧ len0 = 0 ∧ cap0 = 0 ∧ z0 = []) ∨ ∃ x, a0 = some x ∧ len0 ≤ cap0 ∧ cap0 ≤ maxLen ∧ z0.length = cap0 ∧ (∀ i, i < z0.length → w.cell? (x.add i) = some (.int .u8 (z0.getD i 0))) ∧ ∀ n ∈ z0, (Lit.int .u8 n).wf = true) (y0 : len0 * 1 ≤ 140737488351232) (w1 : (a1 = none ∧ len1 = 0 ∧ cap1 = 0 ∧ z1 = []) ∨ ∃ x, a1 = some x ∧ len1 ≤ cap1 ∧ cap1 ≤ maxLen ∧ z1.length = cap1 ∧ (∀ i, i < z1.length → w.cell? (x.add i) = some (.int .u8 (z1.getD i 0))) ∧ ∀ n ∈ z1, (Lit.int .u8 n).wf = true) (y1 : len1 * 1 ≤ 140737488351232) :
  Calls Try.prog 7 #[.slice a0 len0 cap0, .slice a1 len1 cap1] w fun e w' => e = .returned (.bool true) ∧ Below w.heap.size w w' := by
 obtain ⟨l0, rfl, hr0, hm0, hw0, hc0⟩ := ReadsInt.ofRowC w0
 obtain ⟨l1, rfl, hr1, hm1, hw1, hc1⟩ := ReadsInt.ofRowC w1
 obtain ⟨k, h⟩ := P l0 l1 hm0 y0 hw0 hm1 y1 hw1
 refine (laws_FnMarkovLists.calls k _ _ l0 _ _ l1 true w (C_of_reads (d := (0 : Int)) (h1 := fun _ => rfl) hr0) hc0 (C_of_reads (d := (0 : Int)) (h1 := fun _ => rfl) hr1) hc1 h).mono ?_
 rintro e w' ⟨rfl, hd⟩
 exact ⟨rfl, hd⟩

end Go.Proofs.Ytkdgpbcecnmdhaa.P
