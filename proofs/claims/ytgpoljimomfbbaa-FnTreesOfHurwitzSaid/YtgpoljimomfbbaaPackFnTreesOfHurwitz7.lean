/- What is reached by jumps up is told in order and closed under them, and nothing in it has a less sum than where it begins. No condition. -/
import Derived.Test.YtgpoljimomfbbaaPackFnTreesOfHurwitz6
-- PFFnTreesOfHurwitz
namespace Go.Proofs.Ytgpoljimomfbbaa.P
open Go.RowKit Go.Proofs.YtgpoljimomfbbaaW.PrintWords Go.Proofs.YtgpoljimomfbbaaW.PrintLast
set_option linter.unusedVariables false
set_option linter.unusedSimpArgs false

/-! ### laws_FnTreesOfHurwitz: function 7 -/
mutual
def laws_FnTreesOfHurwitz.l0 : Nat → List Int → Int → Int → Int → List (List Int) → List (List Int) → Int → Int → Option (Bool)
 | 0, _, _, _, _, _, _, _, _ => none
 | k + 1, x5, x6, x7, x8, x9, x56, x57, x58 => if x58 < x57 then (if 0 ≤ x58 then (if x58 < (x56.length : Int) then ((laws_vSolves.f k (rd_L1 x56 x58) x6 x7).bind fun t692 => (if t692 = true then (if 0 < ((rd_L1 x56 x58).length : Int) then (if (rd (rd_L1 x56 x58) 0) > x8 then (some false) else ((laws_vSum.f k (rd_L1 x56 x58)).bind fun t694 => ((laws_vSum.f k x5).bind fun t695 => (if t694 < t695 then (some false) else (if x58 > 0 then (if 0 ≤ (wrap64 (x58 - 1)) then (if (wrap64 (x58 - 1)) < (x9.length : Int) then ((laws_vBefore.f k (rd_L1 x9 (wrap64 (x58 - 1))) (rd_L1 x56 x58)).bind fun t697 => (if t697 = true then ((impl_BranchesOf.f k (rd_L1 x56 x58) x6 x7).bind fun bt698 => (if bt698.2 = true then (laws_FnTreesOfHurwitz.l1 k x5 x6 x7 x8 x9 x56 x57 x58 bt698.1 (bt698.1.length : Int) 0) else (some false))) else (some false))) else (none)) else (none)) else ((impl_BranchesOf.f k (rd_L1 x56 x58) x6 x7).bind fun bt705 => (if bt705.2 = true then (laws_FnTreesOfHurwitz.l1 k x5 x6 x7 x8 x9 x56 x57 x58 bt705.1 (bt705.1.length : Int) 0) else (some false)))))))) else (none)) else (some false))) else (none)) else (none)) else ((laws_vHas.f k x9 x5).bind fun t709 => (some t709))
def laws_FnTreesOfHurwitz.l1 : Nat → List Int → Int → Int → Int → List (List Int) → List (List Int) → Int → Int → List (List Int) → Int → Int → Option (Bool)
 | 0, _, _, _, _, _, _, _, _, _, _, _ => none
 | k + 1, x5, x6, x7, x8, x9, x56, x57, x58, x105, x106, x107 => if x107 < x106 then (if 0 ≤ x107 then (if x107 < (x105.length : Int) then (if 0 < ((rd_L1 x105 x107).length : Int) then (if (rd (rd_L1 x105 x107) 0) ≤ x8 then ((laws_vHas.f k x9 (rd_L1 x105 x107)).bind fun t704 => (if t704 = true then (laws_FnTreesOfHurwitz.l1 k x5 x6 x7 x8 x9 x56 x57 x58 x105 x106 (wrap64 (x107 + 1))) else (some false))) else (laws_FnTreesOfHurwitz.l1 k x5 x6 x7 x8 x9 x56 x57 x58 x105 x106 (wrap64 (x107 + 1)))) else (none)) else (none)) else (none)) else (laws_FnTreesOfHurwitz.l0 k x5 x6 x7 x8 x9 x56 x57 (wrap64 (x58 + 1)))
end
def laws_FnTreesOfHurwitz.f (k : Nat) (l0 : List Int) (l1 : List Int) : Option (Bool) := (laws_big.f l0 l1).bind fun t675 => (if t675 = true then (some true) else ((spec_DrawTreeUpTo.f k l0).bind fun bt676 => ((impl_TreeUpTo.f k bt676.1 bt676.2.1 bt676.2.2.1 bt676.2.2.2).bind fun bt682 => ((spec_TreeUpTo.f k bt676.1 bt676.2.1 bt676.2.2.1 bt676.2.2.2).bind fun bt686 => (if (bt682.2 != bt686.2) = true then (some false) else ((laws_vSameLists.f k bt682.1 bt686.1).bind fun t690 => (if t690 = true then (if bt686.2 = true then (laws_FnTreesOfHurwitz.l0 k bt676.1 bt676.2.1 bt676.2.2.1 bt676.2.2.2 bt682.1 bt682.1 (bt682.1.length : Int) 0) else (some true)) else (some false))))))))
theorem laws_FnTreesOfHurwitz.mono_l : ∀ k, (∀ y0 y1 y2 y3 y4 y5 y6 y7, LeO (laws_FnTreesOfHurwitz.l0 k y0 y1 y2 y3 y4 y5 y6 y7) (laws_FnTreesOfHurwitz.l0 (k + 1) y0 y1 y2 y3 y4 y5 y6 y7)) ∧ (∀ y0 y1 y2 y3 y4 y5 y6 y7 y8 y9 y10, LeO (laws_FnTreesOfHurwitz.l1 k y0 y1 y2 y3 y4 y5 y6 y7 y8 y9 y10) (laws_FnTreesOfHurwitz.l1 (k + 1) y0 y1 y2 y3 y4 y5 y6 y7 y8 y9 y10))
 | 0 => ⟨fun _ _ _ _ _ _ _ _ r h => by simp [laws_FnTreesOfHurwitz.l0] at h, fun _ _ _ _ _ _ _ _ _ _ _ r h => by simp [laws_FnTreesOfHurwitz.l1] at h⟩
 | k + 1 => by
  obtain ⟨ih0, ih1⟩ := laws_FnTreesOfHurwitz.mono_l k
  refine ⟨?_, ?_⟩
  ·intro y0 y1 y2 y3 y4 y5 y6 y7
   unfold laws_FnTreesOfHurwitz.l0
   repeat' first
   | (with_reducible exact ih0 _ _ _ _ _ _ _ _)
   | (with_reducible exact ih1 _ _ _ _ _ _ _ _ _ _ _)
   | (with_reducible exact impl_BranchesOf.mono _ _ _ _)
   | (with_reducible exact impl_TreeUpTo.mono _ _ _ _ _)
   | (with_reducible exact laws_vBefore.mono _ _ _)
   | (with_reducible exact laws_vHas.mono _ _ _)
   | (with_reducible exact laws_vSameLists.mono _ _ _)
   | (with_reducible exact laws_vSolves.mono _ _ _ _)
   | (with_reducible exact laws_vSum.mono _ _)
   | (with_reducible exact spec_DrawTreeUpTo.mono _ _)
   | (with_reducible exact spec_TreeUpTo.mono _ _ _ _ _)
   | (with_reducible exact LeO.refl _)
   | (with_reducible exact LeO.none _)
   | (with_reducible refine LeO.ite ?_ ?_)
   | (with_reducible refine LeO.bind ?_ (fun _ => ?_))
   | exact ih0 _ _ _ _ _ _ _ _
   | exact ih1 _ _ _ _ _ _ _ _ _ _ _
   | exact impl_BranchesOf.mono _ _ _ _
   | exact impl_TreeUpTo.mono _ _ _ _ _
   | exact laws_vBefore.mono _ _ _
   | exact laws_vHas.mono _ _ _
   | exact laws_vSameLists.mono _ _ _
   | exact laws_vSolves.mono _ _ _ _
   | exact laws_vSum.mono _ _
   | exact spec_DrawTreeUpTo.mono _ _
   | exact spec_TreeUpTo.mono _ _ _ _ _
   | exact LeO.none _
   | refine LeO.ite ?_ ?_
   | refine LeO.bind ?_ (fun _ => ?_)
  ·intro y0 y1 y2 y3 y4 y5 y6 y7 y8 y9 y10
   unfold laws_FnTreesOfHurwitz.l1
   repeat' first
   | (with_reducible exact ih0 _ _ _ _ _ _ _ _)
   | (with_reducible exact ih1 _ _ _ _ _ _ _ _ _ _ _)
   | (with_reducible exact impl_BranchesOf.mono _ _ _ _)
   | (with_reducible exact impl_TreeUpTo.mono _ _ _ _ _)
   | (with_reducible exact laws_vBefore.mono _ _ _)
   | (with_reducible exact laws_vHas.mono _ _ _)
   | (with_reducible exact laws_vSameLists.mono _ _ _)
   | (with_reducible exact laws_vSolves.mono _ _ _ _)
   | (with_reducible exact laws_vSum.mono _ _)
   | (with_reducible exact spec_DrawTreeUpTo.mono _ _)
   | (with_reducible exact spec_TreeUpTo.mono _ _ _ _ _)
   | (with_reducible exact LeO.refl _)
   | (with_reducible exact LeO.none _)
   | (with_reducible refine LeO.ite ?_ ?_)
   | (with_reducible refine LeO.bind ?_ (fun _ => ?_))
   | exact ih0 _ _ _ _ _ _ _ _
   | exact ih1 _ _ _ _ _ _ _ _ _ _ _
   | exact impl_BranchesOf.mono _ _ _ _
   | exact impl_TreeUpTo.mono _ _ _ _ _
   | exact laws_vBefore.mono _ _ _
   | exact laws_vHas.mono _ _ _
   | exact laws_vSameLists.mono _ _ _
   | exact laws_vSolves.mono _ _ _ _
   | exact laws_vSum.mono _ _
   | exact spec_DrawTreeUpTo.mono _ _
   | exact spec_TreeUpTo.mono _ _ _ _ _
   | exact LeO.none _
   | refine LeO.ite ?_ ?_
   | refine LeO.bind ?_ (fun _ => ?_)
theorem laws_FnTreesOfHurwitz.mono : ∀ a0 a1 k, LeO (laws_FnTreesOfHurwitz.f k a0 a1) (laws_FnTreesOfHurwitz.f (k + 1) a0 a1) := by
 intro a0 a1 k
 obtain ⟨ih0, ih1⟩ := laws_FnTreesOfHurwitz.mono_l k
 unfold laws_FnTreesOfHurwitz.f
 repeat' first
   | (with_reducible exact ih0 _ _ _ _ _ _ _ _)
   | (with_reducible exact ih1 _ _ _ _ _ _ _ _ _ _ _)
   | (with_reducible exact impl_BranchesOf.mono _ _ _ _)
   | (with_reducible exact impl_TreeUpTo.mono _ _ _ _ _)
   | (with_reducible exact laws_vBefore.mono _ _ _)
   | (with_reducible exact laws_vHas.mono _ _ _)
   | (with_reducible exact laws_vSameLists.mono _ _ _)
   | (with_reducible exact laws_vSolves.mono _ _ _ _)
   | (with_reducible exact laws_vSum.mono _ _)
   | (with_reducible exact spec_DrawTreeUpTo.mono _ _)
   | (with_reducible exact spec_TreeUpTo.mono _ _ _ _ _)
   | (with_reducible exact LeO.refl _)
   | (with_reducible exact LeO.none _)
   | (with_reducible refine LeO.ite ?_ ?_)
   | (with_reducible refine LeO.bind ?_ (fun _ => ?_))
   | exact ih0 _ _ _ _ _ _ _ _
   | exact ih1 _ _ _ _ _ _ _ _ _ _ _
   | exact impl_BranchesOf.mono _ _ _ _
   | exact impl_TreeUpTo.mono _ _ _ _ _
   | exact laws_vBefore.mono _ _ _
   | exact laws_vHas.mono _ _ _
   | exact laws_vSameLists.mono _ _ _
   | exact laws_vSolves.mono _ _ _ _
   | exact laws_vSum.mono _ _
   | exact spec_DrawTreeUpTo.mono _ _
   | exact spec_TreeUpTo.mono _ _ _ _ _
   | exact LeO.none _
   | refine LeO.ite ?_ ?_
   | refine LeO.bind ?_ (fun _ => ?_)
set_option maxHeartbeats 8000000 in
set_option maxRecDepth 100000 in
theorem laws_FnTreesOfHurwitz.calls (k : Nat) (A0 : Option Addr) (c0 : Nat) (l0 : List Int) (A1 : Option Addr) (c1 : Nat) (l1 : List Int) (r : Bool) (w : World) (hr0 : Kd.C (Kd.int .u8) w A0 l0.length l0) (hc0 : l0.length ≤ c0) (hr1 : Kd.C (Kd.int .u8) w A1 l1.length l1) (hc1 : l1.length ≤ c1) (h : laws_FnTreesOfHurwitz.f k l0 l1 = some r) :
  Calls Try.prog 7 #[.slice A0 l0.length c0, .slice A1 l1.length c1] w fun e w' => e = .returned (.bool r) ∧ Below w.heap.size w w' := by
 have HR0 := Aside0.mk hr0
 have HC0 := Aside0.mk hc0
 clear hr0 hc0
 have HR1 := Aside0.mk hr1
 have HC1 := Aside0.mk hc1
 clear hr1 hc1
 have HB := Aside0.mk (Below.refl w.heap.size w)
 have H : ((laws_big.f l0 l1).bind fun t675 => (if t675 = true then (some true) else ((spec_DrawTreeUpTo.f k l0).bind fun bt676 => ((impl_TreeUpTo.f k bt676.1 bt676.2.1 bt676.2.2.1 bt676.2.2.2).bind fun bt682 => ((spec_TreeUpTo.f k bt676.1 bt676.2.1 bt676.2.2.1 bt676.2.2.2).bind fun bt686 => (if (bt682.2 != bt686.2) = true then (some false) else ((laws_vSameLists.f k bt682.1 bt686.1).bind fun t690 => (if t690 = true then (if bt686.2 = true then (laws_FnTreesOfHurwitz.l0 k bt676.1 bt676.2.1 bt676.2.2.1 bt676.2.2.2 bt682.1 bt682.1 (bt682.1.length : Int) 0) else (some true)) else (some false))))))))) = some r := h
 clear h
 replace H := Option.bind_eq_some_iff.mp H
 obtain ⟨t675, A30, H⟩ := H
 replace H : (if t675 = true then (some true) else ((spec_DrawTreeUpTo.f k l0).bind fun bt676 => ((impl_TreeUpTo.f k bt676.1 bt676.2.1 bt676.2.2.1 bt676.2.2.2).bind fun bt682 => ((spec_TreeUpTo.f k bt676.1 bt676.2.1 bt676.2.2.1 bt676.2.2.2).bind fun bt686 => (if (bt682.2 != bt686.2) = true then (some false) else ((laws_vSameLists.f k bt682.1 bt686.1).bind fun t690 => (if t690 = true then (if bt686.2 = true then (laws_FnTreesOfHurwitz.l0 k bt676.1 bt676.2.1 bt676.2.2.1 bt676.2.2.2 bt682.1 bt682.1 (bt682.1.length : Int) 0) else (some true)) else (some false)))))))) = some r := H
 have A3 := Aside0.mk A30
 clear A30
 by_cases c4 : t675 = true
 ·subst c4
  have H1 : (some true) = some r := by rw [if_pos rfl] at H; exact H
  clear H; have H := H1; clear H1
  obtain rfl := Option.some.inj H
  go_enter Try.func7, Try.ntmps7
  go_wp2_with (first | ((with_reducible refine gate_callee (f := 19) rfl ?_); refine goesL_ (some 21) rfl rfl Try.func19 (by kernel_rfl) rfl #[.slice A0 l0.length c0, .slice A1 l1.length c1] rfl (by (try simp only [List.map_toArray, List.map_cons, List.map_nil]); first | done | rfl) ?_; (with_reducible refine (laws_big.calls _ _ l0 _ _ l1 true _ ?side1 ?side2 ?side3 ?side4 A3.out).mono ?_); (case side1 => repeat (first | exact HR0.out | (with_reducible refine Kd.C_alloc ?_ _) | (with_reducible refine Kd.C_drewN ?_ _) | (with_reducible refine Kd.C_drew ?_))); (case side2 => exact HC0.out); (case side3 => repeat (first | exact HR1.out | (with_reducible refine Kd.C_alloc ?_ _) | (with_reducible refine Kd.C_drewN ?_ _) | (with_reducible refine Kd.C_drew ?_))); (case side4 => exact HC1.out); rintro e w' ⟨rfl, ⟨nd, rfl⟩⟩; refine ⟨_, rfl, ?_⟩))
  go_ret
  exact ⟨by first | rfl | (simp [errW_none, errW_some] <;> rfl) | (simp [*, errW_none, errW_some] <;> rfl), by repeat (first | (with_reducible first | exact HB.out | apply below_alloc | apply pw_below_drewN | apply below_drew1) | exact HB.out)⟩
 ·as_aux_lemma =>
  replace c4 := Bool.eq_false_iff.mpr c4
  subst c4
  have H1 : ((spec_DrawTreeUpTo.f k l0).bind fun bt676 => ((impl_TreeUpTo.f k bt676.1 bt676.2.1 bt676.2.2.1 bt676.2.2.2).bind fun bt682 => ((spec_TreeUpTo.f k bt676.1 bt676.2.1 bt676.2.2.1 bt676.2.2.2).bind fun bt686 => (if (bt682.2 != bt686.2) = true then (some false) else ((laws_vSameLists.f k bt682.1 bt686.1).bind fun t690 => (if t690 = true then (if bt686.2 = true then (laws_FnTreesOfHurwitz.l0 k bt676.1 bt676.2.1 bt676.2.2.1 bt676.2.2.2 bt682.1 bt682.1 (bt682.1.length : Int) 0) else (some true)) else (some false))))))) = some r := by rw [if_neg (show ¬ (false = true) by decide)] at H; exact H
  clear H; have H := H1; clear H1
  replace H := Option.bind_eq_some_iff.mp H
  obtain ⟨⟨t676, t677, t678, t679⟩, A50, H⟩ := H
  replace H : ((impl_TreeUpTo.f k t676 t677 t678 t679).bind fun bt682 => ((spec_TreeUpTo.f k t676 t677 t678 t679).bind fun bt686 => (if (bt682.2 != bt686.2) = true then (some false) else ((laws_vSameLists.f k bt682.1 bt686.1).bind fun t690 => (if t690 = true then (if bt686.2 = true then (laws_FnTreesOfHurwitz.l0 k t676 t677 t678 t679 bt682.1 bt682.1 (bt682.1.length : Int) 0) else (some true)) else (some false)))))) = some r := H
  have A5 := Aside0.mk A50
  clear A50
  replace H := Option.bind_eq_some_iff.mp H
  obtain ⟨⟨t682, t683⟩, A60, H⟩ := H
  replace H : ((spec_TreeUpTo.f k t676 t677 t678 t679).bind fun bt686 => (if (t683 != bt686.2) = true then (some false) else ((laws_vSameLists.f k t682 bt686.1).bind fun t690 => (if t690 = true then (if bt686.2 = true then (laws_FnTreesOfHurwitz.l0 k t676 t677 t678 t679 t682 t682 (t682.length : Int) 0) else (some true)) else (some false))))) = some r := H
  have A6 := Aside0.mk A60
  clear A60
  replace H := Option.bind_eq_some_iff.mp H
  obtain ⟨⟨t686, t689⟩, A70, H⟩ := H
  replace H : (if (t683 != t689) = true then (some false) else ((laws_vSameLists.f k t682 t686).bind fun t690 => (if t690 = true then (if t689 = true then (laws_FnTreesOfHurwitz.l0 k t676 t677 t678 t679 t682 t682 (t682.length : Int) 0) else (some true)) else (some false)))) = some r := H
  have A7 := Aside0.mk A70
  clear A70
  by_cases c8 : (t683 != t689) = true
  ·rw [if_pos c8] at H
   have c8b0 : (t683 != t689) = true := c8
   (try (have c8b1 : decide (t683 = t689) = false := by simpa using c8))
   (try (have c8b2 : (t683 == t689) = false := by simpa using c8))
   (try (have c8b3 : ¬ (t683 = t689) := by simpa using c8))
   clear c8
   obtain rfl := Option.some.inj H
   go_enter Try.func7, Try.ntmps7
   go_wp2_with (first | ((with_reducible refine gate_callee (f := 19) rfl ?_); refine goesL_ (some 21) rfl rfl Try.func19 (by kernel_rfl) rfl #[.slice A0 l0.length c0, .slice A1 l1.length c1] rfl (by (try simp only [List.map_toArray, List.map_cons, List.map_nil]); first | done | rfl) ?_; (with_reducible refine (laws_big.calls _ _ l0 _ _ l1 false _ ?side1 ?side2 ?side3 ?side4 A3.out).mono ?_); (case side1 => repeat (first | exact HR0.out | (with_reducible refine Kd.C_alloc ?_ _) | (with_reducible refine Kd.C_drewN ?_ _) | (with_reducible refine Kd.C_drew ?_))); (case side2 => exact HC0.out); (case side3 => repeat (first | exact HR1.out | (with_reducible refine Kd.C_alloc ?_ _) | (with_reducible refine Kd.C_drewN ?_ _) | (with_reducible refine Kd.C_drew ?_))); (case side4 => exact HC1.out); rintro e w' ⟨rfl, ⟨nd, rfl⟩⟩; refine ⟨_, rfl, ?_⟩) | ((with_reducible refine gate_callee (f := 42) rfl ?_); refine goesL_ (some 24) rfl rfl Try.func42 (by kernel_rfl) rfl #[.slice A0 l0.length c0] rfl (by (try simp only [List.map_toArray, List.map_cons, List.map_nil]); first | done | rfl) ?_; (with_reducible refine (spec_DrawTreeUpTo.calls k _ _ l0 t676 t677 t678 t679 _ ?side1 ?side2 A5.out).mono ?_); (case side1 => repeat (first | exact HR0.out | (with_reducible refine Kd.C_alloc ?_ _) | (with_reducible refine Kd.C_drewN ?_ _) | (with_reducible refine Kd.C_drew ?_))); (case side2 => exact HC0.out); rintro e w9 ⟨v680, rfl, ho0, hb⟩; refine ⟨_, rfl, ?_⟩; have n0_ := Aside0.mk (Kd.R_lower ho0 (below_size (by repeat (first | (with_reducible first | exact HB.out | apply below_alloc | apply pw_below_drewN | apply below_drew1) | exact HB.out)))); have n1_ := Aside0.mk (below_step (by repeat (first | (with_reducible first | exact HB.out | apply below_alloc | apply pw_below_drewN | apply below_drew1) | exact HB.out)) hb); clear HB; have HO681 := n0_; have HB := n1_; clear n0_ n1_; (try clear hb); (try clear hb2); (try clear hk); (try clear hi); (try clear ho0); obtain ⟨Ao10, co10, eo10⟩ := Kd.R_slice HO681.out; subst eo10) | ((with_reducible refine gate_callee (f := 18) rfl ?_); refine goesL_ (some 34) rfl rfl Try.func18 (by kernel_rfl) rfl #[.slice Ao10 t676.length co10, .int .i64 t677, .int .i64 t678, .int .i64 t679] rfl (by (try simp only [List.map_toArray, List.map_cons, List.map_nil]); first | done | rfl) ?_; (with_reducible refine (impl_TreeUpTo.calls k _ _ t676 t677 t678 t679 t682 t683 _ ?side1 ?side2 A6.out).mono ?_); (case side1 => repeat (first | exact (Kd.R_reads' HO681.out).2.2 | (with_reducible refine Kd.C_alloc ?_ _) | (with_reducible refine Kd.C_drewN ?_ _) | (with_reducible refine Kd.C_drew ?_))); (case side2 => exact (Kd.R_reads' HO681.out).2.1); rintro e w11 ⟨v684, rfl, ho0, hb⟩; refine ⟨_, rfl, ?_⟩; have n0_ := Aside0.mk (Kd.R_below (by (with_reducible repeat (first | apply Kd.R_alloc | apply Kd.R_drewN | apply Kd.R_drew)); exact HO681.out) hb); have n1_ := Aside0.mk (Kd.S_lower (Kd.S_new' ho0 (Kd.R_lt (by (with_reducible repeat (first | apply Kd.R_alloc | apply Kd.R_drewN | apply Kd.R_drew)); exact HO681.out))) (below_size (by repeat (first | (with_reducible first | exact HB.out | apply below_alloc | apply pw_below_drewN | apply below_drew1) | exact HB.out)))); have n2_ := Aside0.mk (below_step (by repeat (first | (with_reducible first | exact HB.out | apply below_alloc | apply pw_below_drewN | apply below_drew1) | exact HB.out)) hb); clear HO681; clear HB; have HO681 := n0_; have HO685 := n1_; have HB := n2_; clear n0_ n1_ n2_; (try clear hb); (try clear hb2); (try clear hk); (try clear hi); (try clear ho0)) | ((with_reducible refine gate_callee (f := 17) rfl ?_); refine goesL_ (some 42) rfl rfl Try.func17 (by kernel_rfl) rfl #[.slice Ao10 t676.length co10, .int .i64 t677, .int .i64 t678, .int .i64 t679] rfl (by (try simp only [List.map_toArray, List.map_cons, List.map_nil]); first | done | rfl) ?_; (with_reducible refine (spec_TreeUpTo.calls k _ _ t676 t677 t678 t679 t686 t689 _ ?side1 ?side2 A7.out).mono ?_); (case side1 => repeat (first | exact (Kd.R_reads' HO681.out).2.2 | (with_reducible refine Kd.C_alloc ?_ _) | (with_reducible refine Kd.C_drewN ?_ _) | (with_reducible refine Kd.C_drew ?_))); (case side2 => exact (Kd.R_reads' HO681.out).2.1); rintro e w12 ⟨v687, rfl, ho0, hb⟩; refine ⟨_, rfl, ?_⟩; have n0_ := Aside0.mk (Kd.R_below (by (with_reducible repeat (first | apply Kd.R_alloc | apply Kd.R_drewN | apply Kd.R_drew)); exact HO681.out) hb); have n1_ := Aside0.mk (Kd.S_below (by (with_reducible repeat (first | apply Kd.S_alloc | apply Kd.S_drewN | apply Kd.S_drew)); exact HO685.out) hb); have n2_ := Aside0.mk (Kd.V_lower (Kd.V_mono (ok' := fun k_ => some k_ ≠ (.slice Ao10 t676.length co10 : Value).ownBlock ∧ some k_ ≠ (v684 : Value).ownBlock) ho0 (fun k_ hk_ => ⟨(Kd.fresh' (Kd.R_lt (by (with_reducible repeat (first | apply Kd.R_alloc | apply Kd.R_drewN | apply Kd.R_drew)); exact HO681.out)) k_ hk_), (Kd.fresh' (Kd.S_lt (by (with_reducible repeat (first | apply Kd.S_alloc | apply Kd.S_drewN | apply Kd.S_drew)); exact HO685.out)) k_ hk_)⟩)) (below_size (by repeat (first | (with_reducible first | exact HB.out | apply below_alloc | apply pw_below_drewN | apply below_drew1) | exact HB.out)))); have n3_ := Aside0.mk (below_step (by repeat (first | (with_reducible first | exact HB.out | apply below_alloc | apply pw_below_drewN | apply below_drew1) | exact HB.out)) hb); clear HO681; clear HO685; clear HB; have HO681 := n0_; have HO685 := n1_; have HO688 := n2_; have HB := n3_; clear n0_ n1_ n2_ n3_; (try clear hb); (try clear hb2); (try clear hk); (try clear hi); (try clear ho0)))
   go_ret
   exact ⟨by first | rfl | (simp [errW_none, errW_some] <;> rfl) | (simp [*, errW_none, errW_some] <;> rfl), by repeat (first | (with_reducible first | exact HB.out | apply below_alloc | apply pw_below_drewN | apply below_drew1) | exact HB.out)⟩
  ·as_aux_lemma =>
   rw [if_neg c8] at H
   have c8b0 : (t683 != t689) = false := by simpa using c8
   (try (have c8b1 : decide (t683 = t689) = true := by simpa using c8))
   (try (have c8b2 : (t683 == t689) = true := by simpa using c8))
   clear c8
   replace H := Option.bind_eq_some_iff.mp H
   obtain ⟨t690, A130, H⟩ := H
   replace H : (if t690 = true then (if t689 = true then (laws_FnTreesOfHurwitz.l0 k t676 t677 t678 t679 t682 t682 (t682.length : Int) 0) else (some true)) else (some false)) = some r := H
   have A13 := Aside0.mk A130
   clear A130
   by_cases c14 : t690 = true
   ·as_aux_lemma =>
    subst c14
    have H1 : (if t689 = true then (laws_FnTreesOfHurwitz.l0 k t676 t677 t678 t679 t682 t682 (t682.length : Int) 0) else (some true)) = some r := by rw [if_pos rfl] at H; exact H
    clear H; have H := H1; clear H1
    by_cases c15 : t689 = true
    ·as_aux_lemma =>
     subst c15
     have H1 : (laws_FnTreesOfHurwitz.l0 k t676 t677 t678 t679 t682 t682 (t682.length : Int) 0) = some r := by rw [if_pos rfl] at H; exact H
     clear H; have H := H1; clear H1
     have H' := Aside0.mk H
     clear H
     go_enter Try.func7, Try.ntmps7
     go_wp2_with (first | ((with_reducible refine gate_callee (f := 19) rfl ?_); refine goesL_ (some 21) rfl rfl Try.func19 (by kernel_rfl) rfl #[.slice A0 l0.length c0, .slice A1 l1.length c1] rfl (by (try simp only [List.map_toArray, List.map_cons, List.map_nil]); first | done | rfl) ?_; (with_reducible refine (laws_big.calls _ _ l0 _ _ l1 false _ ?side1 ?side2 ?side3 ?side4 A3.out).mono ?_); (case side1 => repeat (first | exact HR0.out | (with_reducible refine Kd.C_alloc ?_ _) | (with_reducible refine Kd.C_drewN ?_ _) | (with_reducible refine Kd.C_drew ?_))); (case side2 => exact HC0.out); (case side3 => repeat (first | exact HR1.out | (with_reducible refine Kd.C_alloc ?_ _) | (with_reducible refine Kd.C_drewN ?_ _) | (with_reducible refine Kd.C_drew ?_))); (case side4 => exact HC1.out); rintro e w' ⟨rfl, ⟨nd, rfl⟩⟩; refine ⟨_, rfl, ?_⟩) | ((with_reducible refine gate_callee (f := 42) rfl ?_); refine goesL_ (some 24) rfl rfl Try.func42 (by kernel_rfl) rfl #[.slice A0 l0.length c0] rfl (by (try simp only [List.map_toArray, List.map_cons, List.map_nil]); first | done | rfl) ?_; (with_reducible refine (spec_DrawTreeUpTo.calls k _ _ l0 t676 t677 t678 t679 _ ?side1 ?side2 A5.out).mono ?_); (case side1 => repeat (first | exact HR0.out | (with_reducible refine Kd.C_alloc ?_ _) | (with_reducible refine Kd.C_drewN ?_ _) | (with_reducible refine Kd.C_drew ?_))); (case side2 => exact HC0.out); rintro e w16 ⟨v680, rfl, ho0, hb⟩; refine ⟨_, rfl, ?_⟩; have n0_ := Aside0.mk (Kd.R_lower ho0 (below_size (by repeat (first | (with_reducible first | exact HB.out | apply below_alloc | apply pw_below_drewN | apply below_drew1) | exact HB.out)))); have n1_ := Aside0.mk (below_step (by repeat (first | (with_reducible first | exact HB.out | apply below_alloc | apply pw_below_drewN | apply below_drew1) | exact HB.out)) hb); clear HB; have HO681 := n0_; have HB := n1_; clear n0_ n1_; (try clear hb); (try clear hb2); (try clear hk); (try clear hi); (try clear ho0); obtain ⟨Ao17, co17, eo17⟩ := Kd.R_slice HO681.out; subst eo17) | ((with_reducible refine gate_callee (f := 18) rfl ?_); refine goesL_ (some 34) rfl rfl Try.func18 (by kernel_rfl) rfl #[.slice Ao17 t676.length co17, .int .i64 t677, .int .i64 t678, .int .i64 t679] rfl (by (try simp only [List.map_toArray, List.map_cons, List.map_nil]); first | done | rfl) ?_; (with_reducible refine (impl_TreeUpTo.calls k _ _ t676 t677 t678 t679 t682 t683 _ ?side1 ?side2 A6.out).mono ?_); (case side1 => repeat (first | exact (Kd.R_reads' HO681.out).2.2 | (with_reducible refine Kd.C_alloc ?_ _) | (with_reducible refine Kd.C_drewN ?_ _) | (with_reducible refine Kd.C_drew ?_))); (case side2 => exact (Kd.R_reads' HO681.out).2.1); rintro e w18 ⟨v684, rfl, ho0, hb⟩; refine ⟨_, rfl, ?_⟩; have n0_ := Aside0.mk (Kd.R_below (by (with_reducible repeat (first | apply Kd.R_alloc | apply Kd.R_drewN | apply Kd.R_drew)); exact HO681.out) hb); have n1_ := Aside0.mk (Kd.S_lower (Kd.S_new' ho0 (Kd.R_lt (by (with_reducible repeat (first | apply Kd.R_alloc | apply Kd.R_drewN | apply Kd.R_drew)); exact HO681.out))) (below_size (by repeat (first | (with_reducible first | exact HB.out | apply below_alloc | apply pw_below_drewN | apply below_drew1) | exact HB.out)))); have n2_ := Aside0.mk (below_step (by repeat (first | (with_reducible first | exact HB.out | apply below_alloc | apply pw_below_drewN | apply below_drew1) | exact HB.out)) hb); clear HO681; clear HB; have HO681 := n0_; have HO685 := n1_; have HB := n2_; clear n0_ n1_ n2_; (try clear hb); (try clear hb2); (try clear hk); (try clear hi); (try clear ho0)) | ((with_reducible refine gate_callee (f := 17) rfl ?_); refine goesL_ (some 42) rfl rfl Try.func17 (by kernel_rfl) rfl #[.slice Ao17 t676.length co17, .int .i64 t677, .int .i64 t678, .int .i64 t679] rfl (by (try simp only [List.map_toArray, List.map_cons, List.map_nil]); first | done | rfl) ?_; (with_reducible refine (spec_TreeUpTo.calls k _ _ t676 t677 t678 t679 t686 true _ ?side1 ?side2 A7.out).mono ?_); (case side1 => repeat (first | exact (Kd.R_reads' HO681.out).2.2 | (with_reducible refine Kd.C_alloc ?_ _) | (with_reducible refine Kd.C_drewN ?_ _) | (with_reducible refine Kd.C_drew ?_))); (case side2 => exact (Kd.R_reads' HO681.out).2.1); rintro e w19 ⟨v687, rfl, ho0, hb⟩; refine ⟨_, rfl, ?_⟩; have n0_ := Aside0.mk (Kd.R_below (by (with_reducible repeat (first | apply Kd.R_alloc | apply Kd.R_drewN | apply Kd.R_drew)); exact HO681.out) hb); have n1_ := Aside0.mk (Kd.S_below (by (with_reducible repeat (first | apply Kd.S_alloc | apply Kd.S_drewN | apply Kd.S_drew)); exact HO685.out) hb); have n2_ := Aside0.mk (Kd.V_lower (Kd.V_mono (ok' := fun k_ => some k_ ≠ (.slice Ao17 t676.length co17 : Value).ownBlock ∧ some k_ ≠ (v684 : Value).ownBlock) ho0 (fun k_ hk_ => ⟨(Kd.fresh' (Kd.R_lt (by (with_reducible repeat (first | apply Kd.R_alloc | apply Kd.R_drewN | apply Kd.R_drew)); exact HO681.out)) k_ hk_), (Kd.fresh' (Kd.S_lt (by (with_reducible repeat (first | apply Kd.S_alloc | apply Kd.S_drewN | apply Kd.S_drew)); exact HO685.out)) k_ hk_)⟩)) (below_size (by repeat (first | (with_reducible first | exact HB.out | apply below_alloc | apply pw_below_drewN | apply below_drew1) | exact HB.out)))); have n3_ := Aside0.mk (below_step (by repeat (first | (with_reducible first | exact HB.out | apply below_alloc | apply pw_below_drewN | apply below_drew1) | exact HB.out)) hb); clear HO681; clear HO685; clear HB; have HO681 := n0_; have HO685 := n1_; have HO688 := n2_; have HB := n3_; clear n0_ n1_ n2_ n3_; (try clear hb); (try clear hb2); (try clear hk); (try clear hi); (try clear ho0); obtain ⟨Ao20, co20, eo20⟩ := Kd.S_slice HO685.out; subst eo20; obtain ⟨Ao21, co21, eo21⟩ := Kd.V_slice HO688.out; subst eo21) | (go_at_call 25; (with_reducible refine (laws_vSameLists.calls k _ _ t682 _ _ t686 true _ ?side1 ?side2 ?side3 ?side4 A13.out).mono ?_); (case side1 => repeat (first | exact (Kd.S_reads' HO685.out).2.2 | (with_reducible refine Kd.C_alloc ?_ _) | (with_reducible refine Kd.C_drewN ?_ _) | (with_reducible refine Kd.C_drew ?_))); (case side2 => exact (Kd.S_reads' HO685.out).2.1); (case side3 => repeat (first | exact (Kd.V_reads' HO688.out).2.2 | (with_reducible refine Kd.C_alloc ?_ _) | (with_reducible refine Kd.C_drewN ?_ _) | (with_reducible refine Kd.C_drew ?_))); (case side4 => exact (Kd.V_reads' HO688.out).2.1); rintro e w' ⟨rfl, ⟨nd, rfl⟩⟩))
     go_loopg [58] k (fun kq v58 w' => ∃ (x58_1 : Int), v58 = .int .i64 x58_1 ∧ Aside0 (laws_FnTreesOfHurwitz.l0 kq t676 t677 t678 t679 t682 t682 (t682.length : Int) x58_1 = some r) ∧ Aside0 (kq ≤ k) ∧ Aside0 (Kd.R (Kd.int .i64) 3 w' w.heap.size (fun _ => True) (.slice Ao17 t676.length co17) t676) ∧ Aside0 (Kd.S (Kd.slice 3 (Kd.int .i64)) 22 w' w.heap.size (fun k_ => some k_ ≠ ((.slice Ao17 t676.length co17) : Value).ownBlock) (.slice Ao20 t682.length co20) t682) ∧ Aside0 (Kd.S (Kd.slice 3 (Kd.int .i64)) 22 w' w.heap.size (fun k_ => some k_ ≠ ((.slice Ao17 t676.length co17) : Value).ownBlock) (.slice Ao20 t682.length co20) t682) ∧ Aside0 (Below w.heap.size w w'))
     case atStart => exact ⟨(0), (by first | rfl | (simp; done) | (simp [*]; done)), H', ⟨Nat.le_refl _⟩, ⟨by (with_reducible repeat (first | apply Kd.R_alloc | apply Kd.R_drewN | apply Kd.R_drew)); exact HO681.out⟩, ⟨by (with_reducible repeat (first | apply Kd.S_alloc | apply Kd.S_drewN | apply Kd.S_drew)); exact Kd.S_mono HO685.out (fun _ hk => hk.2)⟩, ⟨by (with_reducible repeat (first | apply Kd.S_alloc | apply Kd.S_drewN | apply Kd.S_drew)); exact Kd.S_mono HO685.out (fun _ hk => hk.2)⟩, ⟨by repeat (first | (with_reducible first | exact HB.out | apply below_alloc | apply pw_below_drewN | apply below_drew1) | exact HB.out)⟩⟩
     case round => as_aux_lemma =>
      clear H'
      try clear c1
      try clear p2
      try clear c4
      try clear c7
      try clear c8
      try clear c8b0
      try clear c8b1
      try clear c8b2
      try clear c14
      try clear c15
      try clear c17
      try clear c18
      try clear c19
      obtain ⟨x58_1, rfl, HA, HK1, HO_5, HO_9, HO_56, HB⟩ := hrel
      cases gk with
      | zero => exact absurd HA.out (by simp [laws_FnTreesOfHurwitz.l0])
      | succ k1 =>
       have H := HA.out; clear HA
       simp only [laws_FnTreesOfHurwitz.l0] at H
       by_cases c22 : x58_1 < (t682.length : Int)
       ·as_aux_lemma =>
        rw [if_pos c22] at H
        have c22b0 : decide (x58_1 < (t682.length : Int)) = true := decide_eq_true c22
        clear c22
        by_cases c23 : 0 ≤ x58_1
        rotate_left
        ·rw [if_neg c23] at H
         exact absurd H (by simp)
        as_aux_lemma =>
        rw [if_pos c23] at H
        have c23b0 : decide (0 ≤ x58_1) = true := decide_eq_true c23
        clear c23
        by_cases c24 : x58_1 < (t682.length : Int)
        rotate_left
        ·rw [if_neg c24] at H
         exact absurd H (by simp)
        as_aux_lemma =>
        rw [if_pos c24] at H
        have c24b0 : decide (x58_1 < (t682.length : Int)) = true := decide_eq_true c24
        clear c24
        replace H := Option.bind_eq_some_iff.mp H
        obtain ⟨t692, A250, H⟩ := H
        replace H : (if t692 = true then (if 0 < ((rd_L1 t682 x58_1).length : Int) then (if (rd (rd_L1 t682 x58_1) 0) > t679 then (some false) else ((laws_vSum.f k1 (rd_L1 t682 x58_1)).bind fun t694 => ((laws_vSum.f k1 t676).bind fun t695 => (if t694 < t695 then (some false) else (if x58_1 > 0 then (if 0 ≤ (wrap64 (x58_1 - 1)) then (if (wrap64 (x58_1 - 1)) < (t682.length : Int) then ((laws_vBefore.f k1 (rd_L1 t682 (wrap64 (x58_1 - 1))) (rd_L1 t682 x58_1)).bind fun t697 => (if t697 = true then ((impl_BranchesOf.f k1 (rd_L1 t682 x58_1) t677 t678).bind fun bt698 => (if bt698.2 = true then (laws_FnTreesOfHurwitz.l1 k1 t676 t677 t678 t679 t682 t682 (t682.length : Int) x58_1 bt698.1 (bt698.1.length : Int) 0) else (some false))) else (some false))) else (none)) else (none)) else ((impl_BranchesOf.f k1 (rd_L1 t682 x58_1) t677 t678).bind fun bt705 => (if bt705.2 = true then (laws_FnTreesOfHurwitz.l1 k1 t676 t677 t678 t679 t682 t682 (t682.length : Int) x58_1 bt705.1 (bt705.1.length : Int) 0) else (some false)))))))) else (none)) else (some false)) = some r := H
        have A25 := Aside0.mk A250
        clear A250
        by_cases c26 : t692 = true
        ·as_aux_lemma =>
         subst c26
         have H1 : (if 0 < ((rd_L1 t682 x58_1).length : Int) then (if (rd (rd_L1 t682 x58_1) 0) > t679 then (some false) else ((laws_vSum.f k1 (rd_L1 t682 x58_1)).bind fun t694 => ((laws_vSum.f k1 t676).bind fun t695 => (if t694 < t695 then (some false) else (if x58_1 > 0 then (if 0 ≤ (wrap64 (x58_1 - 1)) then (if (wrap64 (x58_1 - 1)) < (t682.length : Int) then ((laws_vBefore.f k1 (rd_L1 t682 (wrap64 (x58_1 - 1))) (rd_L1 t682 x58_1)).bind fun t697 => (if t697 = true then ((impl_BranchesOf.f k1 (rd_L1 t682 x58_1) t677 t678).bind fun bt698 => (if bt698.2 = true then (laws_FnTreesOfHurwitz.l1 k1 t676 t677 t678 t679 t682 t682 (t682.length : Int) x58_1 bt698.1 (bt698.1.length : Int) 0) else (some false))) else (some false))) else (none)) else (none)) else ((impl_BranchesOf.f k1 (rd_L1 t682 x58_1) t677 t678).bind fun bt705 => (if bt705.2 = true then (laws_FnTreesOfHurwitz.l1 k1 t676 t677 t678 t679 t682 t682 (t682.length : Int) x58_1 bt705.1 (bt705.1.length : Int) 0) else (some false)))))))) else (none)) = some r := by rw [if_pos rfl] at H; exact H
         clear H; have H := H1; clear H1
         by_cases c27 : 0 < ((rd_L1 t682 x58_1).length : Int)
         rotate_left
         ·rw [if_neg c27] at H
          exact absurd H (by simp)
         as_aux_lemma =>
         rw [if_pos c27] at H
         have c27b0 : decide (0 < ((rd_L1 t682 x58_1).length : Int)) = true := decide_eq_true c27
         have c27b1 : decide (0 < (rd_L1 t682 x58_1).length) = true := decide_eq_true (by omega)
         clear c27
         by_cases c28 : (rd (rd_L1 t682 x58_1) 0) > t679
         ·as_aux_lemma =>
          rw [if_pos c28] at H
          have c28b0 : decide (t679 < (rd (rd_L1 t682 x58_1) 0)) = true := decide_eq_true c28
          clear c28
          obtain rfl := Option.some.inj H
          have p691 : 0 ≤ (x58_1 : Int) := of_decide_eq_true (by first | (with_reducible assumption) | assumption)
          have q691 : x58_1 < (t682.length : Int) := of_decide_eq_true (by first | (with_reducible assumption) | assumption)
          obtain ⟨ad691, A691_0, c691_0, e691, hx691_0, hl691_0, hi691_0⟩ := at_L1 (Kd.S_reads' HO_56.out).2.2 x58_1 p691 q691
          cases e691
          obtain ⟨ce691, hce691, hMe691, hcc691⟩ := Kd.S_get HO_56.out [] x58_1 p691 (by first | exact q691 | exact of_decide_eq_true (by first | (with_reducible assumption) | assumption) | (have e_ := (Kd.S_reads' HO_56.out).1; omega))
          obtain ⟨ve691_0, rfl, ge691_0⟩ := hMe691
          have hv691_0 := hcc691 0 _ rfl
          rw [Nat.add_zero, show ((Kd.slice 3 (Kd.int .i64))).sz = 1 from rfl, Nat.mul_one] at hv691_0
          replace hv691_0 := Option.some.inj (hv691_0.symm.trans hx691_0)
          rw [hv691_0] at ge691_0
          have HL691_0 := Aside0.mk (show Kd.R (Kd.int .i64) 3 _ _ _ _ (rd_L1 t682 x58_1) from ge691_0)
          clear hv691_0 ge691_0; clear hcc691 hce691
          have HR691_0 := Aside0.mk hi691_0
          have HC691_0 := Aside0.mk hl691_0
          clear hi691_0 hl691_0; replace p691 := eq_true p691; replace q691 := eq_true q691
          go_wp2_with (first | ((with_reducible refine gate_callee (f := 39) rfl ?_); refine goesL_ (some 66) rfl rfl Try.func39 (by kernel_rfl) rfl #[.slice A691_0 (rd_L1 t682 x58_1).length c691_0, .int .i64 t677, .int .i64 t678] rfl (by (try simp only [List.map_toArray, List.map_cons, List.map_nil]); first | done | rfl) ?_; (with_reducible refine (laws_vSolves.calls k1 _ _ (rd_L1 t682 x58_1) t677 t678 true _ ?side1 ?side2 A25.out).mono ?_); (case side1 => repeat (first | exact (by repeat (first | (with_reducible exact HR691_0.out) | (with_reducible refine Kd.C_alloc ?_ _) | (with_reducible refine Kd.C_drewN ?_ _) | (with_reducible refine Kd.C_drew ?_) | exact HR691_0.out)) | (with_reducible refine Kd.C_alloc ?_ _) | (with_reducible refine Kd.C_drewN ?_ _) | (with_reducible refine Kd.C_drew ?_))); (case side2 => exact HC691_0.out); rintro e w29 ⟨rfl, hb⟩; refine ⟨_, rfl, ?_⟩; have n0_ := Aside0.mk (Kd.R_below (by (with_reducible repeat (first | apply Kd.R_alloc | apply Kd.R_drewN | apply Kd.R_drew)); exact HO_5.out) hb); have n1_ := Aside0.mk (Kd.S_below (by (with_reducible repeat (first | apply Kd.S_alloc | apply Kd.S_drewN | apply Kd.S_drew)); exact HO_9.out) hb); have n2_ := Aside0.mk (Kd.S_below (by (with_reducible repeat (first | apply Kd.S_alloc | apply Kd.S_drewN | apply Kd.S_drew)); exact HO_56.out) hb); have n3_ := Aside0.mk (Kd.R_below (by (with_reducible repeat (first | apply Kd.R_alloc | apply Kd.R_drewN | apply Kd.R_drew)); exact HL691_0.out) hb); have n4_ := Aside0.mk (Kd.C_below (by repeat (first | (with_reducible exact HR691_0.out) | (with_reducible refine Kd.C_alloc ?_ _) | (with_reducible refine Kd.C_drewN ?_ _) | (with_reducible refine Kd.C_drew ?_) | exact HR691_0.out)) hb); have n5_ := Aside0.mk (below_step (by repeat (first | (with_reducible first | exact HB.out | apply below_alloc | apply pw_below_drewN | apply below_drew1) | exact HB.out)) hb); clear HO_5; clear HO_9; clear HO_56; clear HL691_0; clear HR691_0; clear HB; have HO_5 := n0_; have HO_9 := n1_; have HO_56 := n2_; have HL691_0 := n3_; have HR691_0 := n4_; have HB := n5_; clear n0_ n1_ n2_ n3_ n4_ n5_; (try clear hb); (try clear hb2); (try clear hk); (try clear hi); have p693 : 0 ≤ (0 : Int) := (by omega); have q693 : 0 < ((rd_L1 t682 x58_1).length : Int) := of_decide_eq_true (by first | (with_reducible assumption) | assumption); obtain ⟨ad693, e693, hx693_0⟩ := Kd.at_int (by repeat (first | (with_reducible exact HR691_0.out) | (with_reducible refine Kd.C_alloc ?_ _) | (with_reducible refine Kd.C_drewN ?_ _) | (with_reducible refine Kd.C_drew ?_) | exact HR691_0.out)) 0 p693 q693; cases e693; have qi693 : (0 < (rd_L1 t682 x58_1).length) = True := eq_true (by omega); (try rw [show ((0 : Int)).toNat = 0 from rfl] at hx693_0); (try rw [Addr.add_zero'] at hx693_0); replace p693 := eq_true p693; replace q693 := eq_true q693))
          go_ret
          exact ⟨by first | rfl | (simp [errW_none, errW_some] <;> rfl) | (simp [*, errW_none, errW_some] <;> rfl), by repeat (first | (with_reducible first | exact HB.out | apply below_alloc | apply pw_below_drewN | apply below_drew1) | exact HB.out)⟩
         ·as_aux_lemma =>
          rw [if_neg c28] at H
          have c28b0 : decide (t679 < (rd (rd_L1 t682 x58_1) 0)) = false := decide_eq_false c28
          clear c28
          replace H := Option.bind_eq_some_iff.mp H
          obtain ⟨t694, A300, H⟩ := H
          replace H : ((laws_vSum.f k1 t676).bind fun t695 => (if t694 < t695 then (some false) else (if x58_1 > 0 then (if 0 ≤ (wrap64 (x58_1 - 1)) then (if (wrap64 (x58_1 - 1)) < (t682.length : Int) then ((laws_vBefore.f k1 (rd_L1 t682 (wrap64 (x58_1 - 1))) (rd_L1 t682 x58_1)).bind fun t697 => (if t697 = true then ((impl_BranchesOf.f k1 (rd_L1 t682 x58_1) t677 t678).bind fun bt698 => (if bt698.2 = true then (laws_FnTreesOfHurwitz.l1 k1 t676 t677 t678 t679 t682 t682 (t682.length : Int) x58_1 bt698.1 (bt698.1.length : Int) 0) else (some false))) else (some false))) else (none)) else (none)) else ((impl_BranchesOf.f k1 (rd_L1 t682 x58_1) t677 t678).bind fun bt705 => (if bt705.2 = true then (laws_FnTreesOfHurwitz.l1 k1 t676 t677 t678 t679 t682 t682 (t682.length : Int) x58_1 bt705.1 (bt705.1.length : Int) 0) else (some false)))))) = some r := H
          have A30 := Aside0.mk A300
          clear A300
          replace H := Option.bind_eq_some_iff.mp H
          obtain ⟨t695, A310, H⟩ := H
          replace H : (if t694 < t695 then (some false) else (if x58_1 > 0 then (if 0 ≤ (wrap64 (x58_1 - 1)) then (if (wrap64 (x58_1 - 1)) < (t682.length : Int) then ((laws_vBefore.f k1 (rd_L1 t682 (wrap64 (x58_1 - 1))) (rd_L1 t682 x58_1)).bind fun t697 => (if t697 = true then ((impl_BranchesOf.f k1 (rd_L1 t682 x58_1) t677 t678).bind fun bt698 => (if bt698.2 = true then (laws_FnTreesOfHurwitz.l1 k1 t676 t677 t678 t679 t682 t682 (t682.length : Int) x58_1 bt698.1 (bt698.1.length : Int) 0) else (some false))) else (some false))) else (none)) else (none)) else ((impl_BranchesOf.f k1 (rd_L1 t682 x58_1) t677 t678).bind fun bt705 => (if bt705.2 = true then (laws_FnTreesOfHurwitz.l1 k1 t676 t677 t678 t679 t682 t682 (t682.length : Int) x58_1 bt705.1 (bt705.1.length : Int) 0) else (some false))))) = some r := H
          have A31 := Aside0.mk A310
          clear A310
          by_cases c32 : t694 < t695
          ·as_aux_lemma =>
           rw [if_pos c32] at H
           have c32b0 : decide (t694 < t695) = true := decide_eq_true c32
           clear c32
           obtain rfl := Option.some.inj H
           have p691 : 0 ≤ (x58_1 : Int) := of_decide_eq_true (by first | (with_reducible assumption) | assumption)
           have q691 : x58_1 < (t682.length : Int) := of_decide_eq_true (by first | (with_reducible assumption) | assumption)
           obtain ⟨ad691, A691_0, c691_0, e691, hx691_0, hl691_0, hi691_0⟩ := at_L1 (Kd.S_reads' HO_56.out).2.2 x58_1 p691 q691
           cases e691
           obtain ⟨ce691, hce691, hMe691, hcc691⟩ := Kd.S_get HO_56.out [] x58_1 p691 (by first | exact q691 | exact of_decide_eq_true (by first | (with_reducible assumption) | assumption) | (have e_ := (Kd.S_reads' HO_56.out).1; omega))
           obtain ⟨ve691_0, rfl, ge691_0⟩ := hMe691
           have hv691_0 := hcc691 0 _ rfl
           rw [Nat.add_zero, show ((Kd.slice 3 (Kd.int .i64))).sz = 1 from rfl, Nat.mul_one] at hv691_0
           replace hv691_0 := Option.some.inj (hv691_0.symm.trans hx691_0)
           rw [hv691_0] at ge691_0
           have HL691_0 := Aside0.mk (show Kd.R (Kd.int .i64) 3 _ _ _ _ (rd_L1 t682 x58_1) from ge691_0)
           clear hv691_0 ge691_0; clear hcc691 hce691
           have HR691_0 := Aside0.mk hi691_0
           have HC691_0 := Aside0.mk hl691_0
           clear hi691_0 hl691_0; replace p691 := eq_true p691; replace q691 := eq_true q691
           go_wp2_with (first | ((with_reducible refine gate_callee (f := 39) rfl ?_); refine goesL_ (some 66) rfl rfl Try.func39 (by kernel_rfl) rfl #[.slice A691_0 (rd_L1 t682 x58_1).length c691_0, .int .i64 t677, .int .i64 t678] rfl (by (try simp only [List.map_toArray, List.map_cons, List.map_nil]); first | done | rfl) ?_; (with_reducible refine (laws_vSolves.calls k1 _ _ (rd_L1 t682 x58_1) t677 t678 true _ ?side1 ?side2 A25.out).mono ?_); (case side1 => repeat (first | exact (by repeat (first | (with_reducible exact HR691_0.out) | (with_reducible refine Kd.C_alloc ?_ _) | (with_reducible refine Kd.C_drewN ?_ _) | (with_reducible refine Kd.C_drew ?_) | exact HR691_0.out)) | (with_reducible refine Kd.C_alloc ?_ _) | (with_reducible refine Kd.C_drewN ?_ _) | (with_reducible refine Kd.C_drew ?_))); (case side2 => exact HC691_0.out); rintro e w33 ⟨rfl, hb⟩; refine ⟨_, rfl, ?_⟩; have n0_ := Aside0.mk (Kd.R_below (by (with_reducible repeat (first | apply Kd.R_alloc | apply Kd.R_drewN | apply Kd.R_drew)); exact HO_5.out) hb); have n1_ := Aside0.mk (Kd.S_below (by (with_reducible repeat (first | apply Kd.S_alloc | apply Kd.S_drewN | apply Kd.S_drew)); exact HO_9.out) hb); have n2_ := Aside0.mk (Kd.S_below (by (with_reducible repeat (first | apply Kd.S_alloc | apply Kd.S_drewN | apply Kd.S_drew)); exact HO_56.out) hb); have n3_ := Aside0.mk (Kd.R_below (by (with_reducible repeat (first | apply Kd.R_alloc | apply Kd.R_drewN | apply Kd.R_drew)); exact HL691_0.out) hb); have n4_ := Aside0.mk (Kd.C_below (by repeat (first | (with_reducible exact HR691_0.out) | (with_reducible refine Kd.C_alloc ?_ _) | (with_reducible refine Kd.C_drewN ?_ _) | (with_reducible refine Kd.C_drew ?_) | exact HR691_0.out)) hb); have n5_ := Aside0.mk (below_step (by repeat (first | (with_reducible first | exact HB.out | apply below_alloc | apply pw_below_drewN | apply below_drew1) | exact HB.out)) hb); clear HO_5; clear HO_9; clear HO_56; clear HL691_0; clear HR691_0; clear HB; have HO_5 := n0_; have HO_9 := n1_; have HO_56 := n2_; have HL691_0 := n3_; have HR691_0 := n4_; have HB := n5_; clear n0_ n1_ n2_ n3_ n4_ n5_; (try clear hb); (try clear hb2); (try clear hk); (try clear hi); have p693 : 0 ≤ (0 : Int) := (by omega); have q693 : 0 < ((rd_L1 t682 x58_1).length : Int) := of_decide_eq_true (by first | (with_reducible assumption) | assumption); obtain ⟨ad693, e693, hx693_0⟩ := Kd.at_int (by repeat (first | (with_reducible exact HR691_0.out) | (with_reducible refine Kd.C_alloc ?_ _) | (with_reducible refine Kd.C_drewN ?_ _) | (with_reducible refine Kd.C_drew ?_) | exact HR691_0.out)) 0 p693 q693; cases e693; have qi693 : (0 < (rd_L1 t682 x58_1).length) = True := eq_true (by omega); (try rw [show ((0 : Int)).toNat = 0 from rfl] at hx693_0); (try rw [Addr.add_zero'] at hx693_0); replace p693 := eq_true p693; replace q693 := eq_true q693) | (go_at_call 40; (with_reducible refine (laws_vSum.calls k1 _ _ (rd_L1 t682 x58_1) t694 _ ?side1 ?side2 A30.out).mono ?_); (case side1 => repeat (first | exact (by repeat (first | (with_reducible exact HR691_0.out) | (with_reducible refine Kd.C_alloc ?_ _) | (with_reducible refine Kd.C_drewN ?_ _) | (with_reducible refine Kd.C_drew ?_) | exact HR691_0.out)) | (with_reducible refine Kd.C_alloc ?_ _) | (with_reducible refine Kd.C_drewN ?_ _) | (with_reducible refine Kd.C_drew ?_))); (case side2 => exact HC691_0.out); rintro e w' ⟨rfl, ⟨nd, rfl⟩⟩) | (go_at_call 40; (with_reducible refine (laws_vSum.calls k1 _ _ t676 t695 _ ?side1 ?side2 A31.out).mono ?_); (case side1 => repeat (first | exact (Kd.R_reads' HO_5.out).2.2 | (with_reducible refine Kd.C_alloc ?_ _) | (with_reducible refine Kd.C_drewN ?_ _) | (with_reducible refine Kd.C_drew ?_))); (case side2 => exact (Kd.R_reads' HO_5.out).2.1); rintro e w' ⟨rfl, ⟨nd, rfl⟩⟩))
           go_ret
           exact ⟨by first | rfl | (simp [errW_none, errW_some] <;> rfl) | (simp [*, errW_none, errW_some] <;> rfl), by repeat (first | (with_reducible first | exact HB.out | apply below_alloc | apply pw_below_drewN | apply below_drew1) | exact HB.out)⟩
          ·as_aux_lemma =>
           rw [if_neg c32] at H
           have c32b0 : decide (t694 < t695) = false := decide_eq_false c32
           clear c32
           by_cases c34 : x58_1 > 0
           ·as_aux_lemma =>
            rw [if_pos c34] at H
            have c34b0 : decide (0 < x58_1) = true := decide_eq_true c34
            clear c34
            obtain ⟨ji35, hji35⟩ : ∃ j_ : Int, (wrap64 (x58_1 - 1)) = j_ := ⟨_, rfl⟩
            replace H : (if 0 ≤ (ji35) then (if (ji35) < (t682.length : Int) then ((laws_vBefore.f k1 (rd_L1 t682 (ji35)) (rd_L1 t682 x58_1)).bind fun t697 => (if t697 = true then ((impl_BranchesOf.f k1 (rd_L1 t682 x58_1) t677 t678).bind fun bt698 => (if bt698.2 = true then (laws_FnTreesOfHurwitz.l1 k1 t676 t677 t678 t679 t682 t682 (t682.length : Int) x58_1 bt698.1 (bt698.1.length : Int) 0) else (some false))) else (some false))) else (none)) else (none)) = some r := by first | (rw [hji35] at H; exact H) | (simp only [hji35] at H ⊢; exact H)
            (try rw [hji35] at A25)
            (try rw [hji35] at A30)
            (try rw [hji35] at A31)
            have hji35w : (IntKind.i64.wrap (x58_1 - 1)) = ji35 := (i64_w _).trans hji35
            by_cases c36 : 0 ≤ (ji35)
            rotate_left
            ·rw [if_neg c36] at H
             exact absurd H (by simp)
            as_aux_lemma =>
            rw [if_pos c36] at H
            have c36b0 : decide (0 ≤ (ji35)) = true := decide_eq_true c36
            clear c36
            by_cases c37 : (ji35) < (t682.length : Int)
            rotate_left
            ·rw [if_neg c37] at H
             exact absurd H (by simp)
            as_aux_lemma =>
            rw [if_pos c37] at H
            have c37b0 : decide ((ji35) < (t682.length : Int)) = true := decide_eq_true c37
            clear c37
            replace H := Option.bind_eq_some_iff.mp H
            obtain ⟨t697, A380, H⟩ := H
            replace H : (if t697 = true then ((impl_BranchesOf.f k1 (rd_L1 t682 x58_1) t677 t678).bind fun bt698 => (if bt698.2 = true then (laws_FnTreesOfHurwitz.l1 k1 t676 t677 t678 t679 t682 t682 (t682.length : Int) x58_1 bt698.1 (bt698.1.length : Int) 0) else (some false))) else (some false)) = some r := H
            have A38 := Aside0.mk A380
            clear A380
            by_cases c39 : t697 = true
            ·as_aux_lemma =>
             subst c39
             have H1 : ((impl_BranchesOf.f k1 (rd_L1 t682 x58_1) t677 t678).bind fun bt698 => (if bt698.2 = true then (laws_FnTreesOfHurwitz.l1 k1 t676 t677 t678 t679 t682 t682 (t682.length : Int) x58_1 bt698.1 (bt698.1.length : Int) 0) else (some false))) = some r := by rw [if_pos rfl] at H; exact H
             clear H; have H := H1; clear H1
             replace H := Option.bind_eq_some_iff.mp H
             obtain ⟨⟨t698, t699⟩, A400, H⟩ := H
             replace H : (if t699 = true then (laws_FnTreesOfHurwitz.l1 k1 t676 t677 t678 t679 t682 t682 (t682.length : Int) x58_1 t698 (t698.length : Int) 0) else (some false)) = some r := H
             have A40 := Aside0.mk A400
             clear A400
             by_cases c41 : t699 = true
             ·as_aux_lemma =>
              subst c41
              have H1 : (laws_FnTreesOfHurwitz.l1 k1 t676 t677 t678 t679 t682 t682 (t682.length : Int) x58_1 t698 (t698.length : Int) 0) = some r := by rw [if_pos rfl] at H; exact H
              clear H; have H := H1; clear H1
              have H' := Aside0.mk H
              clear H
              have p691 : 0 ≤ (x58_1 : Int) := of_decide_eq_true (by first | (with_reducible assumption) | assumption)
              have q691 : x58_1 < (t682.length : Int) := of_decide_eq_true (by first | (with_reducible assumption) | assumption)
              obtain ⟨ad691, A691_0, c691_0, e691, hx691_0, hl691_0, hi691_0⟩ := at_L1 (Kd.S_reads' HO_56.out).2.2 x58_1 p691 q691
              cases e691
              obtain ⟨ce691, hce691, hMe691, hcc691⟩ := Kd.S_get HO_56.out [] x58_1 p691 (by first | exact q691 | exact of_decide_eq_true (by first | (with_reducible assumption) | assumption) | (have e_ := (Kd.S_reads' HO_56.out).1; omega))
              obtain ⟨ve691_0, rfl, ge691_0⟩ := hMe691
              have hv691_0 := hcc691 0 _ rfl
              rw [Nat.add_zero, show ((Kd.slice 3 (Kd.int .i64))).sz = 1 from rfl, Nat.mul_one] at hv691_0
              replace hv691_0 := Option.some.inj (hv691_0.symm.trans hx691_0)
              rw [hv691_0] at ge691_0
              have HL691_0 := Aside0.mk (show Kd.R (Kd.int .i64) 3 _ _ _ _ (rd_L1 t682 x58_1) from ge691_0)
              clear hv691_0 ge691_0; clear hcc691 hce691
              have HR691_0 := Aside0.mk hi691_0
              have HC691_0 := Aside0.mk hl691_0
              clear hi691_0 hl691_0; replace p691 := eq_true p691; replace q691 := eq_true q691
              go_wp2_with (first | ((with_reducible refine gate_callee (f := 39) rfl ?_); refine goesL_ (some 66) rfl rfl Try.func39 (by kernel_rfl) rfl #[.slice A691_0 (rd_L1 t682 x58_1).length c691_0, .int .i64 t677, .int .i64 t678] rfl (by (try simp only [List.map_toArray, List.map_cons, List.map_nil]); first | done | rfl) ?_; (with_reducible refine (laws_vSolves.calls k1 _ _ (rd_L1 t682 x58_1) t677 t678 true _ ?side1 ?side2 A25.out).mono ?_); (case side1 => repeat (first | exact (by repeat (first | (with_reducible exact HR691_0.out) | (with_reducible refine Kd.C_alloc ?_ _) | (with_reducible refine Kd.C_drewN ?_ _) | (with_reducible refine Kd.C_drew ?_) | exact HR691_0.out)) | (with_reducible refine Kd.C_alloc ?_ _) | (with_reducible refine Kd.C_drewN ?_ _) | (with_reducible refine Kd.C_drew ?_))); (case side2 => exact HC691_0.out); rintro e w42 ⟨rfl, hb⟩; refine ⟨_, rfl, ?_⟩; have n0_ := Aside0.mk (Kd.R_below (by (with_reducible repeat (first | apply Kd.R_alloc | apply Kd.R_drewN | apply Kd.R_drew)); exact HO_5.out) hb); have n1_ := Aside0.mk (Kd.S_below (by (with_reducible repeat (first | apply Kd.S_alloc | apply Kd.S_drewN | apply Kd.S_drew)); exact HO_9.out) hb); have n2_ := Aside0.mk (Kd.S_below (by (with_reducible repeat (first | apply Kd.S_alloc | apply Kd.S_drewN | apply Kd.S_drew)); exact HO_56.out) hb); have n3_ := Aside0.mk (Kd.R_below (by (with_reducible repeat (first | apply Kd.R_alloc | apply Kd.R_drewN | apply Kd.R_drew)); exact HL691_0.out) hb); have n4_ := Aside0.mk (Kd.C_below (by repeat (first | (with_reducible exact HR691_0.out) | (with_reducible refine Kd.C_alloc ?_ _) | (with_reducible refine Kd.C_drewN ?_ _) | (with_reducible refine Kd.C_drew ?_) | exact HR691_0.out)) hb); have n5_ := Aside0.mk (below_step (by repeat (first | (with_reducible first | exact HB.out | apply below_alloc | apply pw_below_drewN | apply below_drew1) | exact HB.out)) hb); clear HO_5; clear HO_9; clear HO_56; clear HL691_0; clear HR691_0; clear HB; have HO_5 := n0_; have HO_9 := n1_; have HO_56 := n2_; have HL691_0 := n3_; have HR691_0 := n4_; have HB := n5_; clear n0_ n1_ n2_ n3_ n4_ n5_; (try clear hb); (try clear hb2); (try clear hk); (try clear hi); have p693 : 0 ≤ (0 : Int) := (by omega); have q693 : 0 < ((rd_L1 t682 x58_1).length : Int) := of_decide_eq_true (by first | (with_reducible assumption) | assumption); obtain ⟨ad693, e693, hx693_0⟩ := Kd.at_int (by repeat (first | (with_reducible exact HR691_0.out) | (with_reducible refine Kd.C_alloc ?_ _) | (with_reducible refine Kd.C_drewN ?_ _) | (with_reducible refine Kd.C_drew ?_) | exact HR691_0.out)) 0 p693 q693; cases e693; have qi693 : (0 < (rd_L1 t682 x58_1).length) = True := eq_true (by omega); (try rw [show ((0 : Int)).toNat = 0 from rfl] at hx693_0); (try rw [Addr.add_zero'] at hx693_0); replace p693 := eq_true p693; replace q693 := eq_true q693) | (go_at_call 40; (with_reducible refine (laws_vSum.calls k1 _ _ (rd_L1 t682 x58_1) t694 _ ?side1 ?side2 A30.out).mono ?_); (case side1 => repeat (first | exact (by repeat (first | (with_reducible exact HR691_0.out) | (with_reducible refine Kd.C_alloc ?_ _) | (with_reducible refine Kd.C_drewN ?_ _) | (with_reducible refine Kd.C_drew ?_) | exact HR691_0.out)) | (with_reducible refine Kd.C_alloc ?_ _) | (with_reducible refine Kd.C_drewN ?_ _) | (with_reducible refine Kd.C_drew ?_))); (case side2 => exact HC691_0.out); rintro e w' ⟨rfl, ⟨nd, rfl⟩⟩) | (go_at_call 40; (with_reducible refine (laws_vSum.calls k1 _ _ t676 t695 _ ?side1 ?side2 A31.out).mono ?_); (case side1 => repeat (first | exact (Kd.R_reads' HO_5.out).2.2 | (with_reducible refine Kd.C_alloc ?_ _) | (with_reducible refine Kd.C_drewN ?_ _) | (with_reducible refine Kd.C_drew ?_))); (case side2 => exact (Kd.R_reads' HO_5.out).2.1); rintro e w' ⟨rfl, ⟨nd, rfl⟩⟩; have p696 : 0 ≤ ((ji35) : Int) := of_decide_eq_true (by first | (with_reducible assumption) | assumption); have q696 : (ji35) < (t682.length : Int) := of_decide_eq_true (by first | (with_reducible assumption) | assumption); obtain ⟨ad696, A696_0, c696_0, e696, hx696_0, hl696_0, hi696_0⟩ := at_L1 (Kd.S_reads' HO_9.out).2.2 (ji35) p696 q696; obtain rfl : ad691 = ad696 := (by injection e696); obtain ⟨ce696, hce696, hMe696, hcc696⟩ := Kd.S_get HO_9.out [] (ji35) p696 (by first | exact q696 | exact of_decide_eq_true (by first | (with_reducible assumption) | assumption) | (have e_ := (Kd.S_reads' HO_9.out).1; omega)); obtain ⟨ve696_0, rfl, ge696_0⟩ := hMe696; have hv696_0 := hcc696 0 _ rfl; rw [Nat.add_zero, show ((Kd.slice 3 (Kd.int .i64))).sz = 1 from rfl, Nat.mul_one] at hv696_0; replace hv696_0 := Option.some.inj (hv696_0.symm.trans hx696_0); rw [hv696_0] at ge696_0; have HL696_0 := Aside0.mk (show Kd.R (Kd.int .i64) 3 _ _ _ _ (rd_L1 t682 (ji35)) from ge696_0); clear hv696_0 ge696_0; clear hcc696 hce696; have HR696_0 := Aside0.mk hi696_0; have HC696_0 := Aside0.mk hl696_0; clear hi696_0 hl696_0; replace p696 := eq_true p696; replace q696 := eq_true q696) | (go_at_call 32; (with_reducible refine (laws_vBefore.calls k1 _ _ (rd_L1 t682 (ji35)) _ _ (rd_L1 t682 x58_1) true _ ?side1 ?side2 ?side3 ?side4 A38.out).mono ?_); (case side1 => repeat (first | exact (by repeat (first | (with_reducible exact HR696_0.out) | (with_reducible refine Kd.C_alloc ?_ _) | (with_reducible refine Kd.C_drewN ?_ _) | (with_reducible refine Kd.C_drew ?_) | exact HR696_0.out)) | (with_reducible refine Kd.C_alloc ?_ _) | (with_reducible refine Kd.C_drewN ?_ _) | (with_reducible refine Kd.C_drew ?_))); (case side2 => exact HC696_0.out); (case side3 => repeat (first | exact (by repeat (first | (with_reducible exact HR691_0.out) | (with_reducible refine Kd.C_alloc ?_ _) | (with_reducible refine Kd.C_drewN ?_ _) | (with_reducible refine Kd.C_drew ?_) | exact HR691_0.out)) | (with_reducible refine Kd.C_alloc ?_ _) | (with_reducible refine Kd.C_drewN ?_ _) | (with_reducible refine Kd.C_drew ?_))); (case side4 => exact HC691_0.out); rintro e w' ⟨rfl, ⟨nd, rfl⟩⟩) | ((with_reducible refine gate_callee (f := 11) rfl ?_); refine goesL_ (some 100) rfl rfl Try.func11 (by kernel_rfl) rfl #[.slice (some ad693) (rd_L1 t682 x58_1).length c691_0, .int .i64 t677, .int .i64 t678] rfl (by (try simp only [List.map_toArray, List.map_cons, List.map_nil]); first | done | rfl) ?_; (with_reducible refine (impl_BranchesOf.calls k1 _ _ (rd_L1 t682 x58_1) t677 t678 t698 true _ ?side1 ?side2 A40.out).mono ?_); (case side1 => repeat (first | exact (by repeat (first | (with_reducible exact HR691_0.out) | (with_reducible refine Kd.C_alloc ?_ _) | (with_reducible refine Kd.C_drewN ?_ _) | (with_reducible refine Kd.C_drew ?_) | exact HR691_0.out)) | (with_reducible refine Kd.C_alloc ?_ _) | (with_reducible refine Kd.C_drewN ?_ _) | (with_reducible refine Kd.C_drew ?_))); (case side2 => exact HC691_0.out); rintro e w43 ⟨v700, rfl, ho0, hb⟩; refine ⟨_, rfl, ?_⟩; have n0_ := Aside0.mk (Kd.R_below (by (with_reducible repeat (first | apply Kd.R_alloc | apply Kd.R_drewN | apply Kd.R_drew)); exact HO_5.out) hb); have n1_ := Aside0.mk (Kd.S_elder' (by (with_reducible repeat (first | apply Kd.S_alloc | apply Kd.S_drewN | apply Kd.S_drew)); exact HO_9.out) (Kd.S_base ho0) hb); have n2_ := Aside0.mk (Kd.S_elder' (by (with_reducible repeat (first | apply Kd.S_alloc | apply Kd.S_drewN | apply Kd.S_drew)); exact HO_56.out) (Kd.S_base ho0) hb); have n3_ := Aside0.mk (Kd.R_below (by (with_reducible repeat (first | apply Kd.R_alloc | apply Kd.R_drewN | apply Kd.R_drew)); exact HL691_0.out) hb); have n4_ := Aside0.mk (Kd.R_below (by (with_reducible repeat (first | apply Kd.R_alloc | apply Kd.R_drewN | apply Kd.R_drew)); exact HL696_0.out) hb); have n5_ := Aside0.mk (Kd.S_lower (Kd.S_new' (Kd.S_new' (Kd.S_new' (Kd.S_new' (Kd.S_new' ho0 (Kd.R_lt (by (with_reducible repeat (first | apply Kd.R_alloc | apply Kd.R_drewN | apply Kd.R_drew)); exact HO_5.out))) (Kd.S_lt (by (with_reducible repeat (first | apply Kd.S_alloc | apply Kd.S_drewN | apply Kd.S_drew)); exact HO_9.out))) (Kd.S_lt (by (with_reducible repeat (first | apply Kd.S_alloc | apply Kd.S_drewN | apply Kd.S_drew)); exact HO_56.out))) (Kd.R_lt (by (with_reducible repeat (first | apply Kd.R_alloc | apply Kd.R_drewN | apply Kd.R_drew)); exact HL691_0.out))) (Kd.R_lt (by (with_reducible repeat (first | apply Kd.R_alloc | apply Kd.R_drewN | apply Kd.R_drew)); exact HL696_0.out))) (below_size (by repeat (first | (with_reducible first | exact HB.out | apply below_alloc | apply pw_below_drewN | apply below_drew1) | exact HB.out)))); have n6_ := Aside0.mk (Kd.C_below (by repeat (first | (with_reducible exact HR691_0.out) | (with_reducible refine Kd.C_alloc ?_ _) | (with_reducible refine Kd.C_drewN ?_ _) | (with_reducible refine Kd.C_drew ?_) | exact HR691_0.out)) hb); have n7_ := Aside0.mk (Kd.C_below (by repeat (first | (with_reducible exact HR696_0.out) | (with_reducible refine Kd.C_alloc ?_ _) | (with_reducible refine Kd.C_drewN ?_ _) | (with_reducible refine Kd.C_drew ?_) | exact HR696_0.out)) hb); have n8_ := Aside0.mk (below_step (by repeat (first | (with_reducible first | exact HB.out | apply below_alloc | apply pw_below_drewN | apply below_drew1) | exact HB.out)) hb); clear HO_5; clear HO_9; clear HO_56; clear HL691_0; clear HL696_0; clear HR691_0; clear HR696_0; clear HB; have HO_5 := n0_; have HO_9 := n1_; have HO_56 := n2_; have HL691_0 := n3_; have HL696_0 := n4_; have HO701 := n5_; have HR691_0 := n6_; have HR696_0 := n7_; have HB := n8_; clear n0_ n1_ n2_ n3_ n4_ n5_ n6_ n7_ n8_; (try clear hb); (try clear hb2); (try clear hk); (try clear hi); (try clear ho0); obtain ⟨Ao44, co44, eo44⟩ := Kd.S_slice HO701.out; subst eo44))
              go_loopg [107] k1 (fun kq v107 w' => ∃ (x107_2 : Int), v107 = .int .i64 x107_2 ∧ Aside0 (laws_FnTreesOfHurwitz.l1 kq t676 t677 t678 t679 t682 t682 (t682.length : Int) x58_1 t698 (t698.length : Int) x107_2 = some r) ∧ Aside0 (kq ≤ k1) ∧ Aside0 (Kd.R (Kd.int .i64) 3 w' w.heap.size (fun _ => True) (.slice Ao17 t676.length co17) t676) ∧ Aside0 (Kd.S (Kd.slice 3 (Kd.int .i64)) 22 w' w.heap.size (fun k_ => some k_ ≠ ((.slice Ao17 t676.length co17) : Value).ownBlock ∧ some k_ ≠ ((.slice Ao44 t698.length co44) : Value).ownBlock) (.slice (some ad691) t682.length co20) t682) ∧ Aside0 (Kd.S (Kd.slice 3 (Kd.int .i64)) 22 w' w.heap.size (fun k_ => some k_ ≠ ((.slice Ao17 t676.length co17) : Value).ownBlock ∧ some k_ ≠ ((.slice Ao44 t698.length co44) : Value).ownBlock) (.slice (some ad691) t682.length co20) t682) ∧ Aside0 (Kd.S (Kd.slice 3 (Kd.int .i64)) 22 w' w.heap.size (fun k_ => some k_ ≠ ((.slice Ao17 t676.length co17) : Value).ownBlock ∧ some k_ ≠ ((.slice (some ad691) t682.length co20) : Value).ownBlock ∧ some k_ ≠ ((.slice (some ad691) t682.length co20) : Value).ownBlock) (.slice Ao44 t698.length co44) t698) ∧ Aside0 (Kd.C (Kd.int .i64) w' (some ad693) (rd_L1 t682 x58_1).length (rd_L1 t682 x58_1)) ∧ Aside0 (Below w.heap.size w w'))
              case atStart => exact ⟨(0), (by first | rfl | (simp; done) | (simp [*]; done)), H', ⟨Nat.le_refl _⟩, ⟨by (with_reducible repeat (first | apply Kd.R_alloc | apply Kd.R_drewN | apply Kd.R_drew)); exact HO_5.out⟩, ⟨by (with_reducible repeat (first | apply Kd.S_alloc | apply Kd.S_drewN | apply Kd.S_drew)); exact HO_9.out⟩, ⟨by (with_reducible repeat (first | apply Kd.S_alloc | apply Kd.S_drewN | apply Kd.S_drew)); exact HO_56.out⟩, ⟨by (with_reducible repeat (first | apply Kd.S_alloc | apply Kd.S_drewN | apply Kd.S_drew)); exact Kd.S_mono HO701.out (fun _ hk => ⟨hk.1.1.1.1.2, ⟨hk.1.1.1.2, hk.1.1.2⟩⟩)⟩, ⟨by repeat (first | (with_reducible exact HR691_0.out) | (with_reducible refine Kd.C_alloc ?_ _) | (with_reducible refine Kd.C_drewN ?_ _) | (with_reducible refine Kd.C_drew ?_) | exact HR691_0.out)⟩, ⟨by repeat (first | (with_reducible first | exact HB.out | apply below_alloc | apply pw_below_drewN | apply below_drew1) | exact HB.out)⟩⟩
              case round => as_aux_lemma =>
               clear H'
               try clear c1
               try clear c2
               try clear p2
               try clear c3
               try clear c4
               try clear c6
               try clear p6
               try clear q6
               try clear hx6
               try clear qi6
               try clear c7
               try clear c8
               try clear c8b0
               try clear c8b1
               try clear c8b2
               try clear c11
               try clear c14
               try clear c15
               try clear c17
               try clear c18
               try clear c19
               try clear c22
               try clear c22b0
               try clear c23
               try clear c23b0
               try clear c24
               try clear c24b0
               try clear c26
               try clear c27
               try clear c27b0
               try clear c27b1
               try clear c28
               try clear c28b0
               try clear c32
               try clear c32b0
               try clear c34
               try clear c34b0
               try clear c36
               try clear c36b0
               try clear c37
               try clear c37b0
               try clear c39
               try clear c41
               try clear c42
               try clear hx691_0
               try clear hx693_0
               try clear hx696_0
               try clear p2
               try clear p691
               try clear p693
               try clear p696
               try clear q691
               try clear q693
               try clear q696
               obtain ⟨x107_2, rfl, HA, HK2, HO_5, HO_9, HO_56, HO_105, HR691_0, HB⟩ := hrel
               cases gk with
               | zero => exact absurd HA.out (by simp [laws_FnTreesOfHurwitz.l1])
               | succ k2 =>
                have H := HA.out; clear HA
                simp only [laws_FnTreesOfHurwitz.l1] at H
                by_cases c45 : x107_2 < (t698.length : Int)
                ·as_aux_lemma =>
                 rw [if_pos c45] at H
                 have c45b0 : decide (x107_2 < (t698.length : Int)) = true := decide_eq_true c45
                 clear c45
                 by_cases c46 : 0 ≤ x107_2
                 rotate_left
                 ·rw [if_neg c46] at H
                  exact absurd H (by simp)
                 as_aux_lemma =>
                 rw [if_pos c46] at H
                 have c46b0 : decide (0 ≤ x107_2) = true := decide_eq_true c46
                 clear c46
                 by_cases c47 : x107_2 < (t698.length : Int)
                 rotate_left
                 ·rw [if_neg c47] at H
                  exact absurd H (by simp)
                 as_aux_lemma =>
                 rw [if_pos c47] at H
                 have c47b0 : decide (x107_2 < (t698.length : Int)) = true := decide_eq_true c47
                 clear c47
                 by_cases c48 : 0 < ((rd_L1 t698 x107_2).length : Int)
                 rotate_left
                 ·rw [if_neg c48] at H
                  exact absurd H (by simp)
                 as_aux_lemma =>
                 rw [if_pos c48] at H
                 have c48b0 : decide (0 < ((rd_L1 t698 x107_2).length : Int)) = true := decide_eq_true c48
                 have c48b1 : decide (0 < (rd_L1 t698 x107_2).length) = true := decide_eq_true (by omega)
                 clear c48
                 by_cases c49 : (rd (rd_L1 t698 x107_2) 0) ≤ t679
                 ·as_aux_lemma =>
                  rw [if_pos c49] at H
                  have c49b0 : decide ((rd (rd_L1 t698 x107_2) 0) ≤ t679) = true := decide_eq_true c49
                  clear c49
                  replace H := Option.bind_eq_some_iff.mp H
                  obtain ⟨t704, A500, H⟩ := H
                  replace H : (if t704 = true then (laws_FnTreesOfHurwitz.l1 k2 t676 t677 t678 t679 t682 t682 (t682.length : Int) x58_1 t698 (t698.length : Int) (wrap64 (x107_2 + 1))) else (some false)) = some r := H
                  have A50 := Aside0.mk A500
                  clear A500
                  by_cases c51 : t704 = true
                  ·as_aux_lemma =>
                   subst c51
                   have H1 : (laws_FnTreesOfHurwitz.l1 k2 t676 t677 t678 t679 t682 t682 (t682.length : Int) x58_1 t698 (t698.length : Int) (wrap64 (x107_2 + 1))) = some r := by rw [if_pos rfl] at H; exact H
                   clear H; have H := H1; clear H1
                   have H' := Aside0.mk H
                   clear H
                   have p702 : 0 ≤ (x107_2 : Int) := of_decide_eq_true (by first | (with_reducible assumption) | assumption)
                   have q702 : x107_2 < (t698.length : Int) := of_decide_eq_true (by first | (with_reducible assumption) | assumption)
                   obtain ⟨ad702, A702_0, c702_0, e702, hx702_0, hl702_0, hi702_0⟩ := at_L1 (Kd.S_reads' HO_105.out).2.2 x107_2 p702 q702
                   cases e702
                   obtain ⟨ce702, hce702, hMe702, hcc702⟩ := Kd.S_get HO_105.out [] x107_2 p702 (by first | exact q702 | exact of_decide_eq_true (by first | (with_reducible assumption) | assumption) | (have e_ := (Kd.S_reads' HO_105.out).1; omega))
                   obtain ⟨ve702_0, rfl, ge702_0⟩ := hMe702
                   have hv702_0 := hcc702 0 _ rfl
                   rw [Nat.add_zero, show ((Kd.slice 3 (Kd.int .i64))).sz = 1 from rfl, Nat.mul_one] at hv702_0
                   replace hv702_0 := Option.some.inj (hv702_0.symm.trans hx702_0)
                   rw [hv702_0] at ge702_0
                   have HL702_0 := Aside0.mk (show Kd.R (Kd.int .i64) 3 _ _ _ _ (rd_L1 t698 x107_2) from ge702_0)
                   clear hv702_0 ge702_0; clear hcc702 hce702
                   have HR702_0 := Aside0.mk hi702_0
                   have HC702_0 := Aside0.mk hl702_0
                   clear hi702_0 hl702_0; replace p702 := eq_true p702; replace q702 := eq_true q702
                   have p703 : 0 ≤ (0 : Int) := (by omega)
                   have q703 : 0 < ((rd_L1 t698 x107_2).length : Int) := of_decide_eq_true (by first | (with_reducible assumption) | assumption)
                   obtain ⟨ad703, e703, hx703_0⟩ := Kd.at_int (by repeat (first | (with_reducible exact HR702_0.out) | (with_reducible refine Kd.C_alloc ?_ _) | (with_reducible refine Kd.C_drewN ?_ _) | (with_reducible refine Kd.C_drew ?_) | exact HR702_0.out)) 0 p703 q703
                   cases e703
                   have qi703 : (0 < (rd_L1 t698 x107_2).length) = True := eq_true (by omega)
                   (try rw [show ((0 : Int)).toNat = 0 from rfl] at hx703_0)
                   (try rw [Addr.add_zero'] at hx703_0)
                   replace p703 := eq_true p703; replace q703 := eq_true q703
                   go_wp2_with (first | (go_at_call 31; (with_reducible refine (laws_vHas.calls k2 _ _ t682 _ _ (rd_L1 t698 x107_2) true _ ?side1 ?side2 ?side3 ?side4 A50.out).mono ?_); (case side1 => repeat (first | exact (Kd.S_reads' HO_9.out).2.2 | (with_reducible refine Kd.C_alloc ?_ _) | (with_reducible refine Kd.C_drewN ?_ _) | (with_reducible refine Kd.C_drew ?_))); (case side2 => exact (Kd.S_reads' HO_9.out).2.1); (case side3 => repeat (first | exact (by repeat (first | (with_reducible exact HR702_0.out) | (with_reducible refine Kd.C_alloc ?_ _) | (with_reducible refine Kd.C_drewN ?_ _) | (with_reducible refine Kd.C_drew ?_) | exact HR702_0.out)) | (with_reducible refine Kd.C_alloc ?_ _) | (with_reducible refine Kd.C_drewN ?_ _) | (with_reducible refine Kd.C_drew ?_))); (case side4 => exact HC702_0.out); rintro e w' ⟨rfl, ⟨nd, rfl⟩⟩))
                   go_roundg k2
                   case measure => have := HK1.out; have := HK2.out; omega
                   case rel => exact ⟨(wrap64 (x107_2 + 1)), (by first | rfl | (simp; done) | (simp [*]; done)), H', ⟨by have := HK1.out; have := HK2.out; omega⟩, ⟨by (with_reducible repeat (first | apply Kd.R_alloc | apply Kd.R_drewN | apply Kd.R_drew)); exact HO_5.out⟩, ⟨by (with_reducible repeat (first | apply Kd.S_alloc | apply Kd.S_drewN | apply Kd.S_drew)); exact HO_9.out⟩, ⟨by (with_reducible repeat (first | apply Kd.S_alloc | apply Kd.S_drewN | apply Kd.S_drew)); exact HO_56.out⟩, ⟨by (with_reducible repeat (first | apply Kd.S_alloc | apply Kd.S_drewN | apply Kd.S_drew)); exact HO_105.out⟩, ⟨by repeat (first | (with_reducible exact HR691_0.out) | (with_reducible refine Kd.C_alloc ?_ _) | (with_reducible refine Kd.C_drewN ?_ _) | (with_reducible refine Kd.C_drew ?_) | exact HR691_0.out)⟩, ⟨by repeat (first | (with_reducible first | exact HB.out | apply below_alloc | apply pw_below_drewN | apply below_drew1) | exact HB.out)⟩⟩
                  ·as_aux_lemma =>
                   replace c51 := Bool.eq_false_iff.mpr c51
                   subst c51
                   have H1 : (some false) = some r := by rw [if_neg (show ¬ (false = true) by decide)] at H; exact H
                   clear H; have H := H1; clear H1
                   obtain rfl := Option.some.inj H
                   have p702 : 0 ≤ (x107_2 : Int) := of_decide_eq_true (by first | (with_reducible assumption) | assumption)
                   have q702 : x107_2 < (t698.length : Int) := of_decide_eq_true (by first | (with_reducible assumption) | assumption)
                   obtain ⟨ad702, A702_0, c702_0, e702, hx702_0, hl702_0, hi702_0⟩ := at_L1 (Kd.S_reads' HO_105.out).2.2 x107_2 p702 q702
                   cases e702
                   obtain ⟨ce702, hce702, hMe702, hcc702⟩ := Kd.S_get HO_105.out [] x107_2 p702 (by first | exact q702 | exact of_decide_eq_true (by first | (with_reducible assumption) | assumption) | (have e_ := (Kd.S_reads' HO_105.out).1; omega))
                   obtain ⟨ve702_0, rfl, ge702_0⟩ := hMe702
                   have hv702_0 := hcc702 0 _ rfl
                   rw [Nat.add_zero, show ((Kd.slice 3 (Kd.int .i64))).sz = 1 from rfl, Nat.mul_one] at hv702_0
                   replace hv702_0 := Option.some.inj (hv702_0.symm.trans hx702_0)
                   rw [hv702_0] at ge702_0
                   have HL702_0 := Aside0.mk (show Kd.R (Kd.int .i64) 3 _ _ _ _ (rd_L1 t698 x107_2) from ge702_0)
                   clear hv702_0 ge702_0; clear hcc702 hce702
                   have HR702_0 := Aside0.mk hi702_0
                   have HC702_0 := Aside0.mk hl702_0
                   clear hi702_0 hl702_0; replace p702 := eq_true p702; replace q702 := eq_true q702
                   have p703 : 0 ≤ (0 : Int) := (by omega)
                   have q703 : 0 < ((rd_L1 t698 x107_2).length : Int) := of_decide_eq_true (by first | (with_reducible assumption) | assumption)
                   obtain ⟨ad703, e703, hx703_0⟩ := Kd.at_int (by repeat (first | (with_reducible exact HR702_0.out) | (with_reducible refine Kd.C_alloc ?_ _) | (with_reducible refine Kd.C_drewN ?_ _) | (with_reducible refine Kd.C_drew ?_) | exact HR702_0.out)) 0 p703 q703
                   cases e703
                   have qi703 : (0 < (rd_L1 t698 x107_2).length) = True := eq_true (by omega)
                   (try rw [show ((0 : Int)).toNat = 0 from rfl] at hx703_0)
                   (try rw [Addr.add_zero'] at hx703_0)
                   replace p703 := eq_true p703; replace q703 := eq_true q703
                   go_wp2_with (first | (go_at_call 31; (with_reducible refine (laws_vHas.calls k2 _ _ t682 _ _ (rd_L1 t698 x107_2) false _ ?side1 ?side2 ?side3 ?side4 A50.out).mono ?_); (case side1 => repeat (first | exact (Kd.S_reads' HO_9.out).2.2 | (with_reducible refine Kd.C_alloc ?_ _) | (with_reducible refine Kd.C_drewN ?_ _) | (with_reducible refine Kd.C_drew ?_))); (case side2 => exact (Kd.S_reads' HO_9.out).2.1); (case side3 => repeat (first | exact (by repeat (first | (with_reducible exact HR702_0.out) | (with_reducible refine Kd.C_alloc ?_ _) | (with_reducible refine Kd.C_drewN ?_ _) | (with_reducible refine Kd.C_drew ?_) | exact HR702_0.out)) | (with_reducible refine Kd.C_alloc ?_ _) | (with_reducible refine Kd.C_drewN ?_ _) | (with_reducible refine Kd.C_drew ?_))); (case side4 => exact HC702_0.out); rintro e w' ⟨rfl, ⟨nd, rfl⟩⟩))
                   go_ret
                   exact ⟨by first | rfl | (simp [errW_none, errW_some] <;> rfl) | (simp only [← hji35]; first | rfl | (simp [errW_none, errW_some] <;> rfl)) | (simp [*, errW_none, errW_some] <;> rfl), by repeat (first | (with_reducible first | exact HB.out | apply below_alloc | apply pw_below_drewN | apply below_drew1) | exact HB.out)⟩
                 ·as_aux_lemma =>
                  rw [if_neg c49] at H
                  have c49b0 : decide ((rd (rd_L1 t698 x107_2) 0) ≤ t679) = false := decide_eq_false c49
                  clear c49
                  have H' := Aside0.mk H
                  clear H
                  have p702 : 0 ≤ (x107_2 : Int) := of_decide_eq_true (by first | (with_reducible assumption) | assumption)
                  have q702 : x107_2 < (t698.length : Int) := of_decide_eq_true (by first | (with_reducible assumption) | assumption)
                  obtain ⟨ad702, A702_0, c702_0, e702, hx702_0, hl702_0, hi702_0⟩ := at_L1 (Kd.S_reads' HO_105.out).2.2 x107_2 p702 q702
                  cases e702
                  obtain ⟨ce702, hce702, hMe702, hcc702⟩ := Kd.S_get HO_105.out [] x107_2 p702 (by first | exact q702 | exact of_decide_eq_true (by first | (with_reducible assumption) | assumption) | (have e_ := (Kd.S_reads' HO_105.out).1; omega))
                  obtain ⟨ve702_0, rfl, ge702_0⟩ := hMe702
                  have hv702_0 := hcc702 0 _ rfl
                  rw [Nat.add_zero, show ((Kd.slice 3 (Kd.int .i64))).sz = 1 from rfl, Nat.mul_one] at hv702_0
                  replace hv702_0 := Option.some.inj (hv702_0.symm.trans hx702_0)
                  rw [hv702_0] at ge702_0
                  have HL702_0 := Aside0.mk (show Kd.R (Kd.int .i64) 3 _ _ _ _ (rd_L1 t698 x107_2) from ge702_0)
                  clear hv702_0 ge702_0; clear hcc702 hce702
                  have HR702_0 := Aside0.mk hi702_0
                  have HC702_0 := Aside0.mk hl702_0
                  clear hi702_0 hl702_0; replace p702 := eq_true p702; replace q702 := eq_true q702
                  have p703 : 0 ≤ (0 : Int) := (by omega)
                  have q703 : 0 < ((rd_L1 t698 x107_2).length : Int) := of_decide_eq_true (by first | (with_reducible assumption) | assumption)
                  obtain ⟨ad703, e703, hx703_0⟩ := Kd.at_int (by repeat (first | (with_reducible exact HR702_0.out) | (with_reducible refine Kd.C_alloc ?_ _) | (with_reducible refine Kd.C_drewN ?_ _) | (with_reducible refine Kd.C_drew ?_) | exact HR702_0.out)) 0 p703 q703
                  cases e703
                  have qi703 : (0 < (rd_L1 t698 x107_2).length) = True := eq_true (by omega)
                  (try rw [show ((0 : Int)).toNat = 0 from rfl] at hx703_0)
                  (try rw [Addr.add_zero'] at hx703_0)
                  replace p703 := eq_true p703; replace q703 := eq_true q703
                  go_wp2
                  go_roundg k2
                  case measure => have := HK1.out; have := HK2.out; omega
                  case rel => exact ⟨(wrap64 (x107_2 + 1)), (by first | rfl | (simp; done) | (simp [*]; done)), H', ⟨by have := HK1.out; have := HK2.out; omega⟩, ⟨by (with_reducible repeat (first | apply Kd.R_alloc | apply Kd.R_drewN | apply Kd.R_drew)); exact HO_5.out⟩, ⟨by (with_reducible repeat (first | apply Kd.S_alloc | apply Kd.S_drewN | apply Kd.S_drew)); exact HO_9.out⟩, ⟨by (with_reducible repeat (first | apply Kd.S_alloc | apply Kd.S_drewN | apply Kd.S_drew)); exact HO_56.out⟩, ⟨by (with_reducible repeat (first | apply Kd.S_alloc | apply Kd.S_drewN | apply Kd.S_drew)); exact HO_105.out⟩, ⟨by repeat (first | (with_reducible exact HR691_0.out) | (with_reducible refine Kd.C_alloc ?_ _) | (with_reducible refine Kd.C_drewN ?_ _) | (with_reducible refine Kd.C_drew ?_) | exact HR691_0.out)⟩, ⟨by repeat (first | (with_reducible first | exact HB.out | apply below_alloc | apply pw_below_drewN | apply below_drew1) | exact HB.out)⟩⟩
                ·rw [if_neg c45] at H
                 have c45b0 : decide (x107_2 < (t698.length : Int)) = false := decide_eq_false c45
                 clear c45
                 have H' := Aside0.mk H
                 clear H
                 go_wp2
                 go_roundg k2
                 case measure => have := HK1.out; have := HK2.out; omega
                 case rel => exact ⟨(wrap64 (x58_1 + 1)), (by first | rfl | (simp; done) | (simp [*]; done)), H', ⟨by have := HK1.out; have := HK2.out; omega⟩, ⟨by (with_reducible repeat (first | apply Kd.R_alloc | apply Kd.R_drewN | apply Kd.R_drew)); exact HO_5.out⟩, ⟨by (with_reducible repeat (first | apply Kd.S_alloc | apply Kd.S_drewN | apply Kd.S_drew)); exact Kd.S_mono HO_9.out (fun _ hk => hk.1)⟩, ⟨by (with_reducible repeat (first | apply Kd.S_alloc | apply Kd.S_drewN | apply Kd.S_drew)); exact Kd.S_mono HO_56.out (fun _ hk => hk.1)⟩, ⟨by repeat (first | (with_reducible first | exact HB.out | apply below_alloc | apply pw_below_drewN | apply below_drew1) | exact HB.out)⟩⟩
             ·as_aux_lemma =>
              replace c41 := Bool.eq_false_iff.mpr c41
              subst c41
              have H1 : (some false) = some r := by rw [if_neg (show ¬ (false = true) by decide)] at H; exact H
              clear H; have H := H1; clear H1
              obtain rfl := Option.some.inj H
              have p691 : 0 ≤ (x58_1 : Int) := of_decide_eq_true (by first | (with_reducible assumption) | assumption)
              have q691 : x58_1 < (t682.length : Int) := of_decide_eq_true (by first | (with_reducible assumption) | assumption)
              obtain ⟨ad691, A691_0, c691_0, e691, hx691_0, hl691_0, hi691_0⟩ := at_L1 (Kd.S_reads' HO_56.out).2.2 x58_1 p691 q691
              cases e691
              obtain ⟨ce691, hce691, hMe691, hcc691⟩ := Kd.S_get HO_56.out [] x58_1 p691 (by first | exact q691 | exact of_decide_eq_true (by first | (with_reducible assumption) | assumption) | (have e_ := (Kd.S_reads' HO_56.out).1; omega))
              obtain ⟨ve691_0, rfl, ge691_0⟩ := hMe691
              have hv691_0 := hcc691 0 _ rfl
              rw [Nat.add_zero, show ((Kd.slice 3 (Kd.int .i64))).sz = 1 from rfl, Nat.mul_one] at hv691_0
              replace hv691_0 := Option.some.inj (hv691_0.symm.trans hx691_0)
              rw [hv691_0] at ge691_0
              have HL691_0 := Aside0.mk (show Kd.R (Kd.int .i64) 3 _ _ _ _ (rd_L1 t682 x58_1) from ge691_0)
              clear hv691_0 ge691_0; clear hcc691 hce691
              have HR691_0 := Aside0.mk hi691_0
              have HC691_0 := Aside0.mk hl691_0
              clear hi691_0 hl691_0; replace p691 := eq_true p691; replace q691 := eq_true q691
              go_wp2_with (first | ((with_reducible refine gate_callee (f := 39) rfl ?_); refine goesL_ (some 66) rfl rfl Try.func39 (by kernel_rfl) rfl #[.slice A691_0 (rd_L1 t682 x58_1).length c691_0, .int .i64 t677, .int .i64 t678] rfl (by (try simp only [List.map_toArray, List.map_cons, List.map_nil]); first | done | rfl) ?_; (with_reducible refine (laws_vSolves.calls k1 _ _ (rd_L1 t682 x58_1) t677 t678 true _ ?side1 ?side2 A25.out).mono ?_); (case side1 => repeat (first | exact (by repeat (first | (with_reducible exact HR691_0.out) | (with_reducible refine Kd.C_alloc ?_ _) | (with_reducible refine Kd.C_drewN ?_ _) | (with_reducible refine Kd.C_drew ?_) | exact HR691_0.out)) | (with_reducible refine Kd.C_alloc ?_ _) | (with_reducible refine Kd.C_drewN ?_ _) | (with_reducible refine Kd.C_drew ?_))); (case side2 => exact HC691_0.out); rintro e w52 ⟨rfl, hb⟩; refine ⟨_, rfl, ?_⟩; have n0_ := Aside0.mk (Kd.R_below (by (with_reducible repeat (first | apply Kd.R_alloc | apply Kd.R_drewN | apply Kd.R_drew)); exact HO_5.out) hb); have n1_ := Aside0.mk (Kd.S_below (by (with_reducible repeat (first | apply Kd.S_alloc | apply Kd.S_drewN | apply Kd.S_drew)); exact HO_9.out) hb); have n2_ := Aside0.mk (Kd.S_below (by (with_reducible repeat (first | apply Kd.S_alloc | apply Kd.S_drewN | apply Kd.S_drew)); exact HO_56.out) hb); have n3_ := Aside0.mk (Kd.R_below (by (with_reducible repeat (first | apply Kd.R_alloc | apply Kd.R_drewN | apply Kd.R_drew)); exact HL691_0.out) hb); have n4_ := Aside0.mk (Kd.C_below (by repeat (first | (with_reducible exact HR691_0.out) | (with_reducible refine Kd.C_alloc ?_ _) | (with_reducible refine Kd.C_drewN ?_ _) | (with_reducible refine Kd.C_drew ?_) | exact HR691_0.out)) hb); have n5_ := Aside0.mk (below_step (by repeat (first | (with_reducible first | exact HB.out | apply below_alloc | apply pw_below_drewN | apply below_drew1) | exact HB.out)) hb); clear HO_5; clear HO_9; clear HO_56; clear HL691_0; clear HR691_0; clear HB; have HO_5 := n0_; have HO_9 := n1_; have HO_56 := n2_; have HL691_0 := n3_; have HR691_0 := n4_; have HB := n5_; clear n0_ n1_ n2_ n3_ n4_ n5_; (try clear hb); (try clear hb2); (try clear hk); (try clear hi); have p693 : 0 ≤ (0 : Int) := (by omega); have q693 : 0 < ((rd_L1 t682 x58_1).length : Int) := of_decide_eq_true (by first | (with_reducible assumption) | assumption); obtain ⟨ad693, e693, hx693_0⟩ := Kd.at_int (by repeat (first | (with_reducible exact HR691_0.out) | (with_reducible refine Kd.C_alloc ?_ _) | (with_reducible refine Kd.C_drewN ?_ _) | (with_reducible refine Kd.C_drew ?_) | exact HR691_0.out)) 0 p693 q693; cases e693; have qi693 : (0 < (rd_L1 t682 x58_1).length) = True := eq_true (by omega); (try rw [show ((0 : Int)).toNat = 0 from rfl] at hx693_0); (try rw [Addr.add_zero'] at hx693_0); replace p693 := eq_true p693; replace q693 := eq_true q693) | (go_at_call 40; (with_reducible refine (laws_vSum.calls k1 _ _ (rd_L1 t682 x58_1) t694 _ ?side1 ?side2 A30.out).mono ?_); (case side1 => repeat (first | exact (by repeat (first | (with_reducible exact HR691_0.out) | (with_reducible refine Kd.C_alloc ?_ _) | (with_reducible refine Kd.C_drewN ?_ _) | (with_reducible refine Kd.C_drew ?_) | exact HR691_0.out)) | (with_reducible refine Kd.C_alloc ?_ _) | (with_reducible refine Kd.C_drewN ?_ _) | (with_reducible refine Kd.C_drew ?_))); (case side2 => exact HC691_0.out); rintro e w' ⟨rfl, ⟨nd, rfl⟩⟩) | (go_at_call 40; (with_reducible refine (laws_vSum.calls k1 _ _ t676 t695 _ ?side1 ?side2 A31.out).mono ?_); (case side1 => repeat (first | exact (Kd.R_reads' HO_5.out).2.2 | (with_reducible refine Kd.C_alloc ?_ _) | (with_reducible refine Kd.C_drewN ?_ _) | (with_reducible refine Kd.C_drew ?_))); (case side2 => exact (Kd.R_reads' HO_5.out).2.1); rintro e w' ⟨rfl, ⟨nd, rfl⟩⟩; have p696 : 0 ≤ ((ji35) : Int) := of_decide_eq_true (by first | (with_reducible assumption) | assumption); have q696 : (ji35) < (t682.length : Int) := of_decide_eq_true (by first | (with_reducible assumption) | assumption); obtain ⟨ad696, A696_0, c696_0, e696, hx696_0, hl696_0, hi696_0⟩ := at_L1 (Kd.S_reads' HO_9.out).2.2 (ji35) p696 q696; obtain rfl : ad691 = ad696 := (by injection e696); obtain ⟨ce696, hce696, hMe696, hcc696⟩ := Kd.S_get HO_9.out [] (ji35) p696 (by first | exact q696 | exact of_decide_eq_true (by first | (with_reducible assumption) | assumption) | (have e_ := (Kd.S_reads' HO_9.out).1; omega)); obtain ⟨ve696_0, rfl, ge696_0⟩ := hMe696; have hv696_0 := hcc696 0 _ rfl; rw [Nat.add_zero, show ((Kd.slice 3 (Kd.int .i64))).sz = 1 from rfl, Nat.mul_one] at hv696_0; replace hv696_0 := Option.some.inj (hv696_0.symm.trans hx696_0); rw [hv696_0] at ge696_0; have HL696_0 := Aside0.mk (show Kd.R (Kd.int .i64) 3 _ _ _ _ (rd_L1 t682 (ji35)) from ge696_0); clear hv696_0 ge696_0; clear hcc696 hce696; have HR696_0 := Aside0.mk hi696_0; have HC696_0 := Aside0.mk hl696_0; clear hi696_0 hl696_0; replace p696 := eq_true p696; replace q696 := eq_true q696) | (go_at_call 32; (with_reducible refine (laws_vBefore.calls k1 _ _ (rd_L1 t682 (ji35)) _ _ (rd_L1 t682 x58_1) true _ ?side1 ?side2 ?side3 ?side4 A38.out).mono ?_); (case side1 => repeat (first | exact (by repeat (first | (with_reducible exact HR696_0.out) | (with_reducible refine Kd.C_alloc ?_ _) | (with_reducible refine Kd.C_drewN ?_ _) | (with_reducible refine Kd.C_drew ?_) | exact HR696_0.out)) | (with_reducible refine Kd.C_alloc ?_ _) | (with_reducible refine Kd.C_drewN ?_ _) | (with_reducible refine Kd.C_drew ?_))); (case side2 => exact HC696_0.out); (case side3 => repeat (first | exact (by repeat (first | (with_reducible exact HR691_0.out) | (with_reducible refine Kd.C_alloc ?_ _) | (with_reducible refine Kd.C_drewN ?_ _) | (with_reducible refine Kd.C_drew ?_) | exact HR691_0.out)) | (with_reducible refine Kd.C_alloc ?_ _) | (with_reducible refine Kd.C_drewN ?_ _) | (with_reducible refine Kd.C_drew ?_))); (case side4 => exact HC691_0.out); rintro e w' ⟨rfl, ⟨nd, rfl⟩⟩) | ((with_reducible refine gate_callee (f := 11) rfl ?_); refine goesL_ (some 100) rfl rfl Try.func11 (by kernel_rfl) rfl #[.slice (some ad693) (rd_L1 t682 x58_1).length c691_0, .int .i64 t677, .int .i64 t678] rfl (by (try simp only [List.map_toArray, List.map_cons, List.map_nil]); first | done | rfl) ?_; (with_reducible refine (impl_BranchesOf.calls k1 _ _ (rd_L1 t682 x58_1) t677 t678 t698 false _ ?side1 ?side2 A40.out).mono ?_); (case side1 => repeat (first | exact (by repeat (first | (with_reducible exact HR691_0.out) | (with_reducible refine Kd.C_alloc ?_ _) | (with_reducible refine Kd.C_drewN ?_ _) | (with_reducible refine Kd.C_drew ?_) | exact HR691_0.out)) | (with_reducible refine Kd.C_alloc ?_ _) | (with_reducible refine Kd.C_drewN ?_ _) | (with_reducible refine Kd.C_drew ?_))); (case side2 => exact HC691_0.out); rintro e w53 ⟨v700, rfl, ho0, hb⟩; refine ⟨_, rfl, ?_⟩; have n0_ := Aside0.mk (Kd.R_below (by (with_reducible repeat (first | apply Kd.R_alloc | apply Kd.R_drewN | apply Kd.R_drew)); exact HO_5.out) hb); have n1_ := Aside0.mk (Kd.S_elder' (by (with_reducible repeat (first | apply Kd.S_alloc | apply Kd.S_drewN | apply Kd.S_drew)); exact HO_9.out) (Kd.S_base ho0) hb); have n2_ := Aside0.mk (Kd.S_elder' (by (with_reducible repeat (first | apply Kd.S_alloc | apply Kd.S_drewN | apply Kd.S_drew)); exact HO_56.out) (Kd.S_base ho0) hb); have n3_ := Aside0.mk (Kd.R_below (by (with_reducible repeat (first | apply Kd.R_alloc | apply Kd.R_drewN | apply Kd.R_drew)); exact HL691_0.out) hb); have n4_ := Aside0.mk (Kd.R_below (by (with_reducible repeat (first | apply Kd.R_alloc | apply Kd.R_drewN | apply Kd.R_drew)); exact HL696_0.out) hb); have n5_ := Aside0.mk (Kd.S_lower (Kd.S_new' (Kd.S_new' (Kd.S_new' (Kd.S_new' (Kd.S_new' ho0 (Kd.R_lt (by (with_reducible repeat (first | apply Kd.R_alloc | apply Kd.R_drewN | apply Kd.R_drew)); exact HO_5.out))) (Kd.S_lt (by (with_reducible repeat (first | apply Kd.S_alloc | apply Kd.S_drewN | apply Kd.S_drew)); exact HO_9.out))) (Kd.S_lt (by (with_reducible repeat (first | apply Kd.S_alloc | apply Kd.S_drewN | apply Kd.S_drew)); exact HO_56.out))) (Kd.R_lt (by (with_reducible repeat (first | apply Kd.R_alloc | apply Kd.R_drewN | apply Kd.R_drew)); exact HL691_0.out))) (Kd.R_lt (by (with_reducible repeat (first | apply Kd.R_alloc | apply Kd.R_drewN | apply Kd.R_drew)); exact HL696_0.out))) (below_size (by repeat (first | (with_reducible first | exact HB.out | apply below_alloc | apply pw_below_drewN | apply below_drew1) | exact HB.out)))); have n6_ := Aside0.mk (Kd.C_below (by repeat (first | (with_reducible exact HR691_0.out) | (with_reducible refine Kd.C_alloc ?_ _) | (with_reducible refine Kd.C_drewN ?_ _) | (with_reducible refine Kd.C_drew ?_) | exact HR691_0.out)) hb); have n7_ := Aside0.mk (Kd.C_below (by repeat (first | (with_reducible exact HR696_0.out) | (with_reducible refine Kd.C_alloc ?_ _) | (with_reducible refine Kd.C_drewN ?_ _) | (with_reducible refine Kd.C_drew ?_) | exact HR696_0.out)) hb); have n8_ := Aside0.mk (below_step (by repeat (first | (with_reducible first | exact HB.out | apply below_alloc | apply pw_below_drewN | apply below_drew1) | exact HB.out)) hb); clear HO_5; clear HO_9; clear HO_56; clear HL691_0; clear HL696_0; clear HR691_0; clear HR696_0; clear HB; have HO_5 := n0_; have HO_9 := n1_; have HO_56 := n2_; have HL691_0 := n3_; have HL696_0 := n4_; have HO701 := n5_; have HR691_0 := n6_; have HR696_0 := n7_; have HB := n8_; clear n0_ n1_ n2_ n3_ n4_ n5_ n6_ n7_ n8_; (try clear hb); (try clear hb2); (try clear hk); (try clear hi); (try clear ho0)))
              go_ret
              exact ⟨by first | rfl | (simp [errW_none, errW_some] <;> rfl) | (simp only [← hji35]; first | rfl | (simp [errW_none, errW_some] <;> rfl)) | (simp [*, errW_none, errW_some] <;> rfl), by repeat (first | (with_reducible first | exact HB.out | apply below_alloc | apply pw_below_drewN | apply below_drew1) | exact HB.out)⟩
            ·as_aux_lemma =>
             replace c39 := Bool.eq_false_iff.mpr c39
             subst c39
             have H1 : (some false) = some r := by rw [if_neg (show ¬ (false = true) by decide)] at H; exact H
             clear H; have H := H1; clear H1
             obtain rfl := Option.some.inj H
             have p691 : 0 ≤ (x58_1 : Int) := of_decide_eq_true (by first | (with_reducible assumption) | assumption)
             have q691 : x58_1 < (t682.length : Int) := of_decide_eq_true (by first | (with_reducible assumption) | assumption)
             obtain ⟨ad691, A691_0, c691_0, e691, hx691_0, hl691_0, hi691_0⟩ := at_L1 (Kd.S_reads' HO_56.out).2.2 x58_1 p691 q691
             cases e691
             obtain ⟨ce691, hce691, hMe691, hcc691⟩ := Kd.S_get HO_56.out [] x58_1 p691 (by first | exact q691 | exact of_decide_eq_true (by first | (with_reducible assumption) | assumption) | (have e_ := (Kd.S_reads' HO_56.out).1; omega))
             obtain ⟨ve691_0, rfl, ge691_0⟩ := hMe691
             have hv691_0 := hcc691 0 _ rfl
             rw [Nat.add_zero, show ((Kd.slice 3 (Kd.int .i64))).sz = 1 from rfl, Nat.mul_one] at hv691_0
             replace hv691_0 := Option.some.inj (hv691_0.symm.trans hx691_0)
             rw [hv691_0] at ge691_0
             have HL691_0 := Aside0.mk (show Kd.R (Kd.int .i64) 3 _ _ _ _ (rd_L1 t682 x58_1) from ge691_0)
             clear hv691_0 ge691_0; clear hcc691 hce691
             have HR691_0 := Aside0.mk hi691_0
             have HC691_0 := Aside0.mk hl691_0
             clear hi691_0 hl691_0; replace p691 := eq_true p691; replace q691 := eq_true q691
             go_wp2_with (first | ((with_reducible refine gate_callee (f := 39) rfl ?_); refine goesL_ (some 66) rfl rfl Try.func39 (by kernel_rfl) rfl #[.slice A691_0 (rd_L1 t682 x58_1).length c691_0, .int .i64 t677, .int .i64 t678] rfl (by (try simp only [List.map_toArray, List.map_cons, List.map_nil]); first | done | rfl) ?_; (with_reducible refine (laws_vSolves.calls k1 _ _ (rd_L1 t682 x58_1) t677 t678 true _ ?side1 ?side2 A25.out).mono ?_); (case side1 => repeat (first | exact (by repeat (first | (with_reducible exact HR691_0.out) | (with_reducible refine Kd.C_alloc ?_ _) | (with_reducible refine Kd.C_drewN ?_ _) | (with_reducible refine Kd.C_drew ?_) | exact HR691_0.out)) | (with_reducible refine Kd.C_alloc ?_ _) | (with_reducible refine Kd.C_drewN ?_ _) | (with_reducible refine Kd.C_drew ?_))); (case side2 => exact HC691_0.out); rintro e w54 ⟨rfl, hb⟩; refine ⟨_, rfl, ?_⟩; have n0_ := Aside0.mk (Kd.R_below (by (with_reducible repeat (first | apply Kd.R_alloc | apply Kd.R_drewN | apply Kd.R_drew)); exact HO_5.out) hb); have n1_ := Aside0.mk (Kd.S_below (by (with_reducible repeat (first | apply Kd.S_alloc | apply Kd.S_drewN | apply Kd.S_drew)); exact HO_9.out) hb); have n2_ := Aside0.mk (Kd.S_below (by (with_reducible repeat (first | apply Kd.S_alloc | apply Kd.S_drewN | apply Kd.S_drew)); exact HO_56.out) hb); have n3_ := Aside0.mk (Kd.R_below (by (with_reducible repeat (first | apply Kd.R_alloc | apply Kd.R_drewN | apply Kd.R_drew)); exact HL691_0.out) hb); have n4_ := Aside0.mk (Kd.C_below (by repeat (first | (with_reducible exact HR691_0.out) | (with_reducible refine Kd.C_alloc ?_ _) | (with_reducible refine Kd.C_drewN ?_ _) | (with_reducible refine Kd.C_drew ?_) | exact HR691_0.out)) hb); have n5_ := Aside0.mk (below_step (by repeat (first | (with_reducible first | exact HB.out | apply below_alloc | apply pw_below_drewN | apply below_drew1) | exact HB.out)) hb); clear HO_5; clear HO_9; clear HO_56; clear HL691_0; clear HR691_0; clear HB; have HO_5 := n0_; have HO_9 := n1_; have HO_56 := n2_; have HL691_0 := n3_; have HR691_0 := n4_; have HB := n5_; clear n0_ n1_ n2_ n3_ n4_ n5_; (try clear hb); (try clear hb2); (try clear hk); (try clear hi); have p693 : 0 ≤ (0 : Int) := (by omega); have q693 : 0 < ((rd_L1 t682 x58_1).length : Int) := of_decide_eq_true (by first | (with_reducible assumption) | assumption); obtain ⟨ad693, e693, hx693_0⟩ := Kd.at_int (by repeat (first | (with_reducible exact HR691_0.out) | (with_reducible refine Kd.C_alloc ?_ _) | (with_reducible refine Kd.C_drewN ?_ _) | (with_reducible refine Kd.C_drew ?_) | exact HR691_0.out)) 0 p693 q693; cases e693; have qi693 : (0 < (rd_L1 t682 x58_1).length) = True := eq_true (by omega); (try rw [show ((0 : Int)).toNat = 0 from rfl] at hx693_0); (try rw [Addr.add_zero'] at hx693_0); replace p693 := eq_true p693; replace q693 := eq_true q693) | (go_at_call 40; (with_reducible refine (laws_vSum.calls k1 _ _ (rd_L1 t682 x58_1) t694 _ ?side1 ?side2 A30.out).mono ?_); (case side1 => repeat (first | exact (by repeat (first | (with_reducible exact HR691_0.out) | (with_reducible refine Kd.C_alloc ?_ _) | (with_reducible refine Kd.C_drewN ?_ _) | (with_reducible refine Kd.C_drew ?_) | exact HR691_0.out)) | (with_reducible refine Kd.C_alloc ?_ _) | (with_reducible refine Kd.C_drewN ?_ _) | (with_reducible refine Kd.C_drew ?_))); (case side2 => exact HC691_0.out); rintro e w' ⟨rfl, ⟨nd, rfl⟩⟩) | (go_at_call 40; (with_reducible refine (laws_vSum.calls k1 _ _ t676 t695 _ ?side1 ?side2 A31.out).mono ?_); (case side1 => repeat (first | exact (Kd.R_reads' HO_5.out).2.2 | (with_reducible refine Kd.C_alloc ?_ _) | (with_reducible refine Kd.C_drewN ?_ _) | (with_reducible refine Kd.C_drew ?_))); (case side2 => exact (Kd.R_reads' HO_5.out).2.1); rintro e w' ⟨rfl, ⟨nd, rfl⟩⟩; have p696 : 0 ≤ ((ji35) : Int) := of_decide_eq_true (by first | (with_reducible assumption) | assumption); have q696 : (ji35) < (t682.length : Int) := of_decide_eq_true (by first | (with_reducible assumption) | assumption); obtain ⟨ad696, A696_0, c696_0, e696, hx696_0, hl696_0, hi696_0⟩ := at_L1 (Kd.S_reads' HO_9.out).2.2 (ji35) p696 q696; obtain rfl : ad691 = ad696 := (by injection e696); obtain ⟨ce696, hce696, hMe696, hcc696⟩ := Kd.S_get HO_9.out [] (ji35) p696 (by first | exact q696 | exact of_decide_eq_true (by first | (with_reducible assumption) | assumption) | (have e_ := (Kd.S_reads' HO_9.out).1; omega)); obtain ⟨ve696_0, rfl, ge696_0⟩ := hMe696; have hv696_0 := hcc696 0 _ rfl; rw [Nat.add_zero, show ((Kd.slice 3 (Kd.int .i64))).sz = 1 from rfl, Nat.mul_one] at hv696_0; replace hv696_0 := Option.some.inj (hv696_0.symm.trans hx696_0); rw [hv696_0] at ge696_0; have HL696_0 := Aside0.mk (show Kd.R (Kd.int .i64) 3 _ _ _ _ (rd_L1 t682 (ji35)) from ge696_0); clear hv696_0 ge696_0; clear hcc696 hce696; have HR696_0 := Aside0.mk hi696_0; have HC696_0 := Aside0.mk hl696_0; clear hi696_0 hl696_0; replace p696 := eq_true p696; replace q696 := eq_true q696) | (go_at_call 32; (with_reducible refine (laws_vBefore.calls k1 _ _ (rd_L1 t682 (ji35)) _ _ (rd_L1 t682 x58_1) false _ ?side1 ?side2 ?side3 ?side4 A38.out).mono ?_); (case side1 => repeat (first | exact (by repeat (first | (with_reducible exact HR696_0.out) | (with_reducible refine Kd.C_alloc ?_ _) | (with_reducible refine Kd.C_drewN ?_ _) | (with_reducible refine Kd.C_drew ?_) | exact HR696_0.out)) | (with_reducible refine Kd.C_alloc ?_ _) | (with_reducible refine Kd.C_drewN ?_ _) | (with_reducible refine Kd.C_drew ?_))); (case side2 => exact HC696_0.out); (case side3 => repeat (first | exact (by repeat (first | (with_reducible exact HR691_0.out) | (with_reducible refine Kd.C_alloc ?_ _) | (with_reducible refine Kd.C_drewN ?_ _) | (with_reducible refine Kd.C_drew ?_) | exact HR691_0.out)) | (with_reducible refine Kd.C_alloc ?_ _) | (with_reducible refine Kd.C_drewN ?_ _) | (with_reducible refine Kd.C_drew ?_))); (case side4 => exact HC691_0.out); rintro e w' ⟨rfl, ⟨nd, rfl⟩⟩))
             go_ret
             exact ⟨by first | rfl | (simp [errW_none, errW_some] <;> rfl) | (simp only [← hji35]; first | rfl | (simp [errW_none, errW_some] <;> rfl)) | (simp [*, errW_none, errW_some] <;> rfl), by repeat (first | (with_reducible first | exact HB.out | apply below_alloc | apply pw_below_drewN | apply below_drew1) | exact HB.out)⟩
           ·as_aux_lemma =>
            rw [if_neg c34] at H
            have c34b0 : decide (0 < x58_1) = false := decide_eq_false c34
            clear c34
            replace H := Option.bind_eq_some_iff.mp H
            obtain ⟨⟨t705, t706⟩, A550, H⟩ := H
            replace H : (if t706 = true then (laws_FnTreesOfHurwitz.l1 k1 t676 t677 t678 t679 t682 t682 (t682.length : Int) x58_1 t705 (t705.length : Int) 0) else (some false)) = some r := H
            have A55 := Aside0.mk A550
            clear A550
            by_cases c56 : t706 = true
            ·as_aux_lemma =>
             subst c56
             have H1 : (laws_FnTreesOfHurwitz.l1 k1 t676 t677 t678 t679 t682 t682 (t682.length : Int) x58_1 t705 (t705.length : Int) 0) = some r := by rw [if_pos rfl] at H; exact H
             clear H; have H := H1; clear H1
             have H' := Aside0.mk H
             clear H
             have p691 : 0 ≤ (x58_1 : Int) := of_decide_eq_true (by first | (with_reducible assumption) | assumption)
             have q691 : x58_1 < (t682.length : Int) := of_decide_eq_true (by first | (with_reducible assumption) | assumption)
             obtain ⟨ad691, A691_0, c691_0, e691, hx691_0, hl691_0, hi691_0⟩ := at_L1 (Kd.S_reads' HO_56.out).2.2 x58_1 p691 q691
             cases e691
             obtain ⟨ce691, hce691, hMe691, hcc691⟩ := Kd.S_get HO_56.out [] x58_1 p691 (by first | exact q691 | exact of_decide_eq_true (by first | (with_reducible assumption) | assumption) | (have e_ := (Kd.S_reads' HO_56.out).1; omega))
             obtain ⟨ve691_0, rfl, ge691_0⟩ := hMe691
             have hv691_0 := hcc691 0 _ rfl
             rw [Nat.add_zero, show ((Kd.slice 3 (Kd.int .i64))).sz = 1 from rfl, Nat.mul_one] at hv691_0
             replace hv691_0 := Option.some.inj (hv691_0.symm.trans hx691_0)
             rw [hv691_0] at ge691_0
             have HL691_0 := Aside0.mk (show Kd.R (Kd.int .i64) 3 _ _ _ _ (rd_L1 t682 x58_1) from ge691_0)
             clear hv691_0 ge691_0; clear hcc691 hce691
             have HR691_0 := Aside0.mk hi691_0
             have HC691_0 := Aside0.mk hl691_0
             clear hi691_0 hl691_0; replace p691 := eq_true p691; replace q691 := eq_true q691
             go_wp2_with (first | ((with_reducible refine gate_callee (f := 39) rfl ?_); refine goesL_ (some 66) rfl rfl Try.func39 (by kernel_rfl) rfl #[.slice A691_0 (rd_L1 t682 x58_1).length c691_0, .int .i64 t677, .int .i64 t678] rfl (by (try simp only [List.map_toArray, List.map_cons, List.map_nil]); first | done | rfl) ?_; (with_reducible refine (laws_vSolves.calls k1 _ _ (rd_L1 t682 x58_1) t677 t678 true _ ?side1 ?side2 A25.out).mono ?_); (case side1 => repeat (first | exact (by repeat (first | (with_reducible exact HR691_0.out) | (with_reducible refine Kd.C_alloc ?_ _) | (with_reducible refine Kd.C_drewN ?_ _) | (with_reducible refine Kd.C_drew ?_) | exact HR691_0.out)) | (with_reducible refine Kd.C_alloc ?_ _) | (with_reducible refine Kd.C_drewN ?_ _) | (with_reducible refine Kd.C_drew ?_))); (case side2 => exact HC691_0.out); rintro e w57 ⟨rfl, hb⟩; refine ⟨_, rfl, ?_⟩; have n0_ := Aside0.mk (Kd.R_below (by (with_reducible repeat (first | apply Kd.R_alloc | apply Kd.R_drewN | apply Kd.R_drew)); exact HO_5.out) hb); have n1_ := Aside0.mk (Kd.S_below (by (with_reducible repeat (first | apply Kd.S_alloc | apply Kd.S_drewN | apply Kd.S_drew)); exact HO_9.out) hb); have n2_ := Aside0.mk (Kd.S_below (by (with_reducible repeat (first | apply Kd.S_alloc | apply Kd.S_drewN | apply Kd.S_drew)); exact HO_56.out) hb); have n3_ := Aside0.mk (Kd.R_below (by (with_reducible repeat (first | apply Kd.R_alloc | apply Kd.R_drewN | apply Kd.R_drew)); exact HL691_0.out) hb); have n4_ := Aside0.mk (Kd.C_below (by repeat (first | (with_reducible exact HR691_0.out) | (with_reducible refine Kd.C_alloc ?_ _) | (with_reducible refine Kd.C_drewN ?_ _) | (with_reducible refine Kd.C_drew ?_) | exact HR691_0.out)) hb); have n5_ := Aside0.mk (below_step (by repeat (first | (with_reducible first | exact HB.out | apply below_alloc | apply pw_below_drewN | apply below_drew1) | exact HB.out)) hb); clear HO_5; clear HO_9; clear HO_56; clear HL691_0; clear HR691_0; clear HB; have HO_5 := n0_; have HO_9 := n1_; have HO_56 := n2_; have HL691_0 := n3_; have HR691_0 := n4_; have HB := n5_; clear n0_ n1_ n2_ n3_ n4_ n5_; (try clear hb); (try clear hb2); (try clear hk); (try clear hi); have p693 : 0 ≤ (0 : Int) := (by omega); have q693 : 0 < ((rd_L1 t682 x58_1).length : Int) := of_decide_eq_true (by first | (with_reducible assumption) | assumption); obtain ⟨ad693, e693, hx693_0⟩ := Kd.at_int (by repeat (first | (with_reducible exact HR691_0.out) | (with_reducible refine Kd.C_alloc ?_ _) | (with_reducible refine Kd.C_drewN ?_ _) | (with_reducible refine Kd.C_drew ?_) | exact HR691_0.out)) 0 p693 q693; cases e693; have qi693 : (0 < (rd_L1 t682 x58_1).length) = True := eq_true (by omega); (try rw [show ((0 : Int)).toNat = 0 from rfl] at hx693_0); (try rw [Addr.add_zero'] at hx693_0); replace p693 := eq_true p693; replace q693 := eq_true q693) | (go_at_call 40; (with_reducible refine (laws_vSum.calls k1 _ _ (rd_L1 t682 x58_1) t694 _ ?side1 ?side2 A30.out).mono ?_); (case side1 => repeat (first | exact (by repeat (first | (with_reducible exact HR691_0.out) | (with_reducible refine Kd.C_alloc ?_ _) | (with_reducible refine Kd.C_drewN ?_ _) | (with_reducible refine Kd.C_drew ?_) | exact HR691_0.out)) | (with_reducible refine Kd.C_alloc ?_ _) | (with_reducible refine Kd.C_drewN ?_ _) | (with_reducible refine Kd.C_drew ?_))); (case side2 => exact HC691_0.out); rintro e w' ⟨rfl, ⟨nd, rfl⟩⟩) | (go_at_call 40; (with_reducible refine (laws_vSum.calls k1 _ _ t676 t695 _ ?side1 ?side2 A31.out).mono ?_); (case side1 => repeat (first | exact (Kd.R_reads' HO_5.out).2.2 | (with_reducible refine Kd.C_alloc ?_ _) | (with_reducible refine Kd.C_drewN ?_ _) | (with_reducible refine Kd.C_drew ?_))); (case side2 => exact (Kd.R_reads' HO_5.out).2.1); rintro e w' ⟨rfl, ⟨nd, rfl⟩⟩) | ((with_reducible refine gate_callee (f := 11) rfl ?_); refine goesL_ (some 100) rfl rfl Try.func11 (by kernel_rfl) rfl #[.slice (some ad693) (rd_L1 t682 x58_1).length c691_0, .int .i64 t677, .int .i64 t678] rfl (by (try simp only [List.map_toArray, List.map_cons, List.map_nil]); first | done | rfl) ?_; (with_reducible refine (impl_BranchesOf.calls k1 _ _ (rd_L1 t682 x58_1) t677 t678 t705 true _ ?side1 ?side2 A55.out).mono ?_); (case side1 => repeat (first | exact (by repeat (first | (with_reducible exact HR691_0.out) | (with_reducible refine Kd.C_alloc ?_ _) | (with_reducible refine Kd.C_drewN ?_ _) | (with_reducible refine Kd.C_drew ?_) | exact HR691_0.out)) | (with_reducible refine Kd.C_alloc ?_ _) | (with_reducible refine Kd.C_drewN ?_ _) | (with_reducible refine Kd.C_drew ?_))); (case side2 => exact HC691_0.out); rintro e w58 ⟨v707, rfl, ho0, hb⟩; refine ⟨_, rfl, ?_⟩; have n0_ := Aside0.mk (Kd.R_below (by (with_reducible repeat (first | apply Kd.R_alloc | apply Kd.R_drewN | apply Kd.R_drew)); exact HO_5.out) hb); have n1_ := Aside0.mk (Kd.S_elder' (by (with_reducible repeat (first | apply Kd.S_alloc | apply Kd.S_drewN | apply Kd.S_drew)); exact HO_9.out) (Kd.S_base ho0) hb); have n2_ := Aside0.mk (Kd.S_elder' (by (with_reducible repeat (first | apply Kd.S_alloc | apply Kd.S_drewN | apply Kd.S_drew)); exact HO_56.out) (Kd.S_base ho0) hb); have n3_ := Aside0.mk (Kd.R_below (by (with_reducible repeat (first | apply Kd.R_alloc | apply Kd.R_drewN | apply Kd.R_drew)); exact HL691_0.out) hb); have n4_ := Aside0.mk (Kd.S_lower (Kd.S_new' (Kd.S_new' (Kd.S_new' (Kd.S_new' ho0 (Kd.R_lt (by (with_reducible repeat (first | apply Kd.R_alloc | apply Kd.R_drewN | apply Kd.R_drew)); exact HO_5.out))) (Kd.S_lt (by (with_reducible repeat (first | apply Kd.S_alloc | apply Kd.S_drewN | apply Kd.S_drew)); exact HO_9.out))) (Kd.S_lt (by (with_reducible repeat (first | apply Kd.S_alloc | apply Kd.S_drewN | apply Kd.S_drew)); exact HO_56.out))) (Kd.R_lt (by (with_reducible repeat (first | apply Kd.R_alloc | apply Kd.R_drewN | apply Kd.R_drew)); exact HL691_0.out))) (below_size (by repeat (first | (with_reducible first | exact HB.out | apply below_alloc | apply pw_below_drewN | apply below_drew1) | exact HB.out)))); have n5_ := Aside0.mk (Kd.C_below (by repeat (first | (with_reducible exact HR691_0.out) | (with_reducible refine Kd.C_alloc ?_ _) | (with_reducible refine Kd.C_drewN ?_ _) | (with_reducible refine Kd.C_drew ?_) | exact HR691_0.out)) hb); have n6_ := Aside0.mk (below_step (by repeat (first | (with_reducible first | exact HB.out | apply below_alloc | apply pw_below_drewN | apply below_drew1) | exact HB.out)) hb); clear HO_5; clear HO_9; clear HO_56; clear HL691_0; clear HR691_0; clear HB; have HO_5 := n0_; have HO_9 := n1_; have HO_56 := n2_; have HL691_0 := n3_; have HO708 := n4_; have HR691_0 := n5_; have HB := n6_; clear n0_ n1_ n2_ n3_ n4_ n5_ n6_; (try clear hb); (try clear hb2); (try clear hk); (try clear hi); (try clear ho0); obtain ⟨Ao59, co59, eo59⟩ := Kd.S_slice HO708.out; subst eo59))
             go_loopg [107] k1 (fun kq v107 w' => ∃ (x107_2 : Int), v107 = .int .i64 x107_2 ∧ Aside0 (laws_FnTreesOfHurwitz.l1 kq t676 t677 t678 t679 t682 t682 (t682.length : Int) x58_1 t705 (t705.length : Int) x107_2 = some r) ∧ Aside0 (kq ≤ k1) ∧ Aside0 (Kd.R (Kd.int .i64) 3 w' w.heap.size (fun _ => True) (.slice Ao17 t676.length co17) t676) ∧ Aside0 (Kd.S (Kd.slice 3 (Kd.int .i64)) 22 w' w.heap.size (fun k_ => some k_ ≠ ((.slice Ao17 t676.length co17) : Value).ownBlock ∧ some k_ ≠ ((.slice Ao59 t705.length co59) : Value).ownBlock) (.slice (some ad691) t682.length co20) t682) ∧ Aside0 (Kd.S (Kd.slice 3 (Kd.int .i64)) 22 w' w.heap.size (fun k_ => some k_ ≠ ((.slice Ao17 t676.length co17) : Value).ownBlock ∧ some k_ ≠ ((.slice Ao59 t705.length co59) : Value).ownBlock) (.slice (some ad691) t682.length co20) t682) ∧ Aside0 (Kd.S (Kd.slice 3 (Kd.int .i64)) 22 w' w.heap.size (fun k_ => some k_ ≠ ((.slice Ao17 t676.length co17) : Value).ownBlock ∧ some k_ ≠ ((.slice (some ad691) t682.length co20) : Value).ownBlock ∧ some k_ ≠ ((.slice (some ad691) t682.length co20) : Value).ownBlock) (.slice Ao59 t705.length co59) t705) ∧ Aside0 (Kd.C (Kd.int .i64) w' (some ad693) (rd_L1 t682 x58_1).length (rd_L1 t682 x58_1)) ∧ Aside0 (Below w.heap.size w w'))
             case atStart => exact ⟨(0), (by first | rfl | (simp; done) | (simp [*]; done)), H', ⟨Nat.le_refl _⟩, ⟨by (with_reducible repeat (first | apply Kd.R_alloc | apply Kd.R_drewN | apply Kd.R_drew)); exact HO_5.out⟩, ⟨by (with_reducible repeat (first | apply Kd.S_alloc | apply Kd.S_drewN | apply Kd.S_drew)); exact HO_9.out⟩, ⟨by (with_reducible repeat (first | apply Kd.S_alloc | apply Kd.S_drewN | apply Kd.S_drew)); exact HO_56.out⟩, ⟨by (with_reducible repeat (first | apply Kd.S_alloc | apply Kd.S_drewN | apply Kd.S_drew)); exact Kd.S_mono HO708.out (fun _ hk => ⟨hk.1.1.1.2, ⟨hk.1.1.2, hk.1.2⟩⟩)⟩, ⟨by repeat (first | (with_reducible exact HR691_0.out) | (with_reducible refine Kd.C_alloc ?_ _) | (with_reducible refine Kd.C_drewN ?_ _) | (with_reducible refine Kd.C_drew ?_) | exact HR691_0.out)⟩, ⟨by repeat (first | (with_reducible first | exact HB.out | apply below_alloc | apply pw_below_drewN | apply below_drew1) | exact HB.out)⟩⟩
             case round => as_aux_lemma =>
              clear H'
              try clear c1
              try clear c2
              try clear p2
              try clear c3
              try clear c4
              try clear c5
              try clear c6
              try clear p6
              try clear q6
              try clear hx6
              try clear qi6
              try clear c7
              try clear p7
              try clear q7
              try clear hx7
              try clear qi7
              try clear c8
              try clear c8b0
              try clear c8b1
              try clear c8b2
              try clear c11
              try clear c14
              try clear c15
              try clear c17
              try clear c18
              try clear c19
              try clear c22
              try clear c22b0
              try clear c23
              try clear c23b0
              try clear c24
              try clear c24b0
              try clear c26
              try clear c27
              try clear c27b0
              try clear c27b1
              try clear c28
              try clear c28b0
              try clear c32
              try clear c32b0
              try clear c34
              try clear c34b0
              try clear c36
              try clear c36b0
              try clear c37
              try clear c37b0
              try clear c39
              try clear c41
              try clear c42
              try clear c45
              try clear c45b0
              try clear c46
              try clear c46b0
              try clear c47
              try clear c47b0
              try clear c48
              try clear c48b0
              try clear c48b1
              try clear c49
              try clear c49b0
              try clear c51
              try clear c56
              try clear hx691_0
              try clear hx693_0
              try clear hx696_0
              try clear hx702_0
              try clear hx703_0
              try clear p2
              try clear p6
              try clear p691
              try clear p693
              try clear p696
              try clear p702
              try clear p703
              try clear q6
              try clear q691
              try clear q693
              try clear q696
              try clear q702
              try clear q703
              obtain ⟨x107_2, rfl, HA, HK2, HO_5, HO_9, HO_56, HO_105, HR691_0, HB⟩ := hrel
              cases gk with
              | zero => exact absurd HA.out (by simp [laws_FnTreesOfHurwitz.l1])
              | succ k2 =>
               have H := HA.out; clear HA
               simp only [laws_FnTreesOfHurwitz.l1] at H
               by_cases c60 : x107_2 < (t705.length : Int)
               ·as_aux_lemma =>
                rw [if_pos c60] at H
                have c60b0 : decide (x107_2 < (t705.length : Int)) = true := decide_eq_true c60
                clear c60
                by_cases c61 : 0 ≤ x107_2
                rotate_left
                ·rw [if_neg c61] at H
                 exact absurd H (by simp)
                as_aux_lemma =>
                rw [if_pos c61] at H
                have c61b0 : decide (0 ≤ x107_2) = true := decide_eq_true c61
                clear c61
                by_cases c62 : x107_2 < (t705.length : Int)
                rotate_left
                ·rw [if_neg c62] at H
                 exact absurd H (by simp)
                as_aux_lemma =>
                rw [if_pos c62] at H
                have c62b0 : decide (x107_2 < (t705.length : Int)) = true := decide_eq_true c62
                clear c62
                by_cases c63 : 0 < ((rd_L1 t705 x107_2).length : Int)
                rotate_left
                ·rw [if_neg c63] at H
                 exact absurd H (by simp)
                as_aux_lemma =>
                rw [if_pos c63] at H
                have c63b0 : decide (0 < ((rd_L1 t705 x107_2).length : Int)) = true := decide_eq_true c63
                have c63b1 : decide (0 < (rd_L1 t705 x107_2).length) = true := decide_eq_true (by omega)
                clear c63
                by_cases c64 : (rd (rd_L1 t705 x107_2) 0) ≤ t679
                ·as_aux_lemma =>
                 rw [if_pos c64] at H
                 have c64b0 : decide ((rd (rd_L1 t705 x107_2) 0) ≤ t679) = true := decide_eq_true c64
                 clear c64
                 replace H := Option.bind_eq_some_iff.mp H
                 obtain ⟨t704, A650, H⟩ := H
                 replace H : (if t704 = true then (laws_FnTreesOfHurwitz.l1 k2 t676 t677 t678 t679 t682 t682 (t682.length : Int) x58_1 t705 (t705.length : Int) (wrap64 (x107_2 + 1))) else (some false)) = some r := H
                 have A65 := Aside0.mk A650
                 clear A650
                 by_cases c66 : t704 = true
                 ·as_aux_lemma =>
                  subst c66
                  have H1 : (laws_FnTreesOfHurwitz.l1 k2 t676 t677 t678 t679 t682 t682 (t682.length : Int) x58_1 t705 (t705.length : Int) (wrap64 (x107_2 + 1))) = some r := by rw [if_pos rfl] at H; exact H
                  clear H; have H := H1; clear H1
                  have H' := Aside0.mk H
                  clear H
                  have p702 : 0 ≤ (x107_2 : Int) := of_decide_eq_true (by first | (with_reducible assumption) | assumption)
                  have q702 : x107_2 < (t705.length : Int) := of_decide_eq_true (by first | (with_reducible assumption) | assumption)
                  obtain ⟨ad702, A702_0, c702_0, e702, hx702_0, hl702_0, hi702_0⟩ := at_L1 (Kd.S_reads' HO_105.out).2.2 x107_2 p702 q702
                  cases e702
                  obtain ⟨ce702, hce702, hMe702, hcc702⟩ := Kd.S_get HO_105.out [] x107_2 p702 (by first | exact q702 | exact of_decide_eq_true (by first | (with_reducible assumption) | assumption) | (have e_ := (Kd.S_reads' HO_105.out).1; omega))
                  obtain ⟨ve702_0, rfl, ge702_0⟩ := hMe702
                  have hv702_0 := hcc702 0 _ rfl
                  rw [Nat.add_zero, show ((Kd.slice 3 (Kd.int .i64))).sz = 1 from rfl, Nat.mul_one] at hv702_0
                  replace hv702_0 := Option.some.inj (hv702_0.symm.trans hx702_0)
                  rw [hv702_0] at ge702_0
                  have HL702_0 := Aside0.mk (show Kd.R (Kd.int .i64) 3 _ _ _ _ (rd_L1 t705 x107_2) from ge702_0)
                  clear hv702_0 ge702_0; clear hcc702 hce702
                  have HR702_0 := Aside0.mk hi702_0
                  have HC702_0 := Aside0.mk hl702_0
                  clear hi702_0 hl702_0; replace p702 := eq_true p702; replace q702 := eq_true q702
                  have p703 : 0 ≤ (0 : Int) := (by omega)
                  have q703 : 0 < ((rd_L1 t705 x107_2).length : Int) := of_decide_eq_true (by first | (with_reducible assumption) | assumption)
                  obtain ⟨ad703, e703, hx703_0⟩ := Kd.at_int (by repeat (first | (with_reducible exact HR702_0.out) | (with_reducible refine Kd.C_alloc ?_ _) | (with_reducible refine Kd.C_drewN ?_ _) | (with_reducible refine Kd.C_drew ?_) | exact HR702_0.out)) 0 p703 q703
                  cases e703
                  have qi703 : (0 < (rd_L1 t705 x107_2).length) = True := eq_true (by omega)
                  (try rw [show ((0 : Int)).toNat = 0 from rfl] at hx703_0)
                  (try rw [Addr.add_zero'] at hx703_0)
                  replace p703 := eq_true p703; replace q703 := eq_true q703
                  go_wp2_with (first | (go_at_call 31; (with_reducible refine (laws_vHas.calls k2 _ _ t682 _ _ (rd_L1 t705 x107_2) true _ ?side1 ?side2 ?side3 ?side4 A65.out).mono ?_); (case side1 => repeat (first | exact (Kd.S_reads' HO_9.out).2.2 | (with_reducible refine Kd.C_alloc ?_ _) | (with_reducible refine Kd.C_drewN ?_ _) | (with_reducible refine Kd.C_drew ?_))); (case side2 => exact (Kd.S_reads' HO_9.out).2.1); (case side3 => repeat (first | exact (by repeat (first | (with_reducible exact HR702_0.out) | (with_reducible refine Kd.C_alloc ?_ _) | (with_reducible refine Kd.C_drewN ?_ _) | (with_reducible refine Kd.C_drew ?_) | exact HR702_0.out)) | (with_reducible refine Kd.C_alloc ?_ _) | (with_reducible refine Kd.C_drewN ?_ _) | (with_reducible refine Kd.C_drew ?_))); (case side4 => exact HC702_0.out); rintro e w' ⟨rfl, ⟨nd, rfl⟩⟩))
                  go_roundg k2
                  case measure => have := HK1.out; have := HK2.out; omega
                  case rel => exact ⟨(wrap64 (x107_2 + 1)), (by first | rfl | (simp; done) | (simp [*]; done)), H', ⟨by have := HK1.out; have := HK2.out; omega⟩, ⟨by (with_reducible repeat (first | apply Kd.R_alloc | apply Kd.R_drewN | apply Kd.R_drew)); exact HO_5.out⟩, ⟨by (with_reducible repeat (first | apply Kd.S_alloc | apply Kd.S_drewN | apply Kd.S_drew)); exact HO_9.out⟩, ⟨by (with_reducible repeat (first | apply Kd.S_alloc | apply Kd.S_drewN | apply Kd.S_drew)); exact HO_56.out⟩, ⟨by (with_reducible repeat (first | apply Kd.S_alloc | apply Kd.S_drewN | apply Kd.S_drew)); exact HO_105.out⟩, ⟨by repeat (first | (with_reducible exact HR691_0.out) | (with_reducible refine Kd.C_alloc ?_ _) | (with_reducible refine Kd.C_drewN ?_ _) | (with_reducible refine Kd.C_drew ?_) | exact HR691_0.out)⟩, ⟨by repeat (first | (with_reducible first | exact HB.out | apply below_alloc | apply pw_below_drewN | apply below_drew1) | exact HB.out)⟩⟩
                 ·as_aux_lemma =>
                  replace c66 := Bool.eq_false_iff.mpr c66
                  subst c66
                  have H1 : (some false) = some r := by rw [if_neg (show ¬ (false = true) by decide)] at H; exact H
                  clear H; have H := H1; clear H1
                  obtain rfl := Option.some.inj H
                  have p702 : 0 ≤ (x107_2 : Int) := of_decide_eq_true (by first | (with_reducible assumption) | assumption)
                  have q702 : x107_2 < (t705.length : Int) := of_decide_eq_true (by first | (with_reducible assumption) | assumption)
                  obtain ⟨ad702, A702_0, c702_0, e702, hx702_0, hl702_0, hi702_0⟩ := at_L1 (Kd.S_reads' HO_105.out).2.2 x107_2 p702 q702
                  cases e702
                  obtain ⟨ce702, hce702, hMe702, hcc702⟩ := Kd.S_get HO_105.out [] x107_2 p702 (by first | exact q702 | exact of_decide_eq_true (by first | (with_reducible assumption) | assumption) | (have e_ := (Kd.S_reads' HO_105.out).1; omega))
                  obtain ⟨ve702_0, rfl, ge702_0⟩ := hMe702
                  have hv702_0 := hcc702 0 _ rfl
                  rw [Nat.add_zero, show ((Kd.slice 3 (Kd.int .i64))).sz = 1 from rfl, Nat.mul_one] at hv702_0
                  replace hv702_0 := Option.some.inj (hv702_0.symm.trans hx702_0)
                  rw [hv702_0] at ge702_0
                  have HL702_0 := Aside0.mk (show Kd.R (Kd.int .i64) 3 _ _ _ _ (rd_L1 t705 x107_2) from ge702_0)
                  clear hv702_0 ge702_0; clear hcc702 hce702
                  have HR702_0 := Aside0.mk hi702_0
                  have HC702_0 := Aside0.mk hl702_0
                  clear hi702_0 hl702_0; replace p702 := eq_true p702; replace q702 := eq_true q702
                  have p703 : 0 ≤ (0 : Int) := (by omega)
                  have q703 : 0 < ((rd_L1 t705 x107_2).length : Int) := of_decide_eq_true (by first | (with_reducible assumption) | assumption)
                  obtain ⟨ad703, e703, hx703_0⟩ := Kd.at_int (by repeat (first | (with_reducible exact HR702_0.out) | (with_reducible refine Kd.C_alloc ?_ _) | (with_reducible refine Kd.C_drewN ?_ _) | (with_reducible refine Kd.C_drew ?_) | exact HR702_0.out)) 0 p703 q703
                  cases e703
                  have qi703 : (0 < (rd_L1 t705 x107_2).length) = True := eq_true (by omega)
                  (try rw [show ((0 : Int)).toNat = 0 from rfl] at hx703_0)
                  (try rw [Addr.add_zero'] at hx703_0)
                  replace p703 := eq_true p703; replace q703 := eq_true q703
                  go_wp2_with (first | (go_at_call 31; (with_reducible refine (laws_vHas.calls k2 _ _ t682 _ _ (rd_L1 t705 x107_2) false _ ?side1 ?side2 ?side3 ?side4 A65.out).mono ?_); (case side1 => repeat (first | exact (Kd.S_reads' HO_9.out).2.2 | (with_reducible refine Kd.C_alloc ?_ _) | (with_reducible refine Kd.C_drewN ?_ _) | (with_reducible refine Kd.C_drew ?_))); (case side2 => exact (Kd.S_reads' HO_9.out).2.1); (case side3 => repeat (first | exact (by repeat (first | (with_reducible exact HR702_0.out) | (with_reducible refine Kd.C_alloc ?_ _) | (with_reducible refine Kd.C_drewN ?_ _) | (with_reducible refine Kd.C_drew ?_) | exact HR702_0.out)) | (with_reducible refine Kd.C_alloc ?_ _) | (with_reducible refine Kd.C_drewN ?_ _) | (with_reducible refine Kd.C_drew ?_))); (case side4 => exact HC702_0.out); rintro e w' ⟨rfl, ⟨nd, rfl⟩⟩))
                  go_ret
                  exact ⟨by first | rfl | (simp [errW_none, errW_some] <;> rfl) | (simp [*, errW_none, errW_some] <;> rfl), by repeat (first | (with_reducible first | exact HB.out | apply below_alloc | apply pw_below_drewN | apply below_drew1) | exact HB.out)⟩
                ·as_aux_lemma =>
                 rw [if_neg c64] at H
                 have c64b0 : decide ((rd (rd_L1 t705 x107_2) 0) ≤ t679) = false := decide_eq_false c64
                 clear c64
                 have H' := Aside0.mk H
                 clear H
                 have p702 : 0 ≤ (x107_2 : Int) := of_decide_eq_true (by first | (with_reducible assumption) | assumption)
                 have q702 : x107_2 < (t705.length : Int) := of_decide_eq_true (by first | (with_reducible assumption) | assumption)
                 obtain ⟨ad702, A702_0, c702_0, e702, hx702_0, hl702_0, hi702_0⟩ := at_L1 (Kd.S_reads' HO_105.out).2.2 x107_2 p702 q702
                 cases e702
                 obtain ⟨ce702, hce702, hMe702, hcc702⟩ := Kd.S_get HO_105.out [] x107_2 p702 (by first | exact q702 | exact of_decide_eq_true (by first | (with_reducible assumption) | assumption) | (have e_ := (Kd.S_reads' HO_105.out).1; omega))
                 obtain ⟨ve702_0, rfl, ge702_0⟩ := hMe702
                 have hv702_0 := hcc702 0 _ rfl
                 rw [Nat.add_zero, show ((Kd.slice 3 (Kd.int .i64))).sz = 1 from rfl, Nat.mul_one] at hv702_0
                 replace hv702_0 := Option.some.inj (hv702_0.symm.trans hx702_0)
                 rw [hv702_0] at ge702_0
                 have HL702_0 := Aside0.mk (show Kd.R (Kd.int .i64) 3 _ _ _ _ (rd_L1 t705 x107_2) from ge702_0)
                 clear hv702_0 ge702_0; clear hcc702 hce702
                 have HR702_0 := Aside0.mk hi702_0
                 have HC702_0 := Aside0.mk hl702_0
                 clear hi702_0 hl702_0; replace p702 := eq_true p702; replace q702 := eq_true q702
                 have p703 : 0 ≤ (0 : Int) := (by omega)
                 have q703 : 0 < ((rd_L1 t705 x107_2).length : Int) := of_decide_eq_true (by first | (with_reducible assumption) | assumption)
                 obtain ⟨ad703, e703, hx703_0⟩ := Kd.at_int (by repeat (first | (with_reducible exact HR702_0.out) | (with_reducible refine Kd.C_alloc ?_ _) | (with_reducible refine Kd.C_drewN ?_ _) | (with_reducible refine Kd.C_drew ?_) | exact HR702_0.out)) 0 p703 q703
                 cases e703
                 have qi703 : (0 < (rd_L1 t705 x107_2).length) = True := eq_true (by omega)
                 (try rw [show ((0 : Int)).toNat = 0 from rfl] at hx703_0)
                 (try rw [Addr.add_zero'] at hx703_0)
                 replace p703 := eq_true p703; replace q703 := eq_true q703
                 go_wp2
                 go_roundg k2
                 case measure => have := HK1.out; have := HK2.out; omega
                 case rel => exact ⟨(wrap64 (x107_2 + 1)), (by first | rfl | (simp; done) | (simp [*]; done)), H', ⟨by have := HK1.out; have := HK2.out; omega⟩, ⟨by (with_reducible repeat (first | apply Kd.R_alloc | apply Kd.R_drewN | apply Kd.R_drew)); exact HO_5.out⟩, ⟨by (with_reducible repeat (first | apply Kd.S_alloc | apply Kd.S_drewN | apply Kd.S_drew)); exact HO_9.out⟩, ⟨by (with_reducible repeat (first | apply Kd.S_alloc | apply Kd.S_drewN | apply Kd.S_drew)); exact HO_56.out⟩, ⟨by (with_reducible repeat (first | apply Kd.S_alloc | apply Kd.S_drewN | apply Kd.S_drew)); exact HO_105.out⟩, ⟨by repeat (first | (with_reducible exact HR691_0.out) | (with_reducible refine Kd.C_alloc ?_ _) | (with_reducible refine Kd.C_drewN ?_ _) | (with_reducible refine Kd.C_drew ?_) | exact HR691_0.out)⟩, ⟨by repeat (first | (with_reducible first | exact HB.out | apply below_alloc | apply pw_below_drewN | apply below_drew1) | exact HB.out)⟩⟩
               ·rw [if_neg c60] at H
                have c60b0 : decide (x107_2 < (t705.length : Int)) = false := decide_eq_false c60
                clear c60
                have H' := Aside0.mk H
                clear H
                go_wp2
                go_roundg k2
                case measure => have := HK1.out; have := HK2.out; omega
                case rel => exact ⟨(wrap64 (x58_1 + 1)), (by first | rfl | (simp; done) | (simp [*]; done)), H', ⟨by have := HK1.out; have := HK2.out; omega⟩, ⟨by (with_reducible repeat (first | apply Kd.R_alloc | apply Kd.R_drewN | apply Kd.R_drew)); exact HO_5.out⟩, ⟨by (with_reducible repeat (first | apply Kd.S_alloc | apply Kd.S_drewN | apply Kd.S_drew)); exact Kd.S_mono HO_9.out (fun _ hk => hk.1)⟩, ⟨by (with_reducible repeat (first | apply Kd.S_alloc | apply Kd.S_drewN | apply Kd.S_drew)); exact Kd.S_mono HO_56.out (fun _ hk => hk.1)⟩, ⟨by repeat (first | (with_reducible first | exact HB.out | apply below_alloc | apply pw_below_drewN | apply below_drew1) | exact HB.out)⟩⟩
            ·as_aux_lemma =>
             replace c56 := Bool.eq_false_iff.mpr c56
             subst c56
             have H1 : (some false) = some r := by rw [if_neg (show ¬ (false = true) by decide)] at H; exact H
             clear H; have H := H1; clear H1
             obtain rfl := Option.some.inj H
             have p691 : 0 ≤ (x58_1 : Int) := of_decide_eq_true (by first | (with_reducible assumption) | assumption)
             have q691 : x58_1 < (t682.length : Int) := of_decide_eq_true (by first | (with_reducible assumption) | assumption)
             obtain ⟨ad691, A691_0, c691_0, e691, hx691_0, hl691_0, hi691_0⟩ := at_L1 (Kd.S_reads' HO_56.out).2.2 x58_1 p691 q691
             cases e691
             obtain ⟨ce691, hce691, hMe691, hcc691⟩ := Kd.S_get HO_56.out [] x58_1 p691 (by first | exact q691 | exact of_decide_eq_true (by first | (with_reducible assumption) | assumption) | (have e_ := (Kd.S_reads' HO_56.out).1; omega))
             obtain ⟨ve691_0, rfl, ge691_0⟩ := hMe691
             have hv691_0 := hcc691 0 _ rfl
             rw [Nat.add_zero, show ((Kd.slice 3 (Kd.int .i64))).sz = 1 from rfl, Nat.mul_one] at hv691_0
             replace hv691_0 := Option.some.inj (hv691_0.symm.trans hx691_0)
             rw [hv691_0] at ge691_0
             have HL691_0 := Aside0.mk (show Kd.R (Kd.int .i64) 3 _ _ _ _ (rd_L1 t682 x58_1) from ge691_0)
             clear hv691_0 ge691_0; clear hcc691 hce691
             have HR691_0 := Aside0.mk hi691_0
             have HC691_0 := Aside0.mk hl691_0
             clear hi691_0 hl691_0; replace p691 := eq_true p691; replace q691 := eq_true q691
             go_wp2_with (first | ((with_reducible refine gate_callee (f := 39) rfl ?_); refine goesL_ (some 66) rfl rfl Try.func39 (by kernel_rfl) rfl #[.slice A691_0 (rd_L1 t682 x58_1).length c691_0, .int .i64 t677, .int .i64 t678] rfl (by (try simp only [List.map_toArray, List.map_cons, List.map_nil]); first | done | rfl) ?_; (with_reducible refine (laws_vSolves.calls k1 _ _ (rd_L1 t682 x58_1) t677 t678 true _ ?side1 ?side2 A25.out).mono ?_); (case side1 => repeat (first | exact (by repeat (first | (with_reducible exact HR691_0.out) | (with_reducible refine Kd.C_alloc ?_ _) | (with_reducible refine Kd.C_drewN ?_ _) | (with_reducible refine Kd.C_drew ?_) | exact HR691_0.out)) | (with_reducible refine Kd.C_alloc ?_ _) | (with_reducible refine Kd.C_drewN ?_ _) | (with_reducible refine Kd.C_drew ?_))); (case side2 => exact HC691_0.out); rintro e w67 ⟨rfl, hb⟩; refine ⟨_, rfl, ?_⟩; have n0_ := Aside0.mk (Kd.R_below (by (with_reducible repeat (first | apply Kd.R_alloc | apply Kd.R_drewN | apply Kd.R_drew)); exact HO_5.out) hb); have n1_ := Aside0.mk (Kd.S_below (by (with_reducible repeat (first | apply Kd.S_alloc | apply Kd.S_drewN | apply Kd.S_drew)); exact HO_9.out) hb); have n2_ := Aside0.mk (Kd.S_below (by (with_reducible repeat (first | apply Kd.S_alloc | apply Kd.S_drewN | apply Kd.S_drew)); exact HO_56.out) hb); have n3_ := Aside0.mk (Kd.R_below (by (with_reducible repeat (first | apply Kd.R_alloc | apply Kd.R_drewN | apply Kd.R_drew)); exact HL691_0.out) hb); have n4_ := Aside0.mk (Kd.C_below (by repeat (first | (with_reducible exact HR691_0.out) | (with_reducible refine Kd.C_alloc ?_ _) | (with_reducible refine Kd.C_drewN ?_ _) | (with_reducible refine Kd.C_drew ?_) | exact HR691_0.out)) hb); have n5_ := Aside0.mk (below_step (by repeat (first | (with_reducible first | exact HB.out | apply below_alloc | apply pw_below_drewN | apply below_drew1) | exact HB.out)) hb); clear HO_5; clear HO_9; clear HO_56; clear HL691_0; clear HR691_0; clear HB; have HO_5 := n0_; have HO_9 := n1_; have HO_56 := n2_; have HL691_0 := n3_; have HR691_0 := n4_; have HB := n5_; clear n0_ n1_ n2_ n3_ n4_ n5_; (try clear hb); (try clear hb2); (try clear hk); (try clear hi); have p693 : 0 ≤ (0 : Int) := (by omega); have q693 : 0 < ((rd_L1 t682 x58_1).length : Int) := of_decide_eq_true (by first | (with_reducible assumption) | assumption); obtain ⟨ad693, e693, hx693_0⟩ := Kd.at_int (by repeat (first | (with_reducible exact HR691_0.out) | (with_reducible refine Kd.C_alloc ?_ _) | (with_reducible refine Kd.C_drewN ?_ _) | (with_reducible refine Kd.C_drew ?_) | exact HR691_0.out)) 0 p693 q693; cases e693; have qi693 : (0 < (rd_L1 t682 x58_1).length) = True := eq_true (by omega); (try rw [show ((0 : Int)).toNat = 0 from rfl] at hx693_0); (try rw [Addr.add_zero'] at hx693_0); replace p693 := eq_true p693; replace q693 := eq_true q693) | (go_at_call 40; (with_reducible refine (laws_vSum.calls k1 _ _ (rd_L1 t682 x58_1) t694 _ ?side1 ?side2 A30.out).mono ?_); (case side1 => repeat (first | exact (by repeat (first | (with_reducible exact HR691_0.out) | (with_reducible refine Kd.C_alloc ?_ _) | (with_reducible refine Kd.C_drewN ?_ _) | (with_reducible refine Kd.C_drew ?_) | exact HR691_0.out)) | (with_reducible refine Kd.C_alloc ?_ _) | (with_reducible refine Kd.C_drewN ?_ _) | (with_reducible refine Kd.C_drew ?_))); (case side2 => exact HC691_0.out); rintro e w' ⟨rfl, ⟨nd, rfl⟩⟩) | (go_at_call 40; (with_reducible refine (laws_vSum.calls k1 _ _ t676 t695 _ ?side1 ?side2 A31.out).mono ?_); (case side1 => repeat (first | exact (Kd.R_reads' HO_5.out).2.2 | (with_reducible refine Kd.C_alloc ?_ _) | (with_reducible refine Kd.C_drewN ?_ _) | (with_reducible refine Kd.C_drew ?_))); (case side2 => exact (Kd.R_reads' HO_5.out).2.1); rintro e w' ⟨rfl, ⟨nd, rfl⟩⟩) | ((with_reducible refine gate_callee (f := 11) rfl ?_); refine goesL_ (some 100) rfl rfl Try.func11 (by kernel_rfl) rfl #[.slice (some ad693) (rd_L1 t682 x58_1).length c691_0, .int .i64 t677, .int .i64 t678] rfl (by (try simp only [List.map_toArray, List.map_cons, List.map_nil]); first | done | rfl) ?_; (with_reducible refine (impl_BranchesOf.calls k1 _ _ (rd_L1 t682 x58_1) t677 t678 t705 false _ ?side1 ?side2 A55.out).mono ?_); (case side1 => repeat (first | exact (by repeat (first | (with_reducible exact HR691_0.out) | (with_reducible refine Kd.C_alloc ?_ _) | (with_reducible refine Kd.C_drewN ?_ _) | (with_reducible refine Kd.C_drew ?_) | exact HR691_0.out)) | (with_reducible refine Kd.C_alloc ?_ _) | (with_reducible refine Kd.C_drewN ?_ _) | (with_reducible refine Kd.C_drew ?_))); (case side2 => exact HC691_0.out); rintro e w68 ⟨v707, rfl, ho0, hb⟩; refine ⟨_, rfl, ?_⟩; have n0_ := Aside0.mk (Kd.R_below (by (with_reducible repeat (first | apply Kd.R_alloc | apply Kd.R_drewN | apply Kd.R_drew)); exact HO_5.out) hb); have n1_ := Aside0.mk (Kd.S_elder' (by (with_reducible repeat (first | apply Kd.S_alloc | apply Kd.S_drewN | apply Kd.S_drew)); exact HO_9.out) (Kd.S_base ho0) hb); have n2_ := Aside0.mk (Kd.S_elder' (by (with_reducible repeat (first | apply Kd.S_alloc | apply Kd.S_drewN | apply Kd.S_drew)); exact HO_56.out) (Kd.S_base ho0) hb); have n3_ := Aside0.mk (Kd.R_below (by (with_reducible repeat (first | apply Kd.R_alloc | apply Kd.R_drewN | apply Kd.R_drew)); exact HL691_0.out) hb); have n4_ := Aside0.mk (Kd.S_lower (Kd.S_new' (Kd.S_new' (Kd.S_new' (Kd.S_new' ho0 (Kd.R_lt (by (with_reducible repeat (first | apply Kd.R_alloc | apply Kd.R_drewN | apply Kd.R_drew)); exact HO_5.out))) (Kd.S_lt (by (with_reducible repeat (first | apply Kd.S_alloc | apply Kd.S_drewN | apply Kd.S_drew)); exact HO_9.out))) (Kd.S_lt (by (with_reducible repeat (first | apply Kd.S_alloc | apply Kd.S_drewN | apply Kd.S_drew)); exact HO_56.out))) (Kd.R_lt (by (with_reducible repeat (first | apply Kd.R_alloc | apply Kd.R_drewN | apply Kd.R_drew)); exact HL691_0.out))) (below_size (by repeat (first | (with_reducible first | exact HB.out | apply below_alloc | apply pw_below_drewN | apply below_drew1) | exact HB.out)))); have n5_ := Aside0.mk (Kd.C_below (by repeat (first | (with_reducible exact HR691_0.out) | (with_reducible refine Kd.C_alloc ?_ _) | (with_reducible refine Kd.C_drewN ?_ _) | (with_reducible refine Kd.C_drew ?_) | exact HR691_0.out)) hb); have n6_ := Aside0.mk (below_step (by repeat (first | (with_reducible first | exact HB.out | apply below_alloc | apply pw_below_drewN | apply below_drew1) | exact HB.out)) hb); clear HO_5; clear HO_9; clear HO_56; clear HL691_0; clear HR691_0; clear HB; have HO_5 := n0_; have HO_9 := n1_; have HO_56 := n2_; have HL691_0 := n3_; have HO708 := n4_; have HR691_0 := n5_; have HB := n6_; clear n0_ n1_ n2_ n3_ n4_ n5_ n6_; (try clear hb); (try clear hb2); (try clear hk); (try clear hi); (try clear ho0)))
             go_ret
             exact ⟨by first | rfl | (simp [errW_none, errW_some] <;> rfl) | (simp [*, errW_none, errW_some] <;> rfl), by repeat (first | (with_reducible first | exact HB.out | apply below_alloc | apply pw_below_drewN | apply below_drew1) | exact HB.out)⟩
        ·as_aux_lemma =>
         replace c26 := Bool.eq_false_iff.mpr c26
         subst c26
         have H1 : (some false) = some r := by rw [if_neg (show ¬ (false = true) by decide)] at H; exact H
         clear H; have H := H1; clear H1
         obtain rfl := Option.some.inj H
         have p691 : 0 ≤ (x58_1 : Int) := of_decide_eq_true (by first | (with_reducible assumption) | assumption)
         have q691 : x58_1 < (t682.length : Int) := of_decide_eq_true (by first | (with_reducible assumption) | assumption)
         obtain ⟨ad691, A691_0, c691_0, e691, hx691_0, hl691_0, hi691_0⟩ := at_L1 (Kd.S_reads' HO_56.out).2.2 x58_1 p691 q691
         cases e691
         obtain ⟨ce691, hce691, hMe691, hcc691⟩ := Kd.S_get HO_56.out [] x58_1 p691 (by first | exact q691 | exact of_decide_eq_true (by first | (with_reducible assumption) | assumption) | (have e_ := (Kd.S_reads' HO_56.out).1; omega))
         obtain ⟨ve691_0, rfl, ge691_0⟩ := hMe691
         have hv691_0 := hcc691 0 _ rfl
         rw [Nat.add_zero, show ((Kd.slice 3 (Kd.int .i64))).sz = 1 from rfl, Nat.mul_one] at hv691_0
         replace hv691_0 := Option.some.inj (hv691_0.symm.trans hx691_0)
         rw [hv691_0] at ge691_0
         have HL691_0 := Aside0.mk (show Kd.R (Kd.int .i64) 3 _ _ _ _ (rd_L1 t682 x58_1) from ge691_0)
         clear hv691_0 ge691_0; clear hcc691 hce691
         have HR691_0 := Aside0.mk hi691_0
         have HC691_0 := Aside0.mk hl691_0
         clear hi691_0 hl691_0; replace p691 := eq_true p691; replace q691 := eq_true q691
         go_wp2_with (first | ((with_reducible refine gate_callee (f := 39) rfl ?_); refine goesL_ (some 66) rfl rfl Try.func39 (by kernel_rfl) rfl #[.slice A691_0 (rd_L1 t682 x58_1).length c691_0, .int .i64 t677, .int .i64 t678] rfl (by (try simp only [List.map_toArray, List.map_cons, List.map_nil]); first | done | rfl) ?_; (with_reducible refine (laws_vSolves.calls k1 _ _ (rd_L1 t682 x58_1) t677 t678 false _ ?side1 ?side2 A25.out).mono ?_); (case side1 => repeat (first | exact (by repeat (first | (with_reducible exact HR691_0.out) | (with_reducible refine Kd.C_alloc ?_ _) | (with_reducible refine Kd.C_drewN ?_ _) | (with_reducible refine Kd.C_drew ?_) | exact HR691_0.out)) | (with_reducible refine Kd.C_alloc ?_ _) | (with_reducible refine Kd.C_drewN ?_ _) | (with_reducible refine Kd.C_drew ?_))); (case side2 => exact HC691_0.out); rintro e w69 ⟨rfl, hb⟩; refine ⟨_, rfl, ?_⟩; have n0_ := Aside0.mk (Kd.R_below (by (with_reducible repeat (first | apply Kd.R_alloc | apply Kd.R_drewN | apply Kd.R_drew)); exact HO_5.out) hb); have n1_ := Aside0.mk (Kd.S_below (by (with_reducible repeat (first | apply Kd.S_alloc | apply Kd.S_drewN | apply Kd.S_drew)); exact HO_9.out) hb); have n2_ := Aside0.mk (Kd.S_below (by (with_reducible repeat (first | apply Kd.S_alloc | apply Kd.S_drewN | apply Kd.S_drew)); exact HO_56.out) hb); have n3_ := Aside0.mk (Kd.R_below (by (with_reducible repeat (first | apply Kd.R_alloc | apply Kd.R_drewN | apply Kd.R_drew)); exact HL691_0.out) hb); have n4_ := Aside0.mk (Kd.C_below (by repeat (first | (with_reducible exact HR691_0.out) | (with_reducible refine Kd.C_alloc ?_ _) | (with_reducible refine Kd.C_drewN ?_ _) | (with_reducible refine Kd.C_drew ?_) | exact HR691_0.out)) hb); have n5_ := Aside0.mk (below_step (by repeat (first | (with_reducible first | exact HB.out | apply below_alloc | apply pw_below_drewN | apply below_drew1) | exact HB.out)) hb); clear HO_5; clear HO_9; clear HO_56; clear HL691_0; clear HR691_0; clear HB; have HO_5 := n0_; have HO_9 := n1_; have HO_56 := n2_; have HL691_0 := n3_; have HR691_0 := n4_; have HB := n5_; clear n0_ n1_ n2_ n3_ n4_ n5_; (try clear hb); (try clear hb2); (try clear hk); (try clear hi)))
         go_ret
         exact ⟨by first | rfl | (simp [errW_none, errW_some] <;> rfl) | (simp [*, errW_none, errW_some] <;> rfl), by repeat (first | (with_reducible first | exact HB.out | apply below_alloc | apply pw_below_drewN | apply below_drew1) | exact HB.out)⟩
       ·rw [if_neg c22] at H
        have c22b0 : decide (x58_1 < (t682.length : Int)) = false := decide_eq_false c22
        clear c22
        replace H := Option.bind_eq_some_iff.mp H
        obtain ⟨t709, A700, H⟩ := H
        replace H : (some t709) = some r := H
        have A70 := Aside0.mk A700
        clear A700
        obtain rfl := Option.some.inj H
        go_wp2_with (first | ((with_reducible refine gate_callee (f := 31) rfl ?_); refine goesL_ (some 126) rfl rfl Try.func31 (by kernel_rfl) rfl #[.slice Ao20 t682.length co20, .slice Ao17 t676.length co17] rfl (by (try simp only [List.map_toArray, List.map_cons, List.map_nil]); first | done | rfl) ?_; (with_reducible refine (laws_vHas.calls k1 _ _ t682 _ _ t676 t709 _ ?side1 ?side2 ?side3 ?side4 A70.out).mono ?_); (case side1 => repeat (first | exact (Kd.S_reads' HO_9.out).2.2 | (with_reducible refine Kd.C_alloc ?_ _) | (with_reducible refine Kd.C_drewN ?_ _) | (with_reducible refine Kd.C_drew ?_))); (case side2 => exact (Kd.S_reads' HO_9.out).2.1); (case side3 => repeat (first | exact (Kd.R_reads' HO_5.out).2.2 | (with_reducible refine Kd.C_alloc ?_ _) | (with_reducible refine Kd.C_drewN ?_ _) | (with_reducible refine Kd.C_drew ?_))); (case side4 => exact (Kd.R_reads' HO_5.out).2.1); rintro e w' ⟨rfl, ⟨nd, rfl⟩⟩; refine ⟨_, rfl, ?_⟩))
        go_ret
        exact ⟨by first | rfl | (simp [errW_none, errW_some] <;> rfl) | (simp [*, errW_none, errW_some] <;> rfl), by repeat (first | (with_reducible first | exact HB.out | apply below_alloc | apply pw_below_drewN | apply below_drew1) | exact HB.out)⟩
    ·replace c15 := Bool.eq_false_iff.mpr c15
     subst c15
     have H1 : (some true) = some r := by rw [if_neg (show ¬ (false = true) by decide)] at H; exact H
     clear H; have H := H1; clear H1
     obtain rfl := Option.some.inj H
     go_enter Try.func7, Try.ntmps7
     go_wp2_with (first | ((with_reducible refine gate_callee (f := 19) rfl ?_); refine goesL_ (some 21) rfl rfl Try.func19 (by kernel_rfl) rfl #[.slice A0 l0.length c0, .slice A1 l1.length c1] rfl (by (try simp only [List.map_toArray, List.map_cons, List.map_nil]); first | done | rfl) ?_; (with_reducible refine (laws_big.calls _ _ l0 _ _ l1 false _ ?side1 ?side2 ?side3 ?side4 A3.out).mono ?_); (case side1 => repeat (first | exact HR0.out | (with_reducible refine Kd.C_alloc ?_ _) | (with_reducible refine Kd.C_drewN ?_ _) | (with_reducible refine Kd.C_drew ?_))); (case side2 => exact HC0.out); (case side3 => repeat (first | exact HR1.out | (with_reducible refine Kd.C_alloc ?_ _) | (with_reducible refine Kd.C_drewN ?_ _) | (with_reducible refine Kd.C_drew ?_))); (case side4 => exact HC1.out); rintro e w' ⟨rfl, ⟨nd, rfl⟩⟩; refine ⟨_, rfl, ?_⟩) | ((with_reducible refine gate_callee (f := 42) rfl ?_); refine goesL_ (some 24) rfl rfl Try.func42 (by kernel_rfl) rfl #[.slice A0 l0.length c0] rfl (by (try simp only [List.map_toArray, List.map_cons, List.map_nil]); first | done | rfl) ?_; (with_reducible refine (spec_DrawTreeUpTo.calls k _ _ l0 t676 t677 t678 t679 _ ?side1 ?side2 A5.out).mono ?_); (case side1 => repeat (first | exact HR0.out | (with_reducible refine Kd.C_alloc ?_ _) | (with_reducible refine Kd.C_drewN ?_ _) | (with_reducible refine Kd.C_drew ?_))); (case side2 => exact HC0.out); rintro e w71 ⟨v680, rfl, ho0, hb⟩; refine ⟨_, rfl, ?_⟩; have n0_ := Aside0.mk (Kd.R_lower ho0 (below_size (by repeat (first | (with_reducible first | exact HB.out | apply below_alloc | apply pw_below_drewN | apply below_drew1) | exact HB.out)))); have n1_ := Aside0.mk (below_step (by repeat (first | (with_reducible first | exact HB.out | apply below_alloc | apply pw_below_drewN | apply below_drew1) | exact HB.out)) hb); clear HB; have HO681 := n0_; have HB := n1_; clear n0_ n1_; (try clear hb); (try clear hb2); (try clear hk); (try clear hi); (try clear ho0); obtain ⟨Ao72, co72, eo72⟩ := Kd.R_slice HO681.out; subst eo72) | ((with_reducible refine gate_callee (f := 18) rfl ?_); refine goesL_ (some 34) rfl rfl Try.func18 (by kernel_rfl) rfl #[.slice Ao72 t676.length co72, .int .i64 t677, .int .i64 t678, .int .i64 t679] rfl (by (try simp only [List.map_toArray, List.map_cons, List.map_nil]); first | done | rfl) ?_; (with_reducible refine (impl_TreeUpTo.calls k _ _ t676 t677 t678 t679 t682 t683 _ ?side1 ?side2 A6.out).mono ?_); (case side1 => repeat (first | exact (Kd.R_reads' HO681.out).2.2 | (with_reducible refine Kd.C_alloc ?_ _) | (with_reducible refine Kd.C_drewN ?_ _) | (with_reducible refine Kd.C_drew ?_))); (case side2 => exact (Kd.R_reads' HO681.out).2.1); rintro e w73 ⟨v684, rfl, ho0, hb⟩; refine ⟨_, rfl, ?_⟩; have n0_ := Aside0.mk (Kd.R_below (by (with_reducible repeat (first | apply Kd.R_alloc | apply Kd.R_drewN | apply Kd.R_drew)); exact HO681.out) hb); have n1_ := Aside0.mk (Kd.S_lower (Kd.S_new' ho0 (Kd.R_lt (by (with_reducible repeat (first | apply Kd.R_alloc | apply Kd.R_drewN | apply Kd.R_drew)); exact HO681.out))) (below_size (by repeat (first | (with_reducible first | exact HB.out | apply below_alloc | apply pw_below_drewN | apply below_drew1) | exact HB.out)))); have n2_ := Aside0.mk (below_step (by repeat (first | (with_reducible first | exact HB.out | apply below_alloc | apply pw_below_drewN | apply below_drew1) | exact HB.out)) hb); clear HO681; clear HB; have HO681 := n0_; have HO685 := n1_; have HB := n2_; clear n0_ n1_ n2_; (try clear hb); (try clear hb2); (try clear hk); (try clear hi); (try clear ho0)) | ((with_reducible refine gate_callee (f := 17) rfl ?_); refine goesL_ (some 42) rfl rfl Try.func17 (by kernel_rfl) rfl #[.slice Ao72 t676.length co72, .int .i64 t677, .int .i64 t678, .int .i64 t679] rfl (by (try simp only [List.map_toArray, List.map_cons, List.map_nil]); first | done | rfl) ?_; (with_reducible refine (spec_TreeUpTo.calls k _ _ t676 t677 t678 t679 t686 false _ ?side1 ?side2 A7.out).mono ?_); (case side1 => repeat (first | exact (Kd.R_reads' HO681.out).2.2 | (with_reducible refine Kd.C_alloc ?_ _) | (with_reducible refine Kd.C_drewN ?_ _) | (with_reducible refine Kd.C_drew ?_))); (case side2 => exact (Kd.R_reads' HO681.out).2.1); rintro e w74 ⟨v687, rfl, ho0, hb⟩; refine ⟨_, rfl, ?_⟩; have n0_ := Aside0.mk (Kd.R_below (by (with_reducible repeat (first | apply Kd.R_alloc | apply Kd.R_drewN | apply Kd.R_drew)); exact HO681.out) hb); have n1_ := Aside0.mk (Kd.S_below (by (with_reducible repeat (first | apply Kd.S_alloc | apply Kd.S_drewN | apply Kd.S_drew)); exact HO685.out) hb); have n2_ := Aside0.mk (Kd.V_lower (Kd.V_mono (ok' := fun k_ => some k_ ≠ (.slice Ao72 t676.length co72 : Value).ownBlock ∧ some k_ ≠ (v684 : Value).ownBlock) ho0 (fun k_ hk_ => ⟨(Kd.fresh' (Kd.R_lt (by (with_reducible repeat (first | apply Kd.R_alloc | apply Kd.R_drewN | apply Kd.R_drew)); exact HO681.out)) k_ hk_), (Kd.fresh' (Kd.S_lt (by (with_reducible repeat (first | apply Kd.S_alloc | apply Kd.S_drewN | apply Kd.S_drew)); exact HO685.out)) k_ hk_)⟩)) (below_size (by repeat (first | (with_reducible first | exact HB.out | apply below_alloc | apply pw_below_drewN | apply below_drew1) | exact HB.out)))); have n3_ := Aside0.mk (below_step (by repeat (first | (with_reducible first | exact HB.out | apply below_alloc | apply pw_below_drewN | apply below_drew1) | exact HB.out)) hb); clear HO681; clear HO685; clear HB; have HO681 := n0_; have HO685 := n1_; have HO688 := n2_; have HB := n3_; clear n0_ n1_ n2_ n3_; (try clear hb); (try clear hb2); (try clear hk); (try clear hi); (try clear ho0); obtain ⟨Ao75, co75, eo75⟩ := Kd.S_slice HO685.out; subst eo75; obtain ⟨Ao76, co76, eo76⟩ := Kd.V_slice HO688.out; subst eo76) | (go_at_call 25; (with_reducible refine (laws_vSameLists.calls k _ _ t682 _ _ t686 true _ ?side1 ?side2 ?side3 ?side4 A13.out).mono ?_); (case side1 => repeat (first | exact (Kd.S_reads' HO685.out).2.2 | (with_reducible refine Kd.C_alloc ?_ _) | (with_reducible refine Kd.C_drewN ?_ _) | (with_reducible refine Kd.C_drew ?_))); (case side2 => exact (Kd.S_reads' HO685.out).2.1); (case side3 => repeat (first | exact (Kd.V_reads' HO688.out).2.2 | (with_reducible refine Kd.C_alloc ?_ _) | (with_reducible refine Kd.C_drewN ?_ _) | (with_reducible refine Kd.C_drew ?_))); (case side4 => exact (Kd.V_reads' HO688.out).2.1); rintro e w' ⟨rfl, ⟨nd, rfl⟩⟩))
     go_ret
     exact ⟨by first | rfl | (simp [errW_none, errW_some] <;> rfl) | (simp [*, errW_none, errW_some] <;> rfl), by repeat (first | (with_reducible first | exact HB.out | apply below_alloc | apply pw_below_drewN | apply below_drew1) | exact HB.out)⟩
   ·replace c14 := Bool.eq_false_iff.mpr c14
    subst c14
    have H1 : (some false) = some r := by rw [if_neg (show ¬ (false = true) by decide)] at H; exact H
    clear H; have H := H1; clear H1
    obtain rfl := Option.some.inj H
    go_enter Try.func7, Try.ntmps7
    go_wp2_with (first | ((with_reducible refine gate_callee (f := 19) rfl ?_); refine goesL_ (some 21) rfl rfl Try.func19 (by kernel_rfl) rfl #[.slice A0 l0.length c0, .slice A1 l1.length c1] rfl (by (try simp only [List.map_toArray, List.map_cons, List.map_nil]); first | done | rfl) ?_; (with_reducible refine (laws_big.calls _ _ l0 _ _ l1 false _ ?side1 ?side2 ?side3 ?side4 A3.out).mono ?_); (case side1 => repeat (first | exact HR0.out | (with_reducible refine Kd.C_alloc ?_ _) | (with_reducible refine Kd.C_drewN ?_ _) | (with_reducible refine Kd.C_drew ?_))); (case side2 => exact HC0.out); (case side3 => repeat (first | exact HR1.out | (with_reducible refine Kd.C_alloc ?_ _) | (with_reducible refine Kd.C_drewN ?_ _) | (with_reducible refine Kd.C_drew ?_))); (case side4 => exact HC1.out); rintro e w' ⟨rfl, ⟨nd, rfl⟩⟩; refine ⟨_, rfl, ?_⟩) | ((with_reducible refine gate_callee (f := 42) rfl ?_); refine goesL_ (some 24) rfl rfl Try.func42 (by kernel_rfl) rfl #[.slice A0 l0.length c0] rfl (by (try simp only [List.map_toArray, List.map_cons, List.map_nil]); first | done | rfl) ?_; (with_reducible refine (spec_DrawTreeUpTo.calls k _ _ l0 t676 t677 t678 t679 _ ?side1 ?side2 A5.out).mono ?_); (case side1 => repeat (first | exact HR0.out | (with_reducible refine Kd.C_alloc ?_ _) | (with_reducible refine Kd.C_drewN ?_ _) | (with_reducible refine Kd.C_drew ?_))); (case side2 => exact HC0.out); rintro e w77 ⟨v680, rfl, ho0, hb⟩; refine ⟨_, rfl, ?_⟩; have n0_ := Aside0.mk (Kd.R_lower ho0 (below_size (by repeat (first | (with_reducible first | exact HB.out | apply below_alloc | apply pw_below_drewN | apply below_drew1) | exact HB.out)))); have n1_ := Aside0.mk (below_step (by repeat (first | (with_reducible first | exact HB.out | apply below_alloc | apply pw_below_drewN | apply below_drew1) | exact HB.out)) hb); clear HB; have HO681 := n0_; have HB := n1_; clear n0_ n1_; (try clear hb); (try clear hb2); (try clear hk); (try clear hi); (try clear ho0); obtain ⟨Ao78, co78, eo78⟩ := Kd.R_slice HO681.out; subst eo78) | ((with_reducible refine gate_callee (f := 18) rfl ?_); refine goesL_ (some 34) rfl rfl Try.func18 (by kernel_rfl) rfl #[.slice Ao78 t676.length co78, .int .i64 t677, .int .i64 t678, .int .i64 t679] rfl (by (try simp only [List.map_toArray, List.map_cons, List.map_nil]); first | done | rfl) ?_; (with_reducible refine (impl_TreeUpTo.calls k _ _ t676 t677 t678 t679 t682 t683 _ ?side1 ?side2 A6.out).mono ?_); (case side1 => repeat (first | exact (Kd.R_reads' HO681.out).2.2 | (with_reducible refine Kd.C_alloc ?_ _) | (with_reducible refine Kd.C_drewN ?_ _) | (with_reducible refine Kd.C_drew ?_))); (case side2 => exact (Kd.R_reads' HO681.out).2.1); rintro e w79 ⟨v684, rfl, ho0, hb⟩; refine ⟨_, rfl, ?_⟩; have n0_ := Aside0.mk (Kd.R_below (by (with_reducible repeat (first | apply Kd.R_alloc | apply Kd.R_drewN | apply Kd.R_drew)); exact HO681.out) hb); have n1_ := Aside0.mk (Kd.S_lower (Kd.S_new' ho0 (Kd.R_lt (by (with_reducible repeat (first | apply Kd.R_alloc | apply Kd.R_drewN | apply Kd.R_drew)); exact HO681.out))) (below_size (by repeat (first | (with_reducible first | exact HB.out | apply below_alloc | apply pw_below_drewN | apply below_drew1) | exact HB.out)))); have n2_ := Aside0.mk (below_step (by repeat (first | (with_reducible first | exact HB.out | apply below_alloc | apply pw_below_drewN | apply below_drew1) | exact HB.out)) hb); clear HO681; clear HB; have HO681 := n0_; have HO685 := n1_; have HB := n2_; clear n0_ n1_ n2_; (try clear hb); (try clear hb2); (try clear hk); (try clear hi); (try clear ho0)) | ((with_reducible refine gate_callee (f := 17) rfl ?_); refine goesL_ (some 42) rfl rfl Try.func17 (by kernel_rfl) rfl #[.slice Ao78 t676.length co78, .int .i64 t677, .int .i64 t678, .int .i64 t679] rfl (by (try simp only [List.map_toArray, List.map_cons, List.map_nil]); first | done | rfl) ?_; (with_reducible refine (spec_TreeUpTo.calls k _ _ t676 t677 t678 t679 t686 t689 _ ?side1 ?side2 A7.out).mono ?_); (case side1 => repeat (first | exact (Kd.R_reads' HO681.out).2.2 | (with_reducible refine Kd.C_alloc ?_ _) | (with_reducible refine Kd.C_drewN ?_ _) | (with_reducible refine Kd.C_drew ?_))); (case side2 => exact (Kd.R_reads' HO681.out).2.1); rintro e w80 ⟨v687, rfl, ho0, hb⟩; refine ⟨_, rfl, ?_⟩; have n0_ := Aside0.mk (Kd.R_below (by (with_reducible repeat (first | apply Kd.R_alloc | apply Kd.R_drewN | apply Kd.R_drew)); exact HO681.out) hb); have n1_ := Aside0.mk (Kd.S_below (by (with_reducible repeat (first | apply Kd.S_alloc | apply Kd.S_drewN | apply Kd.S_drew)); exact HO685.out) hb); have n2_ := Aside0.mk (Kd.V_lower (Kd.V_mono (ok' := fun k_ => some k_ ≠ (.slice Ao78 t676.length co78 : Value).ownBlock ∧ some k_ ≠ (v684 : Value).ownBlock) ho0 (fun k_ hk_ => ⟨(Kd.fresh' (Kd.R_lt (by (with_reducible repeat (first | apply Kd.R_alloc | apply Kd.R_drewN | apply Kd.R_drew)); exact HO681.out)) k_ hk_), (Kd.fresh' (Kd.S_lt (by (with_reducible repeat (first | apply Kd.S_alloc | apply Kd.S_drewN | apply Kd.S_drew)); exact HO685.out)) k_ hk_)⟩)) (below_size (by repeat (first | (with_reducible first | exact HB.out | apply below_alloc | apply pw_below_drewN | apply below_drew1) | exact HB.out)))); have n3_ := Aside0.mk (below_step (by repeat (first | (with_reducible first | exact HB.out | apply below_alloc | apply pw_below_drewN | apply below_drew1) | exact HB.out)) hb); clear HO681; clear HO685; clear HB; have HO681 := n0_; have HO685 := n1_; have HO688 := n2_; have HB := n3_; clear n0_ n1_ n2_ n3_; (try clear hb); (try clear hb2); (try clear hk); (try clear hi); (try clear ho0); obtain ⟨Ao81, co81, eo81⟩ := Kd.S_slice HO685.out; subst eo81; obtain ⟨Ao82, co82, eo82⟩ := Kd.V_slice HO688.out; subst eo82) | (go_at_call 25; (with_reducible refine (laws_vSameLists.calls k _ _ t682 _ _ t686 false _ ?side1 ?side2 ?side3 ?side4 A13.out).mono ?_); (case side1 => repeat (first | exact (Kd.S_reads' HO685.out).2.2 | (with_reducible refine Kd.C_alloc ?_ _) | (with_reducible refine Kd.C_drewN ?_ _) | (with_reducible refine Kd.C_drew ?_))); (case side2 => exact (Kd.S_reads' HO685.out).2.1); (case side3 => repeat (first | exact (Kd.V_reads' HO688.out).2.2 | (with_reducible refine Kd.C_alloc ?_ _) | (with_reducible refine Kd.C_drewN ?_ _) | (with_reducible refine Kd.C_drew ?_))); (case side4 => exact (Kd.V_reads' HO688.out).2.1); rintro e w' ⟨rfl, ⟨nd, rfl⟩⟩))
    go_ret
    exact ⟨by first | rfl | (simp [errW_none, errW_some] <;> rfl) | (simp [*, errW_none, errW_some] <;> rfl), by repeat (first | (with_reducible first | exact HB.out | apply below_alloc | apply pw_below_drewN | apply below_drew1) | exact HB.out)⟩

/-- THE ONE PURE STATEMENT of laws_FnTreesOfHurwitz: yours. -/
def laws_FnTreesOfHurwitz.Pure : Prop := ∀ (l0 : List Int) (l1 : List Int), l0.length ≤ maxLen → l0.length * 1 ≤ 140737488351232 → (∀ x ∈ l0, (Lit.int .u8 x).wf = true) → l1.length ≤ maxLen → l1.length * 1 ≤ 140737488351232 → (∀ x ∈ l1, (Lit.int .u8 x).wf = true) → ∃ k, laws_FnTreesOfHurwitz.f k l0 l1 = some true
theorem laws_FnTreesOfHurwitz.walk (P : laws_FnTreesOfHurwitz.Pure) (a0 : Option Addr) (len0 cap0 : Nat) (z0 : List Int) (a1 : Option Addr) (len1 cap1 : Nat) (z1 : List Int) (w : World) (w0 : (a0 = none ∧ len0 = 0 ∧ cap0 = 0 ∧ z0 = []) ∨ ∃ x, a0 = some x ∧ len0 ≤ cap0 ∧ cap0 ≤ maxLen ∧ z0.length = cap0 ∧ (∀ i, i < z0.length → w.cell? (x.add i) = some (.int .u8 (z0.getD i 0))) ∧ ∀ n ∈ z0, (Lit.int .u8 n).wf = true) (y0 : len0 * 1 ≤ 140737488351232) (w1 : (a1 = none ∧ len1 = 0 ∧ cap1 = 0 ∧ z1 = []) ∨ ∃ x, a1 = some x ∧ len1 ≤ cap1 ∧ cap1 ≤ maxLen ∧ z1.length = cap1 ∧ (∀ i, i < z1.length → w.cell? (x.add i) = some (.int .u8 (z1.getD i 0))) ∧ ∀ n ∈ z1, (Lit.int .u8 n).wf = true) (y1 : len1 * 1 ≤ 140737488351232) :
  Calls Try.prog 7 #[.slice a0 len0 cap0, .slice a1 len1 cap1] w fun e w' => e = .returned (.bool true) ∧ Below w.heap.size w w' := by
 obtain ⟨l0, rfl, hr0, hm0, hw0, hc0⟩ := ReadsInt.ofRowC w0
 obtain ⟨l1, rfl, hr1, hm1, hw1, hc1⟩ := ReadsInt.ofRowC w1
 obtain ⟨k, h⟩ := P l0 l1 hm0 y0 hw0 hm1 y1 hw1
 refine (laws_FnTreesOfHurwitz.calls k _ _ l0 _ _ l1 true w (Kd.C_of_reads (d := (0 : Int)) (h1 := fun _ => rfl) hr0) hc0 (Kd.C_of_reads (d := (0 : Int)) (h1 := fun _ => rfl) hr1) hc1 h).mono ?_
 rintro e w' ⟨rfl, hd⟩
 exact ⟨rfl, hd⟩

end Go.Proofs.Ytgpoljimomfbbaa.P

-- UhuUp
namespace Go.Proofs.Ytgpoljimomfbbaa.P
open Go.RowKit Go.Proofs.YtgpoljimomfbbaaW.PrintWords Go.Proofs.YtgpoljimomfbbaaW.PrintLast
set_option linter.unusedVariables false
set_option linter.unusedSimpArgs false
def su : List Int → Int
  | [] => 0
  | x :: l => x + su l
theorem su_perm {l m : List Int} (h : l.Perm m) : su l = su m := by
  induction h with
  | nil => rfl
  | cons x _ ih => simp only [su, ih]
  | swap x y l => simp only [su]; omega
  | trans _ _ ih1 ih2 => rw [ih1, ih2]
theorem su_set (l : List Int) : ∀ (i : Nat) (y : Int), (h : i < l.length) → su (l.set i y) = su l - l[i] + y := by
  induction l with
  | nil => intro i y h; simp at h
  | cons x l ih =>
    intro i y h
    cases i with
    | zero => simp only [List.set_cons_zero, su, List.getElem_cons_zero]; omega
    | succ i =>
      have := ih i y (by simpa using h)
      simp only [List.set_cons_succ, su, List.getElem_cons_succ, this]
      omega
theorem sumOf_loop (l : List Int) (hn : l.length ≤ 1000000) (hb : ∀ x ∈ l, 1 ≤ x ∧ x ≤ 100000) (d : Nat) : ∀ (i : Nat) (s : Int), i + d = l.length → 0 ≤ s → s ≤ 100000 * (i : Int) → Ev (fun k => impl_sumOf.l0 k s l (l.length : Int) (i : Int)) (s + su (l.drop i)) := by
  induction d with
  | zero =>
    intro i s hi h0 h1
    have e : s + su (l.drop i) = s := by rw [List.drop_of_length_le (by omega)]; simp [su]
    rw [e]
    exact Ev.step (f := fun _ => some s) (fun k => by simp only [impl_sumOf.l0]; rw [if_neg (by omega)]) (Ev.is rfl)
  | succ d ih =>
    intro i s hi h0 h1
    have hil : i < l.length := by omega
    have hx := hb _ (List.getElem_mem hil)
    have hr := ih (i + 1) (s + l[i]) (by omega) (by omega) (by omega)
    have e : s + l[i] + su (l.drop (i + 1)) = s + su (l.drop i) := by
      rw [List.drop_eq_getElem_cons hil, su]
      omega
    rw [e] at hr
    refine Ev.step (fun k => ?_) hr
    simp only [impl_sumOf.l0]
    rw [if_pos (by omega), if_pos (by omega), if_pos (by omega), rd_lt l i hil, w64_succ hil (by omega), w64 (by omega) (by omega)]
theorem sumOf_ev (l : List Int) (hn : l.length ≤ 1000000) (hb : ∀ x ∈ l, 1 ≤ x ∧ x ≤ 100000) : Ev (fun k => impl_sumOf.f k l) (su l) := by
  have := sumOf_loop l hn hb l.length 0 0 (by omega) (by omega) (by omega)
  rw [List.drop_zero, Int.zero_add] at this
  exact this
/-- The jumps up from place i on. -/
def risFrom (l : List Int) (a : Int) : Nat → Nat → List (List Int)
  | 0, _ => []
  | d + 1, i => (if inB 1 100000 (oth l a i) = true ∧ rd l (i : Int) < oth l a i then [jmp l a i] else []) ++ risFrom l a d (i + 1)
def brs (l : List Int) (a : Int) : List (List Int) := sortDedup (risFrom l a l.length 0)
theorem insS_snoc (x : List Int) (o : List (List Int)) : insS x (sortDedup o) = sortDedup (o ++ [x]) :=
  sortDedup_is (insS_sorted x _ (sortDedup_sorted o)) (fun z => by rw [insS_mem, sortDedup_mem, List.mem_append, List.mem_singleton]; exact or_comm)
theorem sortDedup_length (o : List (List Int)) : (sortDedup o).length ≤ o.length := by
  have hi : ∀ (x : List Int) (l : List (List Int)), (insS x l).length ≤ l.length + 1 := by
    intro x l
    induction l with
    | nil => simp [insS]
    | cons y t ih =>
      unfold insS
      split
      · simp
      · split
        · simp
        · simp only [List.length_cons]; omega
  induction o with
  | nil => simp [sortDedup]
  | cons x t ih =>
    have := hi x (sortDedup t)
    simp only [sortDedup, List.length_cons]
    omega
theorem jmp_sum {l : List Int} {a : Int} {i : Nat} (hi : i < l.length) : su (jmp l a i) = su l - rd l (i : Int) + oth l a i := by
  rw [jmp, su_perm (down_perm _), su_set l i _ hi, rd_lt l i hi]
theorem ris_loop {l : List Int} {a b : Int} (hg : huGv a b = true) (h : huIs l a b = true) (d : Nat) : ∀ (i : Nat) (o : List (List Int)), i + d = l.length → o.length ≤ i → (∀ x ∈ o, x.length = l.length) →
    Ev (fun k => impl_branches.l0 k l a o (i : Int)) (sortDedup (o ++ risFrom l a d i)) ∧ Ev (fun k => spec_huUp.l0 k l a (sortDedup o) l (l.length : Int) (i : Int)) (sortDedup (o ++ risFrom l a d i)) := by
  obtain ⟨h1, h2, h3, h4⟩ := huIs_iff.1 h
  induction d with
  | zero =>
    intro i o hi ho hx
    have c1 : ¬ (i : Int) < (l.length : Int) := by omega
    rw [risFrom, List.append_nil]
    constructor
    · exact Ev.step (f := fun _ => some (sortDedup o)) (fun k => by simp only [impl_branches.l0, c1, if_false]) (Ev.is rfl)
    · exact Ev.step (f := fun _ => some (sortDedup o)) (fun k => by simp only [spec_huUp.l0, c1, if_false]) (Ev.is rfl)
  | succ d ih =>
    intro i o hi ho hx
    have hil : i < l.length := by omega
    have c1 : (i : Int) < (l.length : Int) := by omega
    have c2 : (0 : Int) ≤ (i : Int) := by omega
    have hw : wrap64 ((i : Int) + 1) = ((i + 1 : Nat) : Int) := w64_succ hil (by omega)
    obtain ⟨j1, j2⟩ := jump_both hg h i hil
    obtain ⟨o1, o2⟩ := other_both hg h i hil
    rw [risFrom]
    unfold jumpOf at j1 j2
    cases hin : inB 1 100000 (oth l a i) with
    | false =>
      rw [hin] at j1 j2
      simp only [Bool.false_eq_true, if_false, false_and, List.nil_append] at j1 j2 ⊢
      obtain ⟨r1, r2⟩ := ih (i + 1) o (by omega) (by omega) hx
      constructor
      · refine Ev.step (fun k => by simp only [impl_branches.l0, c1, if_true]; rfl) (Ev.bind j1 ?_)
        simp only [Bool.false_eq_true, if_false, hw]
        exact r1
      · refine Ev.step (fun k => by simp only [spec_huUp.l0, c1, c2, if_true]; rfl) (Ev.bind j2 ?_)
        simp only [Bool.false_eq_true, if_false, hw]
        exact r2
    | true =>
      rw [hin] at j1 j2
      simp only [if_true, true_and] at j1 j2 ⊢
      have hju := jmp_is hil h hin
      obtain ⟨u1, u2, u3, u4⟩ := huIs_iff.1 hju
      have s1 := sumOf_ev (jmp l a i) (by omega) u2
      have s2 := sumOf_ev l (by omega) h2
      have hs := jmp_sum (l := l) (a := a) (i := i) hil
      have hjl := jmp_length l a i
      by_cases hup : rd l (i : Int) < oth l a i
      · rw [if_pos hup]
        obtain ⟨r1, r2⟩ := ih (i + 1) (o ++ [jmp l a i]) (by omega) (by simp; omega) (fun x hx2 => by
          rcases List.mem_append.1 hx2 with h | h
          · exact hx x h
          · rw [List.mem_singleton.1 h, hjl])
        rw [List.append_assoc] at r1 r2
        have c3 : su l < su (jmp l a i) := by omega
        have c4 : o.length < 1000000000 := by omega
        have c5 : (jmp l a i).length < 9223372036854775807 := by omega
        constructor
        · refine Ev.step (fun k => by simp only [impl_branches.l0, c1, if_true]; rfl) (Ev.bind j1 ?_)
          simp only [if_true]
          refine Ev.bind s1 (Ev.bind s2 ?_)
          simp only [c3, c4, c5, if_true, hw]
          exact r1
        · have hp := huPut_ev (L := sortDedup o) (x := jmp l a i) (by have := sortDedup_length o; omega) (fun y hy => by rw [hx y ((sortDedup_mem y o).1 hy)]; omega) (by omega)
          rw [insS_snoc] at hp
          refine Ev.step (fun k => by simp only [spec_huUp.l0, c1, c2, if_true]; rfl) (Ev.bind j2 ?_)
          simp only [if_true]
          refine Ev.bind o2 ?_
          have c6 : oth l a i > rd l (i : Int) := hup
          simp only [c6, if_true]
          refine Ev.bind hp ?_
          rw [hw]
          exact r2
      · rw [if_neg hup, List.nil_append]
        obtain ⟨r1, r2⟩ := ih (i + 1) o (by omega) (by omega) hx
        have c3 : ¬ su l < su (jmp l a i) := by omega
        constructor
        · refine Ev.step (fun k => by simp only [impl_branches.l0, c1, if_true]; rfl) (Ev.bind j1 ?_)
          simp only [if_true]
          refine Ev.bind s1 (Ev.bind s2 ?_)
          simp only [c3, if_false, hw]
          exact r1
        · refine Ev.step (fun k => by simp only [spec_huUp.l0, c1, c2, if_true]; rfl) (Ev.bind j2 ?_)
          simp only [if_true]
          refine Ev.bind o2 ?_
          have c6 : ¬ oth l a i > rd l (i : Int) := hup
          simp only [c6, if_false, hw]
          exact r2
theorem branches_both {l : List Int} {a b : Int} (hg : huGv a b = true) (h : huIs l a b = true) : Ev (fun k => impl_branches.f k l a) (brs l a) ∧ Ev (fun k => spec_huUp.f k l a) (brs l a) := by
  have := ris_loop hg h l.length 0 [] (by omega) (by simp) (by simp)
  exact this
theorem risFrom_spec (l : List Int) (a : Int) (u : List Int) (d : Nat) : ∀ i, u ∈ risFrom l a d i ↔ ∃ j, i ≤ j ∧ j < i + d ∧ inB 1 100000 (oth l a j) = true ∧ rd l (j : Int) < oth l a j ∧ u = jmp l a j := by
  induction d with
  | zero => intro i; simp [risFrom]; omega
  | succ d ih =>
    intro i
    rw [risFrom, List.mem_append, ih (i + 1)]
    constructor
    · rintro (h | ⟨j, h1, h2, h3⟩)
      · split at h
        · rename_i c
          exact ⟨i, by omega, by omega, c.1, c.2, List.mem_singleton.1 h⟩
        · simp at h
      · exact ⟨j, by omega, by omega, h3⟩
    · rintro ⟨j, h1, h2, h3, h4, h5⟩
      by_cases hj : j = i
      · subst hj
        left
        rw [if_pos ⟨h3, h4⟩]
        exact List.mem_singleton.2 h5
      · exact .inr ⟨j, by omega, by omega, h3, h4, h5⟩
theorem risFrom_length (l : List Int) (a : Int) (d : Nat) : ∀ i, (risFrom l a d i).length ≤ d := by
  induction d with
  | zero => intro i; simp [risFrom]
  | succ d ih =>
    intro i
    have := ih (i + 1)
    rw [risFrom, List.length_append]
    split <;> simp <;> omega
theorem brs_length (l : List Int) (a : Int) : (brs l a).length ≤ l.length := Nat.le_trans (sortDedup_length _) (risFrom_length l a l.length 0)
theorem brs_mem (l : List Int) (a : Int) (u : List Int) : u ∈ brs l a ↔ ∃ j, j < l.length ∧ inB 1 100000 (oth l a j) = true ∧ rd l (j : Int) < oth l a j ∧ u = jmp l a j := by
  unfold brs
  rw [sortDedup_mem, risFrom_spec]
  constructor
  · rintro ⟨j, h1, h2, h3⟩; exact ⟨j, by omega, h3⟩
  · rintro ⟨j, h1, h3⟩; exact ⟨j, by omega, by omega, h3⟩
def brAll (l : List Int) (a b : Int) : List (List Int) × Bool := if huSol l a b then (brs l a, true) else ([], false)
theorem BranchesOf_ev (l : List Int) (a b : Int) : Ev (fun k => impl_BranchesOf.f k l a b) (brAll l a b) := by
  unfold impl_BranchesOf.f brAll
  refine Ev.bind (isSolution_ev l a b) ?_
  cases hs : huSol l a b with
  | false =>
    simp only [Bool.false_eq_true, if_false]
    exact Ev.is rfl
  | true =>
    obtain ⟨hg, h⟩ := huSol_iff.1 hs
    simp only [if_true]
    refine Ev.bind (branches_both hg h).1 ?_
    have h1 := (huIs_iff.1 h).1
    have h2 := brs_length l a
    have c : (brs l a).length < 5864062014805 := by omega
    simp only [c, if_true]
    exact Ev.is rfl
end Go.Proofs.Ytgpoljimomfbbaa.P

-- UhuTree
namespace Go.Proofs.Ytgpoljimomfbbaa.P
open Go.RowKit Go.Proofs.YtgpoljimomfbbaaW.PrintWords Go.Proofs.YtgpoljimomfbbaaW.PrintLast
set_option linter.unusedVariables false
set_option linter.unusedSimpArgs false
/-- What is reached. -/
inductive Reach (a most : Int) (l : List Int) : List Int → Prop
  | base : Reach a most l l
  | step {x u : List Int} : Reach a most l x → u ∈ brs x a → rd u 0 ≤ most → Reach a most l u
theorem reach_is {a b most : Int} {l : List Int} (h : huIs l a b = true) {x : List Int} (hx : Reach a most l x) : huIs x a b = true := by
  induction hx with
  | base => exact h
  | step _ hu _ ih =>
    obtain ⟨j, hj, hin, _, rfl⟩ := (brs_mem _ a _).1 hu
    exact jmp_is hj ih hin
/-- Lists that stand once and lie in others are no more than these. -/
theorem nodup_le : ∀ (G F : List (List Int)), G.Nodup → (∀ x ∈ G, x ∈ F) → G.length ≤ F.length
  | [], F, _, _ => by simp
  | x :: G, F, hn, hs => by
    rw [List.nodup_cons] at hn
    have hx := hs x List.mem_cons_self
    have ih := nodup_le G (F.erase x) hn.2 (fun y hy => by
      have hne : y ≠ x := fun e => hn.1 (e ▸ hy)
      exact (List.mem_erase_of_ne hne).2 (hs y (List.mem_cons_of_mem _ hy)))
    have he := List.length_erase_of_mem hx
    have hp := List.length_pos_of_mem hx
    rw [List.length_cons]
    omega
/-- Closed under the jumps up. -/
def Shut (a most : Int) (F : List (List Int)) (x : List Int) : Prop := ∀ u ∈ brs x a, rd u 0 ≤ most → u ∈ F
theorem reach_in {a most : Int} {l : List Int} {F : List (List Int)} (hl : l ∈ F) (hF : ∀ x ∈ F, Shut a most F x) {x : List Int} (hx : Reach a most l x) : x ∈ F := by
  induction hx with
  | base => exact hl
  | step _ hu hm ih => exact hF _ ih _ hu hm
/-- What a search may answer. -/
def Answer (a most : Int) (l : List Int) (r : List (List Int) × Bool) : Prop :=
  (∃ F, r = (sortDedup F, true) ∧ F.Nodup ∧ F.length ≤ 500 ∧ l ∈ F ∧ (∀ x ∈ F, Reach a most l x) ∧ (∀ x ∈ F, Shut a most F x)) ∨ (r = ([], false) ∧ ∃ F : List (List Int), F.Nodup ∧ 500 < F.length ∧ ∀ x ∈ F, Reach a most l x)
theorem answer_one {a most : Int} {l : List Int} {r s : List (List Int) × Bool} (h1 : Answer a most l r) (h2 : Answer a most l s) : r = s := by
  rcases h1 with ⟨F, e1, n1, c1, m1, k1, s1⟩ | ⟨e1, F, n1, c1, k1⟩ <;> rcases h2 with ⟨G, e2, n2, c2, m2, k2, s2⟩ | ⟨e2, G, n2, c2, k2⟩
  · rw [e1, e2]
    congr 1
    refine (sortDedup_is (sortDedup_sorted F) (fun z => ?_))
    rw [sortDedup_mem]
    exact ⟨fun h => reach_in m2 s2 (k1 z h), fun h => reach_in m1 s1 (k2 z h)⟩
  · have := nodup_le G F n2 (fun x hx => reach_in m1 s1 (k2 x hx))
    omega
  · have := nodup_le F G n1 (fun x hx => reach_in m2 s2 (k1 x hx))
    omega
  · rw [e1, e2]
theorem sorted_nodup {W : List (List Int)} (h : W.Pairwise fun a b => cmpL a b < 0) : W.Nodup := by
  refine h.imp (fun {a b} hab e => ?_)
  subst e
  have := cmpL_self a
  omega
theorem insS_length (x : List Int) : ∀ L, (L.Pairwise fun a b => cmpL a b < 0) → (x ∈ L → insS x L = L) ∧ (x ∉ L → (insS x L).length = L.length + 1)
  | [], _ => by simp [insS]
  | y :: t, h => by
    rw [List.pairwise_cons] at h
    obtain ⟨i1, i2⟩ := insS_length x t h.2
    unfold insS
    constructor
    · intro hx
      rcases List.mem_cons.1 hx with rfl | hx
      · rw [if_neg (by have := cmpL_self x; omega), if_pos (cmpL_self x)]
      · have h1 := h.1 x hx
        have h2 := cmpL_anti x y
        rw [if_neg (by omega), if_neg (by omega), i1 hx]
    · intro hx
      rw [List.mem_cons, not_or] at hx
      split
      · rfl
      · split
        · rename_i h2
          exact absurd (cmpL_eq x y h2) hx.1
        · rw [List.length_cons, i2 hx.2, List.length_cons]
/-- One solution's branches are put in. -/
theorem put_loop {a most : Int} (front : List (List Int)) (q : Int) (i : Nat) (B : List (List Int)) (hB : B.length ≤ 4) (hB2 : ∀ u ∈ B, 1 ≤ u.length ∧ u.length ≤ 4) (d : Nat) :
    ∀ (j : Nat) (out next : List (List Int)), j + d = B.length → (out.Pairwise fun a b => cmpL a b < 0) → out.length + d ≤ 2000000000 → next.length + d ≤ 2000000000 → (∀ u ∈ out, u.length ≤ 4) →
    ∃ out' next' : List (List Int), (out'.Pairwise fun a b => cmpL a b < 0) ∧ (∀ u, u ∈ out' ↔ u ∈ out ∨ (u ∈ B.drop j ∧ rd u 0 ≤ most)) ∧ (∀ u, u ∈ next' ↔ u ∈ next ∨ (u ∈ out' ∧ u ∉ out)) ∧ out'.length + next.length = out.length + next'.length ∧ out'.length ≤ out.length + d ∧
    ∀ r, Ev (fun k => if (out'.length : Int) > 500 then (some (([] : List (List Int)), false)) else (spec_TreeUpTo.l1 k a most out' next' front q (wrap64 ((i : Int) + 1)))) r → Ev (fun k => spec_TreeUpTo.l2 k a most out next front q (i : Int) B (B.length : Int) (j : Int)) r := by
  induction d with
  | zero =>
    intro j out next hj hs ho hn hl4
    have c1 : ¬ (j : Int) < (B.length : Int) := by omega
    refine ⟨out, next, hs, fun u => ?_, fun u => ?_, rfl, by omega, fun r hr => Ev.step (fun k => by simp only [spec_TreeUpTo.l2, c1, if_false]) hr⟩
    · rw [List.drop_of_length_le (by omega)]; simp
    · constructor
      · exact fun h => .inl h
      · rintro (h | ⟨h, h2⟩)
        · exact h
        · exact absurd h h2
  | succ d ih =>
    intro j out next hj hs ho hn hl4
    have hjl : j < B.length := by omega
    have c1 : (j : Int) < (B.length : Int) := by omega
    have c2 : (0 : Int) ≤ (j : Int) := by omega
    have g : rd_L1 B (j : Int) = B[j] := by
      unfold rd_L1
      rw [Int.toNat_natCast, List.getD_eq_getElem?_getD, List.getElem?_eq_getElem hjl]
      rfl
    have hu := hB2 _ (List.getElem_mem hjl)
    have c3 : (0 : Int) < (B[j].length : Int) := by omega
    have w1 : wrap64 ((j : Int) + 1) = ((j + 1 : Nat) : Int) := w64_succ hjl (by omega)
    have hdrop : B.drop j = B[j] :: B.drop (j + 1) := List.drop_eq_getElem_cons hjl
    by_cases hm : rd B[j] 0 > most
    · obtain ⟨out', next', p1, p2, p3, p4, p5, hk⟩ := ih (j + 1) out next (by omega) hs (by omega) (by omega) hl4
      refine ⟨out', next', p1, fun u => ?_, p3, p4, by omega, fun r hr => Ev.step (fun k => by simp only [spec_TreeUpTo.l2, c1, c2, c3, g, hm, w1, if_true]) (hk r hr)⟩
      rw [p2, hdrop, List.mem_cons]
      constructor
      · rintro (h | ⟨h, h2⟩)
        · exact .inl h
        · exact .inr ⟨.inr h, h2⟩
      · rintro (h | ⟨rfl | h, h2⟩)
        · exact .inl h
        · omega
        · exact .inr ⟨h, h2⟩
    · have hp := huPut_ev (L := out) (x := B[j]) (by omega) (fun y hy => Nat.le_trans (hl4 y hy) (by decide)) (by omega)
      obtain ⟨q1, q2⟩ := insS_length B[j] out hs
      by_cases hin : B[j] ∈ out
      · rw [q1 hin] at hp
        have c4 : ¬ (out.length : Int) > (out.length : Int) := by omega
        obtain ⟨out', next', p1, p2, p3, p4, p5, hk⟩ := ih (j + 1) out next (by omega) hs (by omega) (by omega) hl4
        refine ⟨out', next', p1, fun u => ?_, p3, p4, by omega, fun r hr => Ev.step (fun k => by simp only [spec_TreeUpTo.l2, c1, c2, c3, g, hm, w1, if_true, if_false]; rfl) (Ev.bind hp ?_)⟩
        · rw [p2, hdrop, List.mem_cons]
          constructor
          · rintro (h | ⟨h, h2⟩)
            · exact .inl h
            · exact .inr ⟨.inr h, h2⟩
          · rintro (h | ⟨rfl | h, h2⟩)
            · exact .inl h
            · exact .inl hin
            · exact .inr ⟨h, h2⟩
        · simp only [c4, if_false]
          exact hk r hr
      · have q3 := q2 hin
        have c4 : ((insS B[j] out).length : Int) > (out.length : Int) := by omega
        have c5 : next.length < 5864062014805 := by omega
        obtain ⟨out', next', p1, p2, p3, p4, p5, hk⟩ := ih (j + 1) (insS B[j] out) (next ++ [B[j]]) (by omega) (insS_sorted _ _ hs) (by omega) (by rw [List.length_append, List.length_singleton]; omega) (fun u hu2 => by
          rcases (insS_mem _ _ _).1 hu2 with rfl | h
          · exact hu.2
          · exact hl4 u h)
        rw [List.length_append, List.length_singleton] at p4
        refine ⟨out', next', p1, fun u => ?_, fun u => ?_, by omega, by omega, fun r hr => Ev.step (fun k => by simp only [spec_TreeUpTo.l2, c1, c2, c3, g, hm, w1, if_true, if_false]; rfl) (Ev.bind hp ?_)⟩
        · rw [p2, hdrop, List.mem_cons, insS_mem]
          constructor
          · rintro ((rfl | h) | ⟨h, h2⟩)
            · exact .inr ⟨.inl rfl, by omega⟩
            · exact .inl h
            · exact .inr ⟨.inr h, h2⟩
          · rintro (h | ⟨rfl | h, h2⟩)
            · exact .inl (.inr h)
            · exact .inl (.inl rfl)
            · exact .inr ⟨h, h2⟩
        · rw [p3, List.mem_append, List.mem_singleton]
          constructor
          · rintro ((h | rfl) | ⟨h, h2⟩)
            · exact .inl h
            · exact .inr ⟨(p2 _).2 (.inl ((insS_mem _ _ _).2 (.inl rfl))), hin⟩
            · exact .inr ⟨h, fun h3 => h2 ((insS_mem _ _ _).2 (.inr h3))⟩
          · rintro (h | ⟨h, h2⟩)
            · exact .inl (.inl h)
            · by_cases he : u = B[j]
              · exact .inl (.inr he)
              · refine .inr ⟨h, fun h3 => ?_⟩
                rcases (insS_mem _ _ _).1 h3 with h4 | h4
                · exact he h4
                · exact h2 h4
        · simp only [c4, c5, if_true]
          exact hk r hr
theorem num_step {F i nl nl' ol ol' m : Nat} (h1 : i < F) (h2 : F - i + nl + (504 - ol) ≤ m + 1) (h3 : ol' + nl = ol + nl') (h4 : ¬ (ol' : Int) > 500) (h5 : ol ≤ 500) (h6 : nl ≤ 999000) : i + 1 ≤ F ∧ nl' ≤ 1000000 ∧ ol' ≤ 500 ∧ F - (i + 1) + nl' + (504 - ol') ≤ m := by omega
theorem spec_step {a b most : Int} {l : List Int} (hg : huGv a b = true) (h : huIs l a b = true) (m : Nat)
    (IH : ∀ (front next out : List (List Int)) (i : Nat), i ≤ front.length → front.length ≤ 1000000 → next.length ≤ 1000000 → (out.Pairwise fun a b => cmpL a b < 0) → out.length ≤ 500 → (∀ u ∈ out, Reach a most l u) → l ∈ out → (∀ u ∈ front.drop i, u ∈ out) → (∀ u ∈ next, u ∈ out) → (∀ u ∈ out, u ∈ front.drop i ∨ u ∈ next ∨ Shut a most out u) → (front.length - i) + next.length + (504 - out.length) ≤ m →
      ∃ r, Answer a most l r ∧ Ev (fun k => spec_TreeUpTo.l1 k a most out next front (front.length : Int) (i : Int)) r) :
    ∀ (front next out : List (List Int)) (i : Nat), i < front.length → front.length ≤ 1000000 → next.length ≤ 999000 → (out.Pairwise fun a b => cmpL a b < 0) → out.length ≤ 500 → (∀ u ∈ out, Reach a most l u) → l ∈ out → (∀ u ∈ front.drop i, u ∈ out) → (∀ u ∈ next, u ∈ out) → (∀ u ∈ out, u ∈ front.drop i ∨ u ∈ next ∨ Shut a most out u) → (front.length - i) + next.length + (504 - out.length) ≤ m + 1 →
      ∃ r, Answer a most l r ∧ Ev (fun k => spec_TreeUpTo.l1 k a most out next front (front.length : Int) (i : Int)) r := by
  intro front next out i hil hfl hnl hs h5 hR hl hf hn hcl hm
  have hdrop : front.drop i = front[i] :: front.drop (i + 1) := List.drop_eq_getElem_cons hil
  have hxo : front[i] ∈ out := hf _ (by rw [hdrop]; exact List.mem_cons_self)
  have hxR := hR _ hxo
  have hx := reach_is h hxR
  have hlen4 : ∀ u, Reach a most l u → 1 ≤ u.length ∧ u.length ≤ 4 := fun u hu => by
    have := (huIs_iff.1 (reach_is h hu)).1
    omega
  have hbl := brs_length front[i] a
  have hx4 := (huIs_iff.1 hx).1
  obtain ⟨out', next', p1, p2, p3, p4, p5, hk⟩ := put_loop (a := a) (most := most) front (front.length : Int) i (brs front[i] a) (by omega) (fun u hu => by
    obtain ⟨j, hj, hin, _, rfl⟩ := (brs_mem _ a u).1 hu
    rw [jmp_length]
    omega) (brs front[i] a).length 0 out next (by omega) hs (by omega) (by omega) (fun u hu => (hlen4 u (hR u hu)).2)
  rw [List.drop_zero] at p2
  rw [show ((0 : Nat) : Int) = 0 from rfl] at hk
  have c1 : (i : Int) < (front.length : Int) := by omega
  have c2 : (0 : Int) ≤ (i : Int) := by omega
  have g : rd_L1 front (i : Int) = front[i] := by
    unfold rd_L1
    rw [Int.toNat_natCast, List.getD_eq_getElem?_getD, List.getElem?_eq_getElem hil]
    rfl
  have w1 : wrap64 ((i : Int) + 1) = ((i + 1 : Nat) : Int) := w64_succ hil (by omega)
  have hR' : ∀ u ∈ out', Reach a most l u := by
    intro u hu
    rcases (p2 u).1 hu with h1 | ⟨h1, h2⟩
    · exact hR u h1
    · exact .step hxR h1 h2
  have start : ∀ r, Ev (fun k => if (out'.length : Int) > 500 then (some (([] : List (List Int)), false)) else (spec_TreeUpTo.l1 k a most out' next' front (front.length : Int) (wrap64 ((i : Int) + 1)))) r → Ev (fun k => spec_TreeUpTo.l1 k a most out next front (front.length : Int) (i : Int)) r := by
    intro r hr
    refine Ev.step (fun k => by simp only [spec_TreeUpTo.l1, c1, c2, g, if_true]; rfl) (Ev.bind (branches_both hg hx).2 ?_)
    exact hk r hr
  by_cases h500 : (out'.length : Int) > 500
  · refine ⟨([], false), .inr ⟨rfl, out', sorted_nodup p1, Int.ofNat_lt.1 h500, hR'⟩, start _ ?_⟩
    simp only [h500, if_true]
    exact Ev.is rfl
  · obtain ⟨n1, n2, n3, n4⟩ := num_step hil hm p4 h500 h5 hnl
    obtain ⟨r, hr, he⟩ := IH front next' out' (i + 1) n1 hfl n2 p1 n3 hR' ((p2 l).2 (.inl hl)) (fun u hu => (p2 u).2 (.inl (hf u (by rw [hdrop]; exact List.mem_cons_of_mem _ hu)))) (fun u hu => by
      rcases (p3 u).1 hu with h1 | h1
      · exact (p2 u).2 (.inl (hn u h1))
      · exact h1.1) (fun u hu => by
      by_cases ho : u ∈ out
      · rcases hcl u ho with h1 | h1 | h1
        · rw [hdrop] at h1
          rcases List.mem_cons.1 h1 with rfl | h1
          · exact .inr (.inr (fun v hv hvm => (p2 v).2 (.inr ⟨hv, hvm⟩)))
          · exact .inl h1
        · exact .inr (.inl ((p3 u).2 (.inl h1)))
        · exact .inr (.inr (fun v hv hvm => (p2 v).2 (.inl (h1 v hv hvm))))
      · exact .inr (.inl ((p3 u).2 (.inr ⟨hu, ho⟩)))) n4
    refine ⟨r, hr, start r ?_⟩
    simp only [h500, if_false, w1]
    exact he
theorem spec_loop {a b most : Int} {l : List Int} (hg : huGv a b = true) (h : huIs l a b = true) (m : Nat) : m ≤ 2000 → ∀ (front next out : List (List Int)) (i : Nat), i ≤ front.length → front.length ≤ 1000000 → next.length ≤ 1000000 → (out.Pairwise fun a b => cmpL a b < 0) → out.length ≤ 500 → (∀ u ∈ out, Reach a most l u) → l ∈ out → (∀ u ∈ front.drop i, u ∈ out) → (∀ u ∈ next, u ∈ out) → (∀ u ∈ out, u ∈ front.drop i ∨ u ∈ next ∨ Shut a most out u) → (front.length - i) + next.length + (504 - out.length) ≤ m →
      ∃ r, Answer a most l r ∧ Ev (fun k => spec_TreeUpTo.l1 k a most out next front (front.length : Int) (i : Int)) r := by
  induction m with
  | zero =>
    intro _ front next out i h1 h2 h3 hs h5 hR hl hf hn hcl hm
    omega
  | succ m ih =>
    intro hm2 front next out i h1 h2 h3 hs h5 hR hl hf hn hcl hm
    have st := spec_step hg h m (ih (by omega))
    by_cases hi : i < front.length
    · exact st front next out i hi h2 (by omega) hs h5 hR hl hf hn hcl hm
    · have c1 : ¬ (i : Int) < (front.length : Int) := by omega
      have hcl2 : ∀ u ∈ out, u ∈ next ∨ Shut a most out u := fun u hu => by
        rcases hcl u hu with h6 | h6
        · rw [List.drop_of_length_le (by omega)] at h6; simp at h6
        · exact h6
      cases next with
      | nil =>
        refine ⟨(sortDedup out, true), .inl ⟨out, rfl, sorted_nodup hs, h5, hl, hR, fun x hx => ?_⟩, ?_⟩
        · rcases hcl2 x hx with h6 | h6
          · simp at h6
          · exact h6
        · have he : out = sortDedup out := sortDedup_is hs (fun z => Iff.rfl)
          rw [← he]
          refine Ev.step (f := fun k => spec_TreeUpTo.l0 k a most out []) (fun k => by simp only [spec_TreeUpTo.l1, c1, if_false]) ?_
          exact Ev.step (f := fun _ => some (out, true)) (fun k => by simp [spec_TreeUpTo.l0]) (Ev.is rfl)
      | cons x next =>
        obtain ⟨r, hr, he⟩ := st (x :: next) [] out 0 (by simp) (by omega) (by simp) hs h5 hR hl (by rw [List.drop_zero]; exact hn) (by simp) (fun u hu => by
          rw [List.drop_zero]
          rcases hcl2 u hu with h6 | h6
          · exact .inl h6
          · exact .inr (.inr h6)) (by simp only [List.length_cons, List.length_nil] at hm ⊢; omega)
        refine ⟨r, hr, ?_⟩
        refine Ev.step (f := fun k => spec_TreeUpTo.l0 k a most out (x :: next)) (fun k => by simp only [spec_TreeUpTo.l1, c1, if_false]) ?_
        refine Ev.step (fun k => ?_) he
        have c2 : ((x :: next).length : Int) > 0 := by simp only [List.length_cons]; omega
        simp only [spec_TreeUpTo.l0, c2, if_true]
        rfl
end Go.Proofs.Ytgpoljimomfbbaa.P

-- UhuTree2
namespace Go.Proofs.Ytgpoljimomfbbaa.P
open Go.RowKit Go.Proofs.YtgpoljimomfbbaaW.PrintWords Go.Proofs.YtgpoljimomfbbaaW.PrintLast
set_option linter.unusedVariables false
set_option linter.unusedSimpArgs false
theorem brs_good {a b : Int} {l : List Int} {o : List (List Int)} (h : huIs l a b = true) (h5 : o.length ≤ 500) : goodB o (brs l a) = true := by
  have h1 := (huIs_iff.1 h).1
  have h2 := brs_length l a
  unfold goodB
  rw [Bool.and_eq_true]
  refine ⟨decide_eq_true (by omega), List.all_eq_true.2 fun u hu => ?_⟩
  obtain ⟨j, hj, hin, _, rfl⟩ := (brs_mem _ a _).1 hu
  have h3 := (huIs_iff.1 (jmp_is hj h hin)).1
  rw [Bool.and_eq_true]
  exact ⟨decide_eq_true (by omega), decide_eq_true (by omega)⟩
theorem addAll_is (most : Int) (B : List (List Int)) : ∀ o : List (List Int), o.Nodup → (addAll most o B).Nodup ∧ (∀ u, u ∈ addAll most o B ↔ u ∈ o ∨ (u ∈ B ∧ rd u 0 ≤ most)) ∧ (∃ t, addAll most o B = o ++ t) ∧ (addAll most o B).length ≤ o.length + B.length := by
  induction B with
  | nil => intro o hn; exact ⟨hn, fun u => by simp [addAll], ⟨[], by simp [addAll]⟩, by simp [addAll]⟩
  | cons x B ih =>
    intro o hn
    rw [addAll]
    by_cases c : rd x 0 ≤ most ∧ x ∉ o
    · rw [if_pos c]
      have hn2 : (o ++ [x]).Nodup := by
        rw [List.nodup_append]
        refine ⟨hn, by simp, fun a ha b hb e => ?_⟩
        rw [List.mem_singleton] at hb
        subst hb
        subst e
        exact c.2 ha
      obtain ⟨i1, i2, ⟨t, i3⟩, i4⟩ := ih (o ++ [x]) hn2
      refine ⟨i1, fun u => ?_, ⟨[x] ++ t, by rw [i3, List.append_assoc]⟩, by simp only [List.length_append, List.length_cons, List.length_nil] at i4 ⊢; omega⟩
      rw [i2, List.mem_append, List.mem_singleton, List.mem_cons]
      constructor
      · rintro ((h | rfl) | ⟨h, h2⟩)
        · exact .inl h
        · exact .inr ⟨.inl rfl, c.1⟩
        · exact .inr ⟨.inr h, h2⟩
      · rintro (h | ⟨rfl | h, h2⟩)
        · exact .inl (.inl h)
        · exact .inl (.inr rfl)
        · exact .inr ⟨h, h2⟩
    · rw [if_neg c]
      obtain ⟨i1, i2, i3, i4⟩ := ih o hn
      refine ⟨i1, fun u => ?_, i3, by rw [List.length_cons]; omega⟩
      rw [i2, List.mem_cons]
      constructor
      · rintro (h | ⟨h, h2⟩)
        · exact .inl h
        · exact .inr ⟨.inr h, h2⟩
      · rintro (h | ⟨rfl | h, h2⟩)
        · exact .inl h
        · exact .inl (Classical.byContradiction fun h3 => c ⟨h2, h3⟩)
        · exact .inr ⟨h, h2⟩
theorem tree_loop {a b most : Int} {l : List Int} (hg : huGv a b = true) (h : huIs l a b = true) (m : Nat) : ∀ (o : List (List Int)) (i : Nat), i + m = 600 → i ≤ o.length → o.Nodup → o.length ≤ 500 → l ∈ o → (∀ u ∈ o, Reach a most l u) → (∀ j, (hj : j < o.length) → j < i → Shut a most o o[j]) →
    ∃ r, Answer a most l r ∧ Ev (fun k => treeL a most k o (i : Int)) r := by
  induction m with
  | zero => intro o i hi hio hn h5 hl hR hs; omega
  | succ m ih =>
    intro o i hi hio hn h5 hl hR hs
    by_cases hil : i < o.length
    · have c1 : (i : Int) < (o.length : Int) := by omega
      have g : rd_L1 o (i : Int) = o[i] := by
        unfold rd_L1
        rw [Int.toNat_natCast, List.getD_eq_getElem?_getD, List.getElem?_eq_getElem hil]
        rfl
      have hxR := hR _ (List.getElem_mem hil)
      have hx := reach_is h hxR
      obtain ⟨i1, i2, ⟨t, i3⟩, i4⟩ := addAll_is most (brs o[i] a) o hn
      have w1 : wrap64 ((i : Int) + 1) = ((i + 1 : Nat) : Int) := w64_succ hil (by omega)
      have hR' : ∀ u ∈ addAll most o (brs o[i] a), Reach a most l u := by
        intro u hu
        rcases (i2 u).1 hu with h1 | ⟨h1, h2⟩
        · exact hR u h1
        · exact .step hxR h1 h2
      have start : ∀ r, Ev (fun k => if ((addAll most o (brs o[i] a)).length : Int) > 500 then some (([] : List (List Int)), false) else treeL a most k (addAll most o (brs o[i] a)) (wrap64 ((i : Int) + 1))) r → Ev (fun k => treeL a most k o (i : Int)) r := fun r hr =>
        Ev.step (fun k => by simp only [treeL, c1, g, if_true]; rfl) (Ev.bind (branches_both hg hx).1 (by simp only [brs_good hx h5, if_true]; exact hr))
      by_cases c5 : ((addAll most o (brs o[i] a)).length : Int) > 500
      · refine ⟨([], false), .inr ⟨rfl, _, i1, by omega, hR'⟩, start _ ?_⟩
        simp only [c5, if_true]
        exact Ev.is rfl
      · have hlen : o.length ≤ (addAll most o (brs o[i] a)).length := by rw [i3, List.length_append]; omega
        obtain ⟨r, hr, he⟩ := ih (addAll most o (brs o[i] a)) (i + 1) (by omega) (by omega) i1 (by omega) ((i2 l).2 (.inl hl)) hR' (fun j hj hji u hu hm => by
          have hjo : j < o.length := by omega
          have e : (addAll most o (brs o[i] a))[j] = o[j] := by
            simp only [i3]
            exact List.getElem_append_left hjo
          rw [e] at hu
          by_cases hj2 : j < i
          · exact (i2 u).2 (.inl (hs j hjo hj2 u hu hm))
          · have : j = i := by omega
            subst this
            exact (i2 u).2 (.inr ⟨hu, hm⟩))
        refine ⟨r, hr, start r ?_⟩
        simp only [c5, if_false, w1]
        exact he
    · have c1 : ¬ (i : Int) < (o.length : Int) := by omega
      refine ⟨(sortDedup o, true), .inl ⟨o, rfl, hn, h5, hl, hR, fun x hx => ?_⟩, Ev.step (f := fun _ => some (sortDedup o, true)) (fun k => by simp only [treeL, c1, if_false]) (Ev.is rfl)⟩
      obtain ⟨j, hj, rfl⟩ := List.getElem_of_mem hx
      exact hs j hj (by omega)
end Go.Proofs.Ytgpoljimomfbbaa.P

-- UhuTree3
namespace Go.Proofs.Ytgpoljimomfbbaa.P
open Go.RowKit Go.Proofs.YtgpoljimomfbbaaW.PrintWords Go.Proofs.YtgpoljimomfbbaaW.PrintLast
set_option linter.unusedVariables false
set_option linter.unusedSimpArgs false
/-- What TreeUpTo may answer. -/
def TreeIs (l : List Int) (a b most : Int) (r : List (List Int) × Bool) : Prop :=
  r = ([], false) ∨ (huGv a b = true ∧ huIs l a b = true ∧ rd l 0 ≤ most ∧ Answer a most l r)
theorem spec_start {a b most : Int} {l : List Int} (hg : huGv a b = true) (h : huIs l a b = true) :
    ∃ r, Answer a most l r ∧ Ev (fun k => spec_TreeUpTo.l0 k a most [l] [l]) r := by
  obtain ⟨r, hr, he⟩ := spec_step (most := most) hg h 600 (spec_loop (most := most) hg h 600 (by omega)) [l] [] [l] 0 (by simp) (by simp) (by simp) (by simp) (by simp) (by intro u hu; rw [List.mem_singleton] at hu; rw [hu]; exact .base) (by simp) (by simp) (by simp) (by simp) (by simp)
  refine ⟨r, hr, Ev.step (fun k => ?_) he⟩
  simp [spec_TreeUpTo.l0]
theorem TreeUpTo_both (l : List Int) (a b most : Int) (hn : l.length ≤ 4611686018427387904) : ∃ r, Ev (fun k => spec_TreeUpTo.f k l a b most) r ∧ Ev (fun k => impl_TreeUpTo.f k l a b most) r ∧ TreeIs l a b most r := by
  unfold spec_TreeUpTo.f impl_TreeUpTo.f
  have no : Ev (fun k => spec_TreeUpTo.j0 k l a most true) (([] : List (List Int)), false) := Ev.step (f := fun _ => some (([] : List (List Int)), false)) (fun k => by simp only [spec_TreeUpTo.j0, if_true]) (Ev.is rfl)
  cases hg : huGv a b with
  | false =>
    refine ⟨([], false), Ev.bind0 (huGiven_is a b) ?_, Ev.bind (isSolution_ev l a b) ?_, .inl rfl⟩
    · rw [hg]
      simp only [Bool.false_eq_true, if_false]
      exact no
    · unfold huSol
      rw [hg]
      simp only [Bool.false_and, Bool.false_eq_true, if_false]
      exact Ev.is rfl
  | true =>
    cases h : huIs l a b with
    | false =>
      refine ⟨([], false), Ev.bind0 (huGiven_is a b) ?_, Ev.bind (isSolution_ev l a b) ?_, .inl rfl⟩
      · rw [hg]
        simp only [if_true]
        refine Ev.bind (huGood_ev l a b hg hn) ?_
        rw [h]
        simp only [Bool.false_eq_true, if_false]
        exact no
      · unfold huSol
        rw [hg, h]
        simp only [Bool.and_false, Bool.false_eq_true, if_false]
        exact Ev.is rfl
    | true =>
      obtain ⟨h1, h2, h3, h4⟩ := huIs_iff.1 h
      have c1 : 0 < (l.length : Int) := by omega
      have hrd : 1 ≤ rd l 0 := by
        have : rd l 0 ∈ l := by
          unfold rd
          rw [List.getD_eq_getElem?_getD, show (0 : Int).toNat = 0 from rfl, List.getElem?_eq_getElem (by omega)]
          exact List.getElem_mem _
        exact (h2 _ this).1
      have es : ∀ r, Ev (fun k => spec_TreeUpTo.j0 k l a most (!inB (rd l 0) 100000 most)) r → Ev (fun k => (spec_huGiven.f a b).bind fun t289 => (if t289 = true then ((spec_huGood.f k l a b).bind fun t290 => (if t290 = true then (if 0 < (l.length : Int) then ((spec_l1In.f most (rd l 0) 100000).bind fun t292 => (spec_TreeUpTo.j0 k l a most (!t292))) else (none)) else (spec_TreeUpTo.j0 k l a most true))) else (spec_TreeUpTo.j0 k l a most true))) r := by
        intro r hr
        refine Ev.bind0 (huGiven_is a b) ?_
        rw [hg]
        simp only [if_true]
        refine Ev.bind (huGood_ev l a b hg hn) ?_
        rw [h]
        simp only [c1, if_true]
        refine Ev.bind0 (l1In_inB _ _ _) ?_
        exact hr
      have ei : ∀ r, Ev (fun k => (if inB 1 100000 most = true then (if rd l 0 ≤ most then ((slices_Clone_int_int.f l).bind fun l1 => treeL a most k [l1] 0) else some ([], false)) else some ([], false))) r → Ev (fun k => (impl_isSolution.f k l a b).bind fun t => (if t = true then ((impl_within.f most 1 100000).bind fun t2 => (if t2 = true then (if 0 < (l.length : Int) then (if rd l 0 ≤ most then ((slices_Clone_int_int.f l).bind fun l1 => treeL a most k [l1] 0) else some ([], false)) else none) else some ([], false))) else some ([], false))) r := by
        intro r hr
        refine Ev.bind (isSolution_ev l a b) ?_
        unfold huSol
        rw [hg, h]
        simp only [Bool.and_self, if_true]
        refine Ev.bind0 (within_inB _ _ _) ?_
        simp only [c1, if_true]
        exact hr
      cases hm : inB (rd l 0) 100000 most with
      | false =>
        refine ⟨([], false), es _ (by rw [hm]; exact no), ei _ ?_, .inl rfl⟩
        by_cases c2 : inB 1 100000 most = true
        · have c3 : ¬ rd l 0 ≤ most := by
            intro hle
            rw [inB_iff] at c2
            have : inB (rd l 0) 100000 most = true := inB_iff.2 ⟨hle, c2.2⟩
            rw [this] at hm
            exact absurd hm (by simp)
          simp only [c2, c3, if_true, if_false]
          exact Ev.is rfl
        · simp only [c2, if_false]
          exact Ev.is rfl
      | true =>
        have hm2 := inB_iff.1 hm
        have c2 : inB 1 100000 most = true := inB_iff.2 ⟨by omega, hm2.2⟩
        have c3 : rd l 0 ≤ most := hm2.1
        obtain ⟨r, hr, he⟩ := spec_start (most := most) hg h
        obtain ⟨s, hs, hf⟩ := tree_loop (most := most) hg h 600 [l] 0 (by omega) (by simp) (by simp) (by simp) (by simp) (by intro u hu; rw [List.mem_singleton] at hu; rw [hu]; exact .base) (fun j hj h0 => by omega)
        have e := answer_one hr hs
        subst e
        refine ⟨r, es _ ?_, ei _ ?_, .inr ⟨hg, h, c3, hr⟩⟩
        · rw [hm]
          refine Ev.step (f := fun k => spec_TreeUpTo.l0 k a most [l] [l]) (fun k => ?_) he
          simp only [spec_TreeUpTo.j0, Bool.not_true, Bool.false_eq_true, if_false]
          rw [l1Own_is l (by omega)]
          rfl
        · simp only [c2, c3, if_true]
          have e1 : slices_Clone_int_int.f l = some l := by
            unfold slices_Clone_int_int.f
            rw [if_pos (by omega)]
          refine Ev.bind0 e1 ?_
          exact hf
end Go.Proofs.Ytgpoljimomfbbaa.P
