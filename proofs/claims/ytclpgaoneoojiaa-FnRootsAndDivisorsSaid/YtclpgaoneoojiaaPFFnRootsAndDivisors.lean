-- written by mp.py (a program of this session over the kit's printer) out of the translation; Lean checks it
import Derived.Test.YtclpgaoneoojiaaP0
import Derived.Test.YtclpgaoneoojiaaPFbig
import Derived.Test.YtclpgaoneoojiaaPFspecDrawRootOf
import Derived.Test.YtclpgaoneoojiaaPFimplRootOf
import Derived.Test.YtclpgaoneoojiaaPFspecRootOf
import Derived.Test.YtclpgaoneoojiaaPFspecDrawDivisorOf
import Derived.Test.YtclpgaoneoojiaaPFimplDivisorOf
import Derived.Test.YtclpgaoneoojiaaPFspecDivisorOf
namespace Go.Proofs.Ytclpgaoneoojiaa.P
open Go.RowKit Go.Proofs.YtclpgaoneoojiaaW.PrintWords Go.Proofs.YtclpgaoneoojiaaW.PrintLast
set_option linter.unusedVariables false
set_option linter.unusedSimpArgs false

/-! ### laws_FnRootsAndDivisors: function 4 -/
mutual
def laws_FnRootsAndDivisors.j0 : Nat → List Int → Int → Int → Bool → Bool → Option (Bool)
 | 0, _, _, _, _, _ => none
 | k + 1, x1, x5, x6, x7, x43 => if x43 = true then (some false) else (if x7 = true then (if x6 < 0 then (laws_FnRootsAndDivisors.j1 k x1 true) else (if (wrap64 (x6 * x6)) > x5 then (laws_FnRootsAndDivisors.j1 k x1 true) else (laws_FnRootsAndDivisors.j1 k x1 (decide ((wrap64 ((wrap64 (x6 + 1)) * (wrap64 (x6 + 1)))) ≤ x5))))) else (laws_FnRootsAndDivisors.j1 k x1 false))
def laws_FnRootsAndDivisors.j1 : Nat → List Int → Bool → Option (Bool)
 | 0, _, _ => none
 | k + 1, x1, x64 => if x64 = true then (some false) else ((spec_DrawDivisorOf.f k x1).bind fun t222 => ((impl_DivisorOf.f k t222).bind fun bt225 => ((spec_DivisorOf.f k t222).bind fun bt227 => (if (bt225.2 != bt227.2) = true then (laws_FnRootsAndDivisors.j2 k t222 bt225.1 bt225.2 true) else (laws_FnRootsAndDivisors.j2 k t222 bt225.1 bt225.2 (bt225.1 != bt227.1))))))
def laws_FnRootsAndDivisors.j2 : Nat → List Int → Int → Bool → Bool → Option (Bool)
 | 0, _, _, _, _ => none
 | k + 1, x10, x11, x12, x84 => if x84 = true then (some false) else (if x12 = true then (laws_FnRootsAndDivisors.l0 k x10 x11 x10 (x10.length : Int) 0) else (some true))
def laws_FnRootsAndDivisors.l0 : Nat → List Int → Int → List Int → Int → Int → Option (Bool)
 | 0, _, _, _, _, _ => none
 | k + 1, x10, x11, x87, x88, x89 => if x89 < x88 then (if 0 ≤ x89 then (if x89 < (x87.length : Int) then (if x11 = 0 then (if (rd x87 x89) = 0 then (if x11 > 0 then (none) else (laws_FnRootsAndDivisors.l0 k x10 x11 x87 x88 (wrap64 (x89 + 1)))) else (some false)) else (if x11 > 0 then (if (Int.tmod (rd x87 x89) x11) = 0 then (laws_FnRootsAndDivisors.l0 k x10 x11 x87 x88 (wrap64 (x89 + 1))) else (some false)) else (laws_FnRootsAndDivisors.l0 k x10 x11 x87 x88 (wrap64 (x89 + 1))))) else (none)) else (none)) else (if (x10.length : Int) > 0 then (if 1 ≤ (x10.length : Int) then ((impl_DivisorOf.f k (x10.drop 1)).bind fun bt234 => (if 0 < (x10.length : Int) then ((impl_DivisorOf.f k (([rd x10 0, bt234.1] : List Int))).bind fun bt240 => (if bt234.2 = true then (if bt240.2 = true then (some (bt240.1 == x11)) else (some false)) else (some false))) else (none))) else (none)) else (some (x11 == 0)))
end
def laws_FnRootsAndDivisors.f (k : Nat) (l0 : List Int) (l1 : List Int) : Option (Bool) := (laws_big.f l0 l1).bind fun t216 => (if t216 = true then (some true) else ((spec_DrawRootOf.f l0).bind fun t217 => ((impl_RootOf.f k t217).bind fun bt218 => ((spec_RootOf.f k t217).bind fun bt220 => (if (bt218.2 != bt220.2) = true then (laws_FnRootsAndDivisors.j0 k l1 t217 bt218.1 bt218.2 true) else (laws_FnRootsAndDivisors.j0 k l1 t217 bt218.1 bt218.2 (bt218.1 != bt220.1)))))))
theorem laws_FnRootsAndDivisors.mono_l : ∀ k, (∀ y0 y1 y2 y3 y4, LeO (laws_FnRootsAndDivisors.j0 k y0 y1 y2 y3 y4) (laws_FnRootsAndDivisors.j0 (k + 1) y0 y1 y2 y3 y4)) ∧ (∀ y0 y1, LeO (laws_FnRootsAndDivisors.j1 k y0 y1) (laws_FnRootsAndDivisors.j1 (k + 1) y0 y1)) ∧ (∀ y0 y1 y2 y3, LeO (laws_FnRootsAndDivisors.j2 k y0 y1 y2 y3) (laws_FnRootsAndDivisors.j2 (k + 1) y0 y1 y2 y3)) ∧ (∀ y0 y1 y2 y3 y4, LeO (laws_FnRootsAndDivisors.l0 k y0 y1 y2 y3 y4) (laws_FnRootsAndDivisors.l0 (k + 1) y0 y1 y2 y3 y4))
 | 0 => ⟨fun _ _ _ _ _ r h => by simp [laws_FnRootsAndDivisors.j0] at h, fun _ _ r h => by simp [laws_FnRootsAndDivisors.j1] at h, fun _ _ _ _ r h => by simp [laws_FnRootsAndDivisors.j2] at h, fun _ _ _ _ _ r h => by simp [laws_FnRootsAndDivisors.l0] at h⟩
 | k + 1 => by
  obtain ⟨ih0, ih1, ih2, ih3⟩ := laws_FnRootsAndDivisors.mono_l k
  refine ⟨?_, ?_, ?_, ?_⟩
  ·intro y0 y1 y2 y3 y4
   unfold laws_FnRootsAndDivisors.j0
   repeat' first
   | (with_reducible exact ih0 _ _ _ _ _)
   | (with_reducible exact ih1 _ _)
   | (with_reducible exact ih2 _ _ _ _)
   | (with_reducible exact ih3 _ _ _ _ _)
   | (with_reducible exact impl_DivisorOf.mono _ _)
   | (with_reducible exact impl_RootOf.mono _ _)
   | (with_reducible exact spec_DivisorOf.mono _ _)
   | (with_reducible exact spec_DrawDivisorOf.mono _ _)
   | (with_reducible exact spec_RootOf.mono _ _)
   | (with_reducible exact LeO.refl _)
   | (with_reducible exact LeO.none _)
   | (with_reducible refine LeO.ite ?_ ?_)
   | (with_reducible refine LeO.bind ?_ (fun _ => ?_))
   | exact ih0 _ _ _ _ _
   | exact ih1 _ _
   | exact ih2 _ _ _ _
   | exact ih3 _ _ _ _ _
   | exact impl_DivisorOf.mono _ _
   | exact impl_RootOf.mono _ _
   | exact spec_DivisorOf.mono _ _
   | exact spec_DrawDivisorOf.mono _ _
   | exact spec_RootOf.mono _ _
   | exact LeO.none _
   | refine LeO.ite ?_ ?_
   | refine LeO.bind ?_ (fun _ => ?_)
  ·intro y0 y1
   unfold laws_FnRootsAndDivisors.j1
   repeat' first
   | (with_reducible exact ih0 _ _ _ _ _)
   | (with_reducible exact ih1 _ _)
   | (with_reducible exact ih2 _ _ _ _)
   | (with_reducible exact ih3 _ _ _ _ _)
   | (with_reducible exact impl_DivisorOf.mono _ _)
   | (with_reducible exact impl_RootOf.mono _ _)
   | (with_reducible exact spec_DivisorOf.mono _ _)
   | (with_reducible exact spec_DrawDivisorOf.mono _ _)
   | (with_reducible exact spec_RootOf.mono _ _)
   | (with_reducible exact LeO.refl _)
   | (with_reducible exact LeO.none _)
   | (with_reducible refine LeO.ite ?_ ?_)
   | (with_reducible refine LeO.bind ?_ (fun _ => ?_))
   | exact ih0 _ _ _ _ _
   | exact ih1 _ _
   | exact ih2 _ _ _ _
   | exact ih3 _ _ _ _ _
   | exact impl_DivisorOf.mono _ _
   | exact impl_RootOf.mono _ _
   | exact spec_DivisorOf.mono _ _
   | exact spec_DrawDivisorOf.mono _ _
   | exact spec_RootOf.mono _ _
   | exact LeO.none _
   | refine LeO.ite ?_ ?_
   | refine LeO.bind ?_ (fun _ => ?_)
  ·intro y0 y1 y2 y3
   unfold laws_FnRootsAndDivisors.j2
   repeat' first
   | (with_reducible exact ih0 _ _ _ _ _)
   | (with_reducible exact ih1 _ _)
   | (with_reducible exact ih2 _ _ _ _)
   | (with_reducible exact ih3 _ _ _ _ _)
   | (with_reducible exact impl_DivisorOf.mono _ _)
   | (with_reducible exact impl_RootOf.mono _ _)
   | (with_reducible exact spec_DivisorOf.mono _ _)
   | (with_reducible exact spec_DrawDivisorOf.mono _ _)
   | (with_reducible exact spec_RootOf.mono _ _)
   | (with_reducible exact LeO.refl _)
   | (with_reducible exact LeO.none _)
   | (with_reducible refine LeO.ite ?_ ?_)
   | (with_reducible refine LeO.bind ?_ (fun _ => ?_))
   | exact ih0 _ _ _ _ _
   | exact ih1 _ _
   | exact ih2 _ _ _ _
   | exact ih3 _ _ _ _ _
   | exact impl_DivisorOf.mono _ _
   | exact impl_RootOf.mono _ _
   | exact spec_DivisorOf.mono _ _
   | exact spec_DrawDivisorOf.mono _ _
   | exact spec_RootOf.mono _ _
   | exact LeO.none _
   | refine LeO.ite ?_ ?_
   | refine LeO.bind ?_ (fun _ => ?_)
  ·intro y0 y1 y2 y3 y4
   unfold laws_FnRootsAndDivisors.l0
   repeat' first
   | (with_reducible exact ih0 _ _ _ _ _)
   | (with_reducible exact ih1 _ _)
   | (with_reducible exact ih2 _ _ _ _)
   | (with_reducible exact ih3 _ _ _ _ _)
   | (with_reducible exact impl_DivisorOf.mono _ _)
   | (with_reducible exact impl_RootOf.mono _ _)
   | (with_reducible exact spec_DivisorOf.mono _ _)
   | (with_reducible exact spec_DrawDivisorOf.mono _ _)
   | (with_reducible exact spec_RootOf.mono _ _)
   | (with_reducible exact LeO.refl _)
   | (with_reducible exact LeO.none _)
   | (with_reducible refine LeO.ite ?_ ?_)
   | (with_reducible refine LeO.bind ?_ (fun _ => ?_))
   | exact ih0 _ _ _ _ _
   | exact ih1 _ _
   | exact ih2 _ _ _ _
   | exact ih3 _ _ _ _ _
   | exact impl_DivisorOf.mono _ _
   | exact impl_RootOf.mono _ _
   | exact spec_DivisorOf.mono _ _
   | exact spec_DrawDivisorOf.mono _ _
   | exact spec_RootOf.mono _ _
   | exact LeO.none _
   | refine LeO.ite ?_ ?_
   | refine LeO.bind ?_ (fun _ => ?_)
theorem laws_FnRootsAndDivisors.mono : ∀ a0 a1 k, LeO (laws_FnRootsAndDivisors.f k a0 a1) (laws_FnRootsAndDivisors.f (k + 1) a0 a1) := by
 intro a0 a1 k
 obtain ⟨ih0, ih1, ih2, ih3⟩ := laws_FnRootsAndDivisors.mono_l k
 unfold laws_FnRootsAndDivisors.f
 repeat' first
   | (with_reducible exact ih0 _ _ _ _ _)
   | (with_reducible exact ih1 _ _)
   | (with_reducible exact ih2 _ _ _ _)
   | (with_reducible exact ih3 _ _ _ _ _)
   | (with_reducible exact impl_DivisorOf.mono _ _)
   | (with_reducible exact impl_RootOf.mono _ _)
   | (with_reducible exact spec_DivisorOf.mono _ _)
   | (with_reducible exact spec_DrawDivisorOf.mono _ _)
   | (with_reducible exact spec_RootOf.mono _ _)
   | (with_reducible exact LeO.refl _)
   | (with_reducible exact LeO.none _)
   | (with_reducible refine LeO.ite ?_ ?_)
   | (with_reducible refine LeO.bind ?_ (fun _ => ?_))
   | exact ih0 _ _ _ _ _
   | exact ih1 _ _
   | exact ih2 _ _ _ _
   | exact ih3 _ _ _ _ _
   | exact impl_DivisorOf.mono _ _
   | exact impl_RootOf.mono _ _
   | exact spec_DivisorOf.mono _ _
   | exact spec_DrawDivisorOf.mono _ _
   | exact spec_RootOf.mono _ _
   | exact LeO.none _
   | refine LeO.ite ?_ ?_
   | refine LeO.bind ?_ (fun _ => ?_)
set_option maxHeartbeats 8000000 in
set_option maxRecDepth 100000 in
theorem laws_FnRootsAndDivisors.calls (k : Nat) (A0 : Option Addr) (c0 : Nat) (l0 : List Int) (A1 : Option Addr) (c1 : Nat) (l1 : List Int) (r : Bool) (w : World) (hr0 : Kd.C (Kd.int .u8) w A0 l0.length l0) (hc0 : l0.length ≤ c0) (hr1 : Kd.C (Kd.int .u8) w A1 l1.length l1) (hc1 : l1.length ≤ c1) (h : laws_FnRootsAndDivisors.f k l0 l1 = some r) :
  Calls Try.prog 4 #[.slice A0 l0.length c0, .slice A1 l1.length c1] w fun e w' => e = .returned (.bool r) ∧ Below w.heap.size w w' := by
 have HR0 := Aside0.mk hr0
 have HC0 := Aside0.mk hc0
 clear hr0 hc0
 have HR1 := Aside0.mk hr1
 have HC1 := Aside0.mk hc1
 clear hr1 hc1
 have HB := Aside0.mk (Below.refl w.heap.size w)
 have H : ((laws_big.f l0 l1).bind fun t216 => (if t216 = true then (some true) else ((spec_DrawRootOf.f l0).bind fun t217 => ((impl_RootOf.f k t217).bind fun bt218 => ((spec_RootOf.f k t217).bind fun bt220 => (if (bt218.2 != bt220.2) = true then (laws_FnRootsAndDivisors.j0 k l1 t217 bt218.1 bt218.2 true) else (laws_FnRootsAndDivisors.j0 k l1 t217 bt218.1 bt218.2 (bt218.1 != bt220.1)))))))) = some r := h
 clear h
 replace H := Option.bind_eq_some_iff.mp H
 obtain ⟨t216, A30, H⟩ := H
 replace H : (if t216 = true then (some true) else ((spec_DrawRootOf.f l0).bind fun t217 => ((impl_RootOf.f k t217).bind fun bt218 => ((spec_RootOf.f k t217).bind fun bt220 => (if (bt218.2 != bt220.2) = true then (laws_FnRootsAndDivisors.j0 k l1 t217 bt218.1 bt218.2 true) else (laws_FnRootsAndDivisors.j0 k l1 t217 bt218.1 bt218.2 (bt218.1 != bt220.1))))))) = some r := H
 have A3 := Aside0.mk A30
 clear A30
 by_cases c4 : t216 = true
 ·subst c4
  have H1 : (some true) = some r := by rw [if_pos rfl] at H; exact H
  clear H
  have H := H1
  clear H1
  obtain rfl := Option.some.inj H
  go_enter Try.func4, Try.ntmps4
  go_wp2_with (first | ((with_reducible refine gate_callee (f := 12) rfl ?_); refine goesL_ (some 23) rfl rfl Try.func12 (by kernel_rfl) rfl #[.slice A0 l0.length c0, .slice A1 l1.length c1] rfl (by (try simp only [List.map_toArray, List.map_cons, List.map_nil]); first | done | rfl | (simp only [List.length_drop, List.length_take]; rfl)) ?_; (with_reducible refine (laws_big.calls _ _ l0 _ _ l1 true _ ?side1 ?side2 ?side3 ?side4 A3.out).mono ?_); (case side1 => repeat (first | exact HR0.out | (with_reducible refine Kd.C_alloc ?_ _) | (with_reducible refine Kd.C_drewN ?_ _) | (with_reducible refine Kd.C_drew ?_))); (case side2 => exact HC0.out); (case side3 => repeat (first | exact HR1.out | (with_reducible refine Kd.C_alloc ?_ _) | (with_reducible refine Kd.C_drewN ?_ _) | (with_reducible refine Kd.C_drew ?_))); (case side4 => exact HC1.out); rintro e w' ⟨rfl, ⟨nd, rfl⟩⟩; refine ⟨_, rfl, ?_⟩))
  go_ret
  exact ⟨by first | rfl | (simp [errW_none, errW_some] <;> rfl) | (simp [*, errW_none, errW_some] <;> rfl), by repeat (first | (with_reducible first | exact HB.out | apply below_alloc | apply pw_below_drewN | apply below_drew1) | exact HB.out)⟩
 ·replace c4 := Bool.eq_false_iff.mpr c4
  subst c4
  have H1 : ((spec_DrawRootOf.f l0).bind fun t217 => ((impl_RootOf.f k t217).bind fun bt218 => ((spec_RootOf.f k t217).bind fun bt220 => (if (bt218.2 != bt220.2) = true then (laws_FnRootsAndDivisors.j0 k l1 t217 bt218.1 bt218.2 true) else (laws_FnRootsAndDivisors.j0 k l1 t217 bt218.1 bt218.2 (bt218.1 != bt220.1)))))) = some r := by rw [if_neg (show ¬ (false = true) by decide)] at H; exact H
  clear H
  have H := H1
  clear H1
  replace H := Option.bind_eq_some_iff.mp H
  obtain ⟨t217, A50, H⟩ := H
  replace H : ((impl_RootOf.f k t217).bind fun bt218 => ((spec_RootOf.f k t217).bind fun bt220 => (if (bt218.2 != bt220.2) = true then (laws_FnRootsAndDivisors.j0 k l1 t217 bt218.1 bt218.2 true) else (laws_FnRootsAndDivisors.j0 k l1 t217 bt218.1 bt218.2 (bt218.1 != bt220.1))))) = some r := H
  have A5 := Aside0.mk A50
  clear A50
  replace H := Option.bind_eq_some_iff.mp H
  obtain ⟨⟨t218, t219⟩, A60, H⟩ := H
  replace H : ((spec_RootOf.f k t217).bind fun bt220 => (if (t219 != bt220.2) = true then (laws_FnRootsAndDivisors.j0 k l1 t217 t218 t219 true) else (laws_FnRootsAndDivisors.j0 k l1 t217 t218 t219 (t218 != bt220.1)))) = some r := H
  have A6 := Aside0.mk A60
  clear A60
  replace H := Option.bind_eq_some_iff.mp H
  obtain ⟨⟨t220, t221⟩, A70, H⟩ := H
  replace H : (if (t219 != t221) = true then (laws_FnRootsAndDivisors.j0 k l1 t217 t218 t219 true) else (laws_FnRootsAndDivisors.j0 k l1 t217 t218 t219 (t218 != t220))) = some r := H
  have A7 := Aside0.mk A70
  clear A70
  have HC8 := Aside0.mk H
  clear H
  go_enter Try.func4, Try.ntmps4
  go_upto_region 6 with (first | ((with_reducible refine gate_callee (f := 12) rfl ?_); refine goesL_ (some 23) rfl rfl Try.func12 (by kernel_rfl) rfl #[.slice A0 l0.length c0, .slice A1 l1.length c1] rfl (by (try simp only [List.map_toArray, List.map_cons, List.map_nil]); first | done | rfl | (simp only [List.length_drop, List.length_take]; rfl)) ?_; (with_reducible refine (laws_big.calls _ _ l0 _ _ l1 false _ ?side1 ?side2 ?side3 ?side4 A3.out).mono ?_); (case side1 => repeat (first | exact HR0.out | (with_reducible refine Kd.C_alloc ?_ _) | (with_reducible refine Kd.C_drewN ?_ _) | (with_reducible refine Kd.C_drew ?_))); (case side2 => exact HC0.out); (case side3 => repeat (first | exact HR1.out | (with_reducible refine Kd.C_alloc ?_ _) | (with_reducible refine Kd.C_drewN ?_ _) | (with_reducible refine Kd.C_drew ?_))); (case side4 => exact HC1.out); rintro e w' ⟨rfl, ⟨nd, rfl⟩⟩; refine ⟨_, rfl, ?_⟩) | ((with_reducible refine gate_callee (f := 13) rfl ?_); refine goesL_ (some 25) rfl rfl Try.func13 (by kernel_rfl) rfl #[.slice A0 l0.length c0] rfl (by (try simp only [List.map_toArray, List.map_cons, List.map_nil]); first | done | rfl | (simp only [List.length_drop, List.length_take]; rfl)) ?_; (with_reducible refine (spec_DrawRootOf.calls _ _ l0 t217 _ ?side1 ?side2 A5.out).mono ?_); (case side1 => repeat (first | exact HR0.out | (with_reducible refine Kd.C_alloc ?_ _) | (with_reducible refine Kd.C_drewN ?_ _) | (with_reducible refine Kd.C_drew ?_))); (case side2 => exact HC0.out); rintro e w9 ⟨rfl, hb⟩; refine ⟨_, rfl, ?_⟩; have n0_ := Aside0.mk (below_step (by repeat (first | (with_reducible first | exact HB.out | apply below_alloc | apply pw_below_drewN | apply below_drew1) | exact HB.out)) hb); clear HB; have HB := n0_; clear n0_; (try clear hb); (try clear hb2); (try clear hk); (try clear hi)) | ((with_reducible refine gate_callee (f := 14) rfl ?_); refine goesL_ (some 28) rfl rfl Try.func14 (by kernel_rfl) rfl #[.int .i64 t217] rfl (by (try simp only [List.map_toArray, List.map_cons, List.map_nil]); first | done | rfl | (simp only [List.length_drop, List.length_take]; rfl)) ?_; (with_reducible refine (impl_RootOf.calls k t217 t218 t219 _ A6.out).mono ?_); rintro e w' ⟨rfl, ⟨nd, rfl⟩⟩; refine ⟨_, rfl, ?_⟩) | ((with_reducible refine gate_callee (f := 15) rfl ?_); refine goesL_ (some 33) rfl rfl Try.func15 (by kernel_rfl) rfl #[.int .i64 t217] rfl (by (try simp only [List.map_toArray, List.map_cons, List.map_nil]); first | done | rfl | (simp only [List.length_drop, List.length_take]; rfl)) ?_; (with_reducible refine (spec_RootOf.calls k t217 t220 t221 _ A7.out).mono ?_); rintro e w' ⟨rfl, ⟨nd, rfl⟩⟩; refine ⟨_, rfl, ?_⟩))
  (try simp only [Act.put, List.setIfInBounds_toArray, List.set_cons_zero, List.set_cons_succ])
  go_cut [43] (fun v43 wc => ∃ (kq : Nat) (x43_7 : Bool), v43 = .bool x43_7 ∧ Aside0 (laws_FnRootsAndDivisors.j0 kq l1 t217 t218 t219 x43_7 = some r) ∧ Aside0 (kq ≤ k) ∧ Aside0 (Below w.heap.size w wc))
  case first =>
   have H := HC8.out
   clear HC8
   by_cases c10 : (t219 != t221) = true
   ·rw [if_pos c10] at H
    have c10b0 : (t219 != t221) = true := c10
    (try (have c10b1 : decide (t219 = t221) = false := by simpa using c10))
    (try (have c10b2 : (t219 == t221) = false := by simpa using c10))
    (try (have c10b3 : ¬ (t219 = t221) := by simpa using c10))
    clear c10
    (first | rw [c10b0] | (simp only [i64_w, i32_w]; rw [c10b0]) | skip)
    have H' := Aside0.mk H
    clear H
    go_wp2
    go_meet
    case rel => exact ⟨_, (true), (by first | rfl | (simp; done) | (simp [*]; done)), H', ⟨by first | omega | exact Nat.le_refl _⟩, ⟨by repeat (first | (with_reducible first | exact HB.out | apply below_alloc | apply pw_below_drewN | apply below_drew1) | exact HB.out)⟩⟩
   ·rw [if_neg c10] at H
    have c10b0 : (t219 != t221) = false := by simpa using c10
    (try (have c10b1 : decide (t219 = t221) = true := by simpa using c10))
    (try (have c10b2 : (t219 == t221) = true := by simpa using c10))
    clear c10
    (first | rw [c10b0] | (simp only [i64_w, i32_w]; rw [c10b0]) | skip)
    have H' := Aside0.mk H
    clear H
    go_wp2
    go_meet
    case rel => exact ⟨_, ((t218 != t220)), (by first | rfl | (simp; done) | (simp [*]; done)), H', ⟨by first | omega | exact Nat.le_refl _⟩, ⟨by repeat (first | (with_reducible first | exact HB.out | apply below_alloc | apply pw_below_drewN | apply below_drew1) | exact HB.out)⟩⟩
  case rest =>
   clear HC8
   try clear c1
   try clear p2
   try clear c4
   try clear c10
   try clear c10b0
   try clear c10b1
   try clear c10b2
   obtain ⟨kq, x43_7, rfl, HA, HJ7, HB⟩ := hcut
   cases kq with
   | zero => exact absurd HA.out (by simp [laws_FnRootsAndDivisors.j0])
   | succ kj7 =>
    have H := HA.out
    clear HA
    simp only [laws_FnRootsAndDivisors.j0] at H
    by_cases c11 : x43_7 = true
    ·subst c11
     have H1 : (some false) = some r := by rw [if_pos rfl] at H; exact H
     clear H
     have H := H1
     clear H1
     obtain rfl := Option.some.inj H
     go_wp2
     go_ret
     exact ⟨by first | rfl | (simp [errW_none, errW_some] <;> rfl) | (simp [*, errW_none, errW_some] <;> rfl), by repeat (first | (with_reducible first | exact HB.out | apply below_alloc | apply pw_below_drewN | apply below_drew1) | exact HB.out)⟩
    ·replace c11 := Bool.eq_false_iff.mpr c11
     subst c11
     have H1 : (if t219 = true then (if t218 < 0 then (laws_FnRootsAndDivisors.j1 kj7 l1 true) else (if (wrap64 (t218 * t218)) > t217 then (laws_FnRootsAndDivisors.j1 kj7 l1 true) else (laws_FnRootsAndDivisors.j1 kj7 l1 (decide ((wrap64 ((wrap64 (t218 + 1)) * (wrap64 (t218 + 1)))) ≤ t217))))) else (laws_FnRootsAndDivisors.j1 kj7 l1 false)) = some r := by rw [if_neg (show ¬ (false = true) by decide)] at H; exact H
     clear H
     have H := H1
     clear H1
     have HC12 := Aside0.mk H
     clear H
     go_upto_region 8 with (fail)
     go_cut [64] (fun v64 wc => ∃ (kq : Nat) (x64_11 : Bool), v64 = .bool x64_11 ∧ Aside0 (laws_FnRootsAndDivisors.j1 kq l1 x64_11 = some r) ∧ Aside0 (kq ≤ kj7) ∧ Aside0 (Below w.heap.size w wc))
     case first =>
      have H := HC12.out
      clear HC12
      by_cases c13 : t219 = true
      ·subst c13
       have H1 : (if t218 < 0 then (laws_FnRootsAndDivisors.j1 kj7 l1 true) else (if (wrap64 (t218 * t218)) > t217 then (laws_FnRootsAndDivisors.j1 kj7 l1 true) else (laws_FnRootsAndDivisors.j1 kj7 l1 (decide ((wrap64 ((wrap64 (t218 + 1)) * (wrap64 (t218 + 1)))) ≤ t217))))) = some r := by rw [if_pos rfl] at H; exact H
       clear H
       have H := H1
       clear H1
       by_cases c14 : t218 < 0
       ·rw [if_pos c14] at H
        have c14b0 : decide (t218 < 0) = true := decide_eq_true c14
        clear c14
        (first | rw [c14b0] | (simp only [i64_w, i32_w]; rw [c14b0]) | skip)
        have H' := Aside0.mk H
        clear H
        go_wp2
        go_meet
        case rel => exact ⟨_, (true), (by first | rfl | (simp; done) | (simp [*]; done)), H', ⟨by have := HJ7.out; first | omega | exact Nat.le_refl _⟩, ⟨by repeat (first | (with_reducible first | exact HB.out | apply below_alloc | apply pw_below_drewN | apply below_drew1) | exact HB.out)⟩⟩
       ·rw [if_neg c14] at H
        have c14b0 : decide (t218 < 0) = false := decide_eq_false c14
        clear c14
        (first | rw [c14b0] | (simp only [i64_w, i32_w]; rw [c14b0]) | skip)
        by_cases c15 : (wrap64 (t218 * t218)) > t217
        ·rw [if_pos c15] at H
         have c15b0 : decide (t217 < (wrap64 (t218 * t218))) = true := decide_eq_true c15
         clear c15
         have H' := Aside0.mk H
         clear H
         go_wp2
         go_meet
         case rel => exact ⟨_, (true), (by first | rfl | (simp; done) | (simp [*]; done)), H', ⟨by have := HJ7.out; first | omega | exact Nat.le_refl _⟩, ⟨by repeat (first | (with_reducible first | exact HB.out | apply below_alloc | apply pw_below_drewN | apply below_drew1) | exact HB.out)⟩⟩
        ·rw [if_neg c15] at H
         have c15b0 : decide (t217 < (wrap64 (t218 * t218))) = false := decide_eq_false c15
         clear c15
         have H' := Aside0.mk H
         clear H
         go_wp2
         go_meet
         case rel => exact ⟨_, (decide ((wrap64 ((wrap64 (t218 + 1)) * (wrap64 (t218 + 1)))) ≤ t217)), (by first | rfl | (simp; done) | (simp [*]; done)), H', ⟨by have := HJ7.out; first | omega | exact Nat.le_refl _⟩, ⟨by repeat (first | (with_reducible first | exact HB.out | apply below_alloc | apply pw_below_drewN | apply below_drew1) | exact HB.out)⟩⟩
      ·replace c13 := Bool.eq_false_iff.mpr c13
       subst c13
       have H1 : (laws_FnRootsAndDivisors.j1 kj7 l1 false) = some r := by rw [if_neg (show ¬ (false = true) by decide)] at H; exact H
       clear H
       have H := H1
       clear H1
       have H' := Aside0.mk H
       clear H
       go_wp2
       go_meet
       case rel => exact ⟨_, (false), (by first | rfl | (simp; done) | (simp [*]; done)), H', ⟨by have := HJ7.out; first | omega | exact Nat.le_refl _⟩, ⟨by repeat (first | (with_reducible first | exact HB.out | apply below_alloc | apply pw_below_drewN | apply below_drew1) | exact HB.out)⟩⟩
     case rest =>
      clear HC12
      try clear c1
      try clear p2
      try clear c4
      try clear p6
      try clear c10
      try clear c10b0
      try clear c10b1
      try clear c10b2
      try clear c11
      try clear c12
      try clear c13
      try clear c14
      try clear c14b0
      try clear c15
      try clear c15b0
      try clear p2
      obtain ⟨kq, x64_11, rfl, HA, HJ11, HB⟩ := hcut
      cases kq with
      | zero => exact absurd HA.out (by simp [laws_FnRootsAndDivisors.j1])
      | succ kj11 =>
       have H := HA.out
       clear HA
       simp only [laws_FnRootsAndDivisors.j1] at H
       by_cases c16 : x64_11 = true
       ·subst c16
        have H1 : (some false) = some r := by rw [if_pos rfl] at H; exact H
        clear H
        have H := H1
        clear H1
        obtain rfl := Option.some.inj H
        go_wp2
        go_ret
        exact ⟨by first | rfl | (simp [errW_none, errW_some] <;> rfl) | (simp [*, errW_none, errW_some] <;> rfl), by repeat (first | (with_reducible first | exact HB.out | apply below_alloc | apply pw_below_drewN | apply below_drew1) | exact HB.out)⟩
       ·replace c16 := Bool.eq_false_iff.mpr c16
        subst c16
        have H1 : ((spec_DrawDivisorOf.f kj11 l1).bind fun t222 => ((impl_DivisorOf.f kj11 t222).bind fun bt225 => ((spec_DivisorOf.f kj11 t222).bind fun bt227 => (if (bt225.2 != bt227.2) = true then (laws_FnRootsAndDivisors.j2 kj11 t222 bt225.1 bt225.2 true) else (laws_FnRootsAndDivisors.j2 kj11 t222 bt225.1 bt225.2 (bt225.1 != bt227.1)))))) = some r := by rw [if_neg (show ¬ (false = true) by decide)] at H; exact H
        clear H
        have H := H1
        clear H1
        replace H := Option.bind_eq_some_iff.mp H
        obtain ⟨t222, A170, H⟩ := H
        replace H : ((impl_DivisorOf.f kj11 t222).bind fun bt225 => ((spec_DivisorOf.f kj11 t222).bind fun bt227 => (if (bt225.2 != bt227.2) = true then (laws_FnRootsAndDivisors.j2 kj11 t222 bt225.1 bt225.2 true) else (laws_FnRootsAndDivisors.j2 kj11 t222 bt225.1 bt225.2 (bt225.1 != bt227.1))))) = some r := H
        have A17 := Aside0.mk A170
        clear A170
        replace H := Option.bind_eq_some_iff.mp H
        obtain ⟨⟨t225, t226⟩, A180, H⟩ := H
        replace H : ((spec_DivisorOf.f kj11 t222).bind fun bt227 => (if (t226 != bt227.2) = true then (laws_FnRootsAndDivisors.j2 kj11 t222 t225 t226 true) else (laws_FnRootsAndDivisors.j2 kj11 t222 t225 t226 (t225 != bt227.1)))) = some r := H
        have A18 := Aside0.mk A180
        clear A180
        replace H := Option.bind_eq_some_iff.mp H
        obtain ⟨⟨t227, t228⟩, A190, H⟩ := H
        replace H : (if (t226 != t228) = true then (laws_FnRootsAndDivisors.j2 kj11 t222 t225 t226 true) else (laws_FnRootsAndDivisors.j2 kj11 t222 t225 t226 (t225 != t227))) = some r := H
        have A19 := Aside0.mk A190
        clear A190
        have HC20 := Aside0.mk H
        clear H
        go_upto_region 13 with (first | ((with_reducible refine gate_callee (f := 16) rfl ?_); refine goesL_ (some 66) rfl rfl Try.func16 (by kernel_rfl) rfl #[.slice A1 l1.length c1] rfl (by (try simp only [List.map_toArray, List.map_cons, List.map_nil]); first | done | rfl | (simp only [List.length_drop, List.length_take]; rfl)) ?_; (with_reducible refine (spec_DrawDivisorOf.calls kj11 _ _ l1 t222 _ ?side1 ?side2 A17.out).mono ?_); (case side1 => repeat (first | exact (Kd.C_below HR1.out HB.out) | (with_reducible refine Kd.C_alloc ?_ _) | (with_reducible refine Kd.C_drewN ?_ _) | (with_reducible refine Kd.C_drew ?_))); (case side2 => exact HC1.out); rintro e w21 ⟨v223, rfl, ho0, hb⟩; refine ⟨_, rfl, ?_⟩; have n0_ := Aside0.mk (Kd.R_lower ho0 (below_size (by repeat (first | (with_reducible first | exact HB.out | apply below_alloc | apply pw_below_drewN | apply below_drew1) | exact HB.out)))); have n1_ := Aside0.mk (below_step (by repeat (first | (with_reducible first | exact HB.out | apply below_alloc | apply pw_below_drewN | apply below_drew1) | exact HB.out)) hb); clear HB; have HO224 := n0_; have HB := n1_; clear n0_ n1_; (try clear hb); (try clear hb2); (try clear hk); (try clear hi); (try clear ho0); obtain ⟨Ao22, co22, eo22⟩ := Kd.R_slice HO224.out; subst eo22) | ((with_reducible refine gate_callee (f := 17) rfl ?_); refine goesL_ (some 69) rfl rfl Try.func17 (by kernel_rfl) rfl #[.slice Ao22 t222.length co22] rfl (by (try simp only [List.map_toArray, List.map_cons, List.map_nil]); first | done | rfl | (simp only [List.length_drop, List.length_take]; rfl)) ?_; (with_reducible refine (impl_DivisorOf.calls kj11 _ _ t222 t225 t226 _ ?side1 ?side2 A18.out).mono ?_); (case side1 => repeat (first | exact (Kd.R_reads' HO224.out).2.2 | (with_reducible refine Kd.C_alloc ?_ _) | (with_reducible refine Kd.C_drewN ?_ _) | (with_reducible refine Kd.C_drew ?_))); (case side2 => exact (Kd.R_reads' HO224.out).2.1); rintro e w23 ⟨rfl, hb⟩; refine ⟨_, rfl, ?_⟩; have n0_ := Aside0.mk (Kd.R_below (by (with_reducible repeat (first | apply Kd.R_alloc | apply Kd.R_drewN | apply Kd.R_drew)); exact HO224.out) hb); have n1_ := Aside0.mk (below_step (by repeat (first | (with_reducible first | exact HB.out | apply below_alloc | apply pw_below_drewN | apply below_drew1) | exact HB.out)) hb); clear HO224; clear HB; have HO224 := n0_; have HB := n1_; clear n0_ n1_; (try clear hb); (try clear hb2); (try clear hk); (try clear hi)) | ((with_reducible refine gate_callee (f := 18) rfl ?_); refine goesL_ (some 74) rfl rfl Try.func18 (by kernel_rfl) rfl #[.slice Ao22 t222.length co22] rfl (by (try simp only [List.map_toArray, List.map_cons, List.map_nil]); first | done | rfl | (simp only [List.length_drop, List.length_take]; rfl)) ?_; (with_reducible refine (spec_DivisorOf.calls kj11 _ _ t222 t227 t228 _ ?side1 ?side2 A19.out).mono ?_); (case side1 => repeat (first | exact (Kd.R_reads' HO224.out).2.2 | (with_reducible refine Kd.C_alloc ?_ _) | (with_reducible refine Kd.C_drewN ?_ _) | (with_reducible refine Kd.C_drew ?_))); (case side2 => exact (Kd.R_reads' HO224.out).2.1); rintro e w' ⟨rfl, ⟨nd, rfl⟩⟩; refine ⟨_, rfl, ?_⟩))
        (try simp only [Act.put, List.setIfInBounds_toArray, List.set_cons_zero, List.set_cons_succ])
        go_cut [84] (fun v84 wc => ∃ (kq : Nat) (x84_19 : Bool), v84 = .bool x84_19 ∧ Aside0 (laws_FnRootsAndDivisors.j2 kq t222 t225 t226 x84_19 = some r) ∧ Aside0 (kq ≤ kj11) ∧ Aside0 (Kd.R (Kd.int .i64) 3 wc w.heap.size (fun _ => True) (.slice Ao22 t222.length co22) t222) ∧ Aside0 (Below w.heap.size w wc))
        case first =>
         have H := HC20.out
         clear HC20
         by_cases c24 : (t226 != t228) = true
         ·rw [if_pos c24] at H
          have c24b0 : (t226 != t228) = true := c24
          (try (have c24b1 : decide (t226 = t228) = false := by simpa using c24))
          (try (have c24b2 : (t226 == t228) = false := by simpa using c24))
          (try (have c24b3 : ¬ (t226 = t228) := by simpa using c24))
          clear c24
          (first | rw [c24b0] | (simp only [i64_w, i32_w]; rw [c24b0]) | skip)
          have H' := Aside0.mk H
          clear H
          go_wp2
          go_meet
          case rel => exact ⟨_, (true), (by first | rfl | (simp; done) | (simp [*]; done)), H', ⟨by have := HJ7.out; have := HJ11.out; first | omega | exact Nat.le_refl _⟩, ⟨by (with_reducible repeat (first | apply Kd.R_alloc | apply Kd.R_drewN | apply Kd.R_drew)); exact HO224.out⟩, ⟨by repeat (first | (with_reducible first | exact HB.out | apply below_alloc | apply pw_below_drewN | apply below_drew1) | exact HB.out)⟩⟩
         ·rw [if_neg c24] at H
          have c24b0 : (t226 != t228) = false := by simpa using c24
          (try (have c24b1 : decide (t226 = t228) = true := by simpa using c24))
          (try (have c24b2 : (t226 == t228) = true := by simpa using c24))
          clear c24
          (first | rw [c24b0] | (simp only [i64_w, i32_w]; rw [c24b0]) | skip)
          have H' := Aside0.mk H
          clear H
          go_wp2
          go_meet
          case rel => exact ⟨_, ((t225 != t227)), (by first | rfl | (simp; done) | (simp [*]; done)), H', ⟨by have := HJ7.out; have := HJ11.out; first | omega | exact Nat.le_refl _⟩, ⟨by (with_reducible repeat (first | apply Kd.R_alloc | apply Kd.R_drewN | apply Kd.R_drew)); exact HO224.out⟩, ⟨by repeat (first | (with_reducible first | exact HB.out | apply below_alloc | apply pw_below_drewN | apply below_drew1) | exact HB.out)⟩⟩
        case rest =>
         clear HC20
         try clear c1
         try clear c2
         try clear p2
         try clear c4
         try clear p6
         try clear c10
         try clear c10b0
         try clear c10b1
         try clear c10b2
         try clear c11
         try clear c12
         try clear c13
         try clear c14
         try clear c14b0
         try clear c15
         try clear c15b0
         try clear c16
         try clear c17
         try clear c18
         try clear c24
         try clear c24b0
         try clear c24b1
         try clear c24b2
         try clear p2
         try clear p6
         obtain ⟨kq, x84_19, rfl, HA, HJ19, HO_10, HB⟩ := hcut
         cases kq with
         | zero => exact absurd HA.out (by simp [laws_FnRootsAndDivisors.j2])
         | succ kj19 =>
          have H := HA.out
          clear HA
          simp only [laws_FnRootsAndDivisors.j2] at H
          by_cases c25 : x84_19 = true
          ·subst c25
           have H1 : (some false) = some r := by rw [if_pos rfl] at H; exact H
           clear H
           have H := H1
           clear H1
           obtain rfl := Option.some.inj H
           go_wp2
           go_ret
           exact ⟨by first | rfl | (simp [errW_none, errW_some] <;> rfl) | (simp [*, errW_none, errW_some] <;> rfl), by repeat (first | (with_reducible first | exact HB.out | apply below_alloc | apply pw_below_drewN | apply below_drew1) | exact HB.out)⟩
          ·replace c25 := Bool.eq_false_iff.mpr c25
           subst c25
           have H1 : (if t226 = true then (laws_FnRootsAndDivisors.l0 kj19 t222 t225 t222 (t222.length : Int) 0) else (some true)) = some r := by rw [if_neg (show ¬ (false = true) by decide)] at H; exact H
           clear H
           have H := H1
           clear H1
           by_cases c26 : t226 = true
           ·subst c26
            have H1 : (laws_FnRootsAndDivisors.l0 kj19 t222 t225 t222 (t222.length : Int) 0) = some r := by rw [if_pos rfl] at H; exact H
            clear H
            have H := H1
            clear H1
            have H' := Aside0.mk H
            clear H
            go_wp2
            go_loopg [89] kj19 (fun kq v89 w' => ∃ (x89_4 : Int), v89 = .int .i64 x89_4 ∧ Aside0 (laws_FnRootsAndDivisors.l0 kq t222 t225 t222 (t222.length : Int) x89_4 = some r) ∧ Aside0 (kq ≤ kj19) ∧ Aside0 (Kd.R (Kd.int .i64) 3 w' w.heap.size (fun _ => True) (.slice Ao22 t222.length co22) t222) ∧ Aside0 (Kd.R (Kd.int .i64) 3 w' w.heap.size (fun _ => True) (.slice Ao22 t222.length co22) t222) ∧ Aside0 (Below w.heap.size w w'))
            case atStart => exact ⟨(0), (by first | rfl | (simp; done) | (simp [*]; done)), H', ⟨Nat.le_refl _⟩, ⟨by (with_reducible repeat (first | apply Kd.R_alloc | apply Kd.R_drewN | apply Kd.R_drew)); exact HO_10.out⟩, ⟨by (with_reducible repeat (first | apply Kd.R_alloc | apply Kd.R_drewN | apply Kd.R_drew)); exact HO_10.out⟩, ⟨by repeat (first | (with_reducible first | exact HB.out | apply below_alloc | apply pw_below_drewN | apply below_drew1) | exact HB.out)⟩⟩
            case round =>
             clear H'
             try clear c1
             try clear c2
             try clear p2
             try clear c4
             try clear p6
             try clear c10
             try clear c10b0
             try clear c10b1
             try clear c10b2
             try clear c11
             try clear c12
             try clear c13
             try clear c14
             try clear c14b0
             try clear c15
             try clear c15b0
             try clear c16
             try clear c17
             try clear c18
             try clear c24
             try clear c24b0
             try clear c24b1
             try clear c24b2
             try clear c25
             try clear c26
             try clear p2
             try clear p6
             obtain ⟨x89_4, rfl, HA, HK4, HO_10, HO_87, HB⟩ := hrel
             cases gk with
             | zero => exact absurd HA.out (by simp [laws_FnRootsAndDivisors.l0])
             | succ k4 =>
              have H := HA.out
              clear HA
              simp only [laws_FnRootsAndDivisors.l0] at H
              by_cases c27 : x89_4 < (t222.length : Int)
              ·rw [if_pos c27] at H
               have c27b0 : decide (x89_4 < (t222.length : Int)) = true := decide_eq_true c27
               clear c27
               by_cases c28 : 0 ≤ x89_4
               ·rw [if_pos c28] at H
                have c28b0 : decide (0 ≤ x89_4) = true := decide_eq_true c28
                clear c28
                by_cases c29 : x89_4 < (t222.length : Int)
                ·rw [if_pos c29] at H
                 have c29b0 : decide (x89_4 < (t222.length : Int)) = true := decide_eq_true c29
                 clear c29
                 by_cases c30 : t225 = 0
                 ·rw [if_pos c30] at H
                  have c30b0 : (t225 == 0) = true := beq_iff_eq.mpr c30
                  have c30b1 : (t225 != 0) = false := bne_eq_false_iff_eq.mpr c30
                  clear c30
                  by_cases c31 : (rd t222 x89_4) = 0
                  ·rw [if_pos c31] at H
                   have c31b0 : ((rd t222 x89_4) == 0) = true := beq_iff_eq.mpr c31
                   have c31b1 : ((rd t222 x89_4) != 0) = false := bne_eq_false_iff_eq.mpr c31
                   clear c31
                   by_cases c32 : t225 > 0
                   ·rw [if_pos c32] at H
                    exact absurd H (by simp)
                   ·rw [if_neg c32] at H
                    have c32b0 : decide (0 < t225) = false := decide_eq_false c32
                    clear c32
                    have H' := Aside0.mk H
                    clear H
                    have p229 : 0 ≤ (x89_4 : Int) := of_decide_eq_true (by first | (with_reducible assumption) | assumption)
                    have q229 : x89_4 < (t222.length : Int) := of_decide_eq_true (by first | (with_reducible assumption) | assumption)
                    obtain ⟨ad229, e229, hx229_0⟩ := Kd.at_int (Kd.R_reads' HO_87.out).2.2 x89_4 p229 q229
                    cases e229
                    replace p229 := eq_true p229
                    replace q229 := eq_true q229
                    go_wp2
                    go_roundg k4
                    case measure => have := HJ7.out; have := HJ11.out; have := HJ19.out; have := HK4.out; omega
                    case rel => exact ⟨(wrap64 (x89_4 + 1)), (by first | rfl | (simp; done) | (simp [*]; done)), H', ⟨by have := HJ7.out; have := HJ11.out; have := HJ19.out; have := HK4.out; omega⟩, ⟨by (with_reducible repeat (first | apply Kd.R_alloc | apply Kd.R_drewN | apply Kd.R_drew)); exact HO_10.out⟩, ⟨by (with_reducible repeat (first | apply Kd.R_alloc | apply Kd.R_drewN | apply Kd.R_drew)); exact HO_87.out⟩, ⟨by repeat (first | (with_reducible first | exact HB.out | apply below_alloc | apply pw_below_drewN | apply below_drew1) | exact HB.out)⟩⟩
                  ·rw [if_neg c31] at H
                   have c31b0 : ((rd t222 x89_4) == 0) = false := beq_eq_false_iff_ne.mpr c31
                   have c31b1 : ((rd t222 x89_4) != 0) = true := bne_iff_ne.mpr c31
                   obtain rfl := Option.some.inj H
                   have p229 : 0 ≤ (x89_4 : Int) := of_decide_eq_true (by first | (with_reducible assumption) | assumption)
                   have q229 : x89_4 < (t222.length : Int) := of_decide_eq_true (by first | (with_reducible assumption) | assumption)
                   obtain ⟨ad229, e229, hx229_0⟩ := Kd.at_int (Kd.R_reads' HO_87.out).2.2 x89_4 p229 q229
                   cases e229
                   replace p229 := eq_true p229
                   replace q229 := eq_true q229
                   go_wp2
                   go_ret
                   exact ⟨by first | rfl | (simp [errW_none, errW_some] <;> rfl) | (simp [*, errW_none, errW_some] <;> rfl), by repeat (first | (with_reducible first | exact HB.out | apply below_alloc | apply pw_below_drewN | apply below_drew1) | exact HB.out)⟩
                 ·rw [if_neg c30] at H
                  have c30b0 : (t225 == 0) = false := beq_eq_false_iff_ne.mpr c30
                  have c30b1 : (t225 != 0) = true := bne_iff_ne.mpr c30
                  by_cases c33 : t225 > 0
                  ·rw [if_pos c33] at H
                   have c33b0 : decide (0 < t225) = true := decide_eq_true c33
                   clear c33
                   by_cases c34 : (Int.tmod (rd t222 x89_4) t225) = 0
                   ·rw [if_pos c34] at H
                    have c34b0 : ((Int.tmod (rd t222 x89_4) t225) == 0) = true := beq_iff_eq.mpr c34
                    have c34b1 : ((Int.tmod (rd t222 x89_4) t225) != 0) = false := bne_eq_false_iff_eq.mpr c34
                    clear c34
                    have H' := Aside0.mk H
                    clear H
                    have p229 : 0 ≤ (x89_4 : Int) := of_decide_eq_true (by first | (with_reducible assumption) | assumption)
                    have q229 : x89_4 < (t222.length : Int) := of_decide_eq_true (by first | (with_reducible assumption) | assumption)
                    obtain ⟨ad229, e229, hx229_0⟩ := Kd.at_int (Kd.R_reads' HO_87.out).2.2 x89_4 p229 q229
                    cases e229
                    replace p229 := eq_true p229
                    replace q229 := eq_true q229
                    go_wp2
                    go_roundg k4
                    case measure => have := HJ7.out; have := HJ11.out; have := HJ19.out; have := HK4.out; omega
                    case rel => exact ⟨(wrap64 (x89_4 + 1)), (by first | rfl | (simp; done) | (simp [*]; done)), H', ⟨by have := HJ7.out; have := HJ11.out; have := HJ19.out; have := HK4.out; omega⟩, ⟨by (with_reducible repeat (first | apply Kd.R_alloc | apply Kd.R_drewN | apply Kd.R_drew)); exact HO_10.out⟩, ⟨by (with_reducible repeat (first | apply Kd.R_alloc | apply Kd.R_drewN | apply Kd.R_drew)); exact HO_87.out⟩, ⟨by repeat (first | (with_reducible first | exact HB.out | apply below_alloc | apply pw_below_drewN | apply below_drew1) | exact HB.out)⟩⟩
                   ·rw [if_neg c34] at H
                    have c34b0 : ((Int.tmod (rd t222 x89_4) t225) == 0) = false := beq_eq_false_iff_ne.mpr c34
                    have c34b1 : ((Int.tmod (rd t222 x89_4) t225) != 0) = true := bne_iff_ne.mpr c34
                    obtain rfl := Option.some.inj H
                    have p229 : 0 ≤ (x89_4 : Int) := of_decide_eq_true (by first | (with_reducible assumption) | assumption)
                    have q229 : x89_4 < (t222.length : Int) := of_decide_eq_true (by first | (with_reducible assumption) | assumption)
                    obtain ⟨ad229, e229, hx229_0⟩ := Kd.at_int (Kd.R_reads' HO_87.out).2.2 x89_4 p229 q229
                    cases e229
                    replace p229 := eq_true p229
                    replace q229 := eq_true q229
                    go_wp2
                    go_ret
                    exact ⟨by first | rfl | (simp [errW_none, errW_some] <;> rfl) | (simp [*, errW_none, errW_some] <;> rfl), by repeat (first | (with_reducible first | exact HB.out | apply below_alloc | apply pw_below_drewN | apply below_drew1) | exact HB.out)⟩
                  ·rw [if_neg c33] at H
                   have c33b0 : decide (0 < t225) = false := decide_eq_false c33
                   clear c33
                   have H' := Aside0.mk H
                   clear H
                   have p229 : 0 ≤ (x89_4 : Int) := of_decide_eq_true (by first | (with_reducible assumption) | assumption)
                   have q229 : x89_4 < (t222.length : Int) := of_decide_eq_true (by first | (with_reducible assumption) | assumption)
                   obtain ⟨ad229, e229, hx229_0⟩ := Kd.at_int (Kd.R_reads' HO_87.out).2.2 x89_4 p229 q229
                   cases e229
                   replace p229 := eq_true p229
                   replace q229 := eq_true q229
                   go_wp2
                   go_roundg k4
                   case measure => have := HJ7.out; have := HJ11.out; have := HJ19.out; have := HK4.out; omega
                   case rel => exact ⟨(wrap64 (x89_4 + 1)), (by first | rfl | (simp; done) | (simp [*]; done)), H', ⟨by have := HJ7.out; have := HJ11.out; have := HJ19.out; have := HK4.out; omega⟩, ⟨by (with_reducible repeat (first | apply Kd.R_alloc | apply Kd.R_drewN | apply Kd.R_drew)); exact HO_10.out⟩, ⟨by (with_reducible repeat (first | apply Kd.R_alloc | apply Kd.R_drewN | apply Kd.R_drew)); exact HO_87.out⟩, ⟨by repeat (first | (with_reducible first | exact HB.out | apply below_alloc | apply pw_below_drewN | apply below_drew1) | exact HB.out)⟩⟩
                ·rw [if_neg c29] at H
                 exact absurd H (by simp)
               ·rw [if_neg c28] at H
                exact absurd H (by simp)
              ·rw [if_neg c27] at H
               have c27b0 : decide (x89_4 < (t222.length : Int)) = false := decide_eq_false c27
               clear c27
               by_cases c35 : (t222.length : Int) > 0
               ·rw [if_pos c35] at H
                have c35b0 : decide (0 < (t222.length : Int)) = true := decide_eq_true c35
                have c35b1 : decide (0 < t222.length) = true := decide_eq_true (by omega)
                clear c35
                by_cases c36 : 1 ≤ (t222.length : Int)
                ·rw [if_pos c36] at H
                 have c36b0 := eq_true c36
                 have c36b1 : decide (1 ≤ (t222.length : Int)) = true := decide_eq_true c36
                 clear c36
                 obtain ⟨y230, hy230⟩ : ∃ y_ : List Int, y_ = (t222.drop 1) := ⟨_, rfl⟩
                 replace H : ((impl_DivisorOf.f k4 y230).bind fun bt234 => (if 0 < (t222.length : Int) then ((impl_DivisorOf.f k4 (([rd t222 0, bt234.1] : List Int))).bind fun bt240 => (if bt234.2 = true then (if bt240.2 = true then (some (bt240.1 == t225)) else (some false)) else (some false))) else (none))) = some r := by first | (rw [hy230]; with_reducible exact H) | (have H2_ := (Option.bind_some _ _).symm.trans H; rw [hy230]; with_reducible exact H2_) | (have H2_ := (Option.bind_some _ _).symm.trans H; with_reducible exact H2_) | with_reducible exact H | (rw [hy230]; exact H) | exact H
                 have Ny230 := Aside0.mk hy230
                 clear hy230
                 replace H := Option.bind_eq_some_iff.mp H
                 obtain ⟨⟨t234, t235⟩, A370, H⟩ := H
                 replace H : (if 0 < (t222.length : Int) then ((impl_DivisorOf.f k4 (([rd t222 0, t234] : List Int))).bind fun bt240 => (if t235 = true then (if bt240.2 = true then (some (bt240.1 == t225)) else (some false)) else (some false))) else (none)) = some r := H
                 have A37 := Aside0.mk A370
                 clear A370
                 by_cases c38 : 0 < (t222.length : Int)
                 ·rw [if_pos c38] at H
                  have c38b0 : decide (0 < (t222.length : Int)) = true := decide_eq_true c38
                  have c38b1 : decide (0 < t222.length) = true := decide_eq_true (by omega)
                  clear c38
                  obtain ⟨y237, hy237⟩ : ∃ y_ : List Int, y_ = (([rd t222 0, t234] : List Int)) := ⟨_, rfl⟩
                  replace H : ((impl_DivisorOf.f k4 y237).bind fun bt240 => (if t235 = true then (if bt240.2 = true then (some (bt240.1 == t225)) else (some false)) else (some false))) = some r := by first | (rw [hy237]; with_reducible exact H) | (have H2_ := (Option.bind_some _ _).symm.trans H; rw [hy237]; with_reducible exact H2_) | (have H2_ := (Option.bind_some _ _).symm.trans H; with_reducible exact H2_) | with_reducible exact H | (rw [hy237]; exact H) | exact H
                  have Ny237 := Aside0.mk hy237
                  clear hy237
                  replace H := Option.bind_eq_some_iff.mp H
                  obtain ⟨⟨t240, t241⟩, A390, H⟩ := H
                  replace H : (if t235 = true then (if t241 = true then (some (t240 == t225)) else (some false)) else (some false)) = some r := H
                  have A39 := Aside0.mk A390
                  clear A390
                  by_cases c40 : t235 = true
                  ·subst c40
                   have H1 : (if t241 = true then (some (t240 == t225)) else (some false)) = some r := by rw [if_pos rfl] at H; exact H
                   clear H
                   have H := H1
                   clear H1
                   by_cases c41 : t241 = true
                   ·subst c41
                    have H1 : (some (t240 == t225)) = some r := by rw [if_pos rfl] at H; exact H
                    clear H
                    have H := H1
                    clear H1
                    obtain rfl := Option.some.inj H
                    have q42 : (1 : Int) ≤ ((t222.length : Int) : Int) := of_decide_eq_true (by first | (with_reducible assumption) | assumption)
                    obtain ⟨i042, hi042, _, hsz42, _⟩ := info_parts info3
                    have hroom42 : t222.length ≤ co22 := (Kd.R_reads' HO_10.out).2.1
                    have hC42 : Kd.C (Kd.int .i64) _ Ao22 t222.length t222 := (Kd.R_reads' HO_10.out).2.2
                    have hcut42 := cut_from (P := Try.prog) 35 3 .i64 Try.underlying35 hi042 1 hsz42 Ao22 t222.length co22 1 (by omega) q42
                    have hr42 := Kd.C_drop (m := (1 : Int).toNat) (c := co22) hC42 (by omega) hroom42
                    obtain ⟨A42, hA42⟩ : ∃ A1, A1 = (if co22 = (1 : Int).toNat then Ao22 else (Ao22 : Option Addr).map (·.add ((1 : Int).toNat * 1))) := ⟨_, rfl⟩
                    obtain ⟨c42, hc42⟩ : ∃ c1, c1 = co22 - (1 : Int).toNat := ⟨_, rfl⟩
                    have hy42 : y230.length = t222.length - (1 : Int).toNat := (by rw [Ny230.out, List.length_drop] <;> omega)
                    rw [show (t222).drop (1 : Int).toNat = y230 from Ny230.out.symm] at hr42
                    replace hr42 : Kd.C (Kd.int .i64) _ A42 y230.length y230 := (by rw [hA42]; exact hr42)
                    rw [← hy42, ← hA42, ← hc42] at hcut42
                    have HR233 := Aside0.mk hr42
                    have HC233 := Aside0.mk (show y230.length ≤ c42 from by rw [hy42, hc42]; exact Nat.sub_le_sub_right hroom42 _)
                    clear hr42 hC42 hroom42 hi042 hsz42 hc42
                    have KY42 := Aside0.mk hy42
                    have KA42 := Aside0.mk hA42
                    clear hy42 hA42
                    have KL42 := Aside0.mk (show 1 ≤ t222.length from by omega)
                    replace q42 := eq_true q42
                    go_wp2_with (first | ((with_reducible refine gate_callee (f := 17) rfl ?_); refine goesL_ (some 116) rfl rfl Try.func17 (by kernel_rfl) rfl #[.slice A42 y230.length c42] rfl (by (try simp only [List.map_toArray, List.map_cons, List.map_nil]); first | done | rfl | (simp only [List.length_drop, List.length_take]; rfl)) ?_; (with_reducible refine (impl_DivisorOf.calls k4 _ _ y230 t234 true _ ?side1 ?side2 A37.out).mono ?_); (case side1 => repeat (first | exact (by repeat (first | (with_reducible exact HR233.out) | (with_reducible refine Kd.C_alloc ?_ _) | (with_reducible refine Kd.C_drewN ?_ _) | (with_reducible refine Kd.C_drew ?_) | exact HR233.out)) | (with_reducible refine Kd.C_alloc ?_ _) | (with_reducible refine Kd.C_drewN ?_ _) | (with_reducible refine Kd.C_drew ?_))); (case side2 => exact HC233.out); rintro e w43 ⟨rfl, hb⟩; refine ⟨_, rfl, ?_⟩; have n0_ := Aside0.mk (Kd.R_below (by (with_reducible repeat (first | apply Kd.R_alloc | apply Kd.R_drewN | apply Kd.R_drew)); exact HO_10.out) hb); have n1_ := Aside0.mk (Kd.R_below (by (with_reducible repeat (first | apply Kd.R_alloc | apply Kd.R_drewN | apply Kd.R_drew)); exact HO_87.out) hb); have n2_ := Aside0.mk (Kd.C_below (by repeat (first | (with_reducible exact HR233.out) | (with_reducible refine Kd.C_alloc ?_ _) | (with_reducible refine Kd.C_drewN ?_ _) | (with_reducible refine Kd.C_drew ?_) | exact HR233.out)) hb); have n3_ := Aside0.mk (below_step (by repeat (first | (with_reducible first | exact HB.out | apply below_alloc | apply pw_below_drewN | apply below_drew1) | exact HB.out)) hb); clear HO_10; clear HO_87; clear HR233; clear HB; have HO_10 := n0_; have HO_87 := n1_; have HR233 := n2_; have HB := n3_; clear n0_ n1_ n2_ n3_; (try clear hb); (try clear hb2); (try clear hk); (try clear hi); have p236 : 0 ≤ (0 : Int) := (by omega); have q236 : 0 < (t222.length : Int) := of_decide_eq_true (by first | (with_reducible assumption) | assumption); obtain ⟨ad236, e236, hx236_0⟩ := Kd.at_int (Kd.R_reads' HO_10.out).2.2 0 p236 q236; cases e236; have qi236 : (0 < t222.length) = True := eq_true (by omega); (try rw [show ((0 : Int)).toNat = 0 from rfl] at hx236_0); (try rw [Addr.add_zero'] at hx236_0); replace p236 := eq_true p236; replace q236 := eq_true q236) | ((with_reducible refine gate_dst (N := 124) rfl ?_); refine Kd.R_lit (Kd.int .i64) _ 3 ?hg (N := 124) ?hd (xs := ([rd t222 0, t234] : List Int)) (inner := [.int .i64 (rd t222 0), .int .i64 t234]) (ok := fun _ => True) (okp := fun _ => True) ?hr ?hp (fun _ hk => hk) trivial (Below.refl _ _) (Nat.le_refl _) (by simp) ?_; (case hd => rfl); (case hg => rfl); (case hr => first | (go_simp; done) | (go_simp; rfl)); (case hp => exact (Reps.one (show Kd.M (Kd.int .i64) _ _ _ (rd t222 0) [.int .i64 (rd t222 0)] from rfl) (Reps.one (show Kd.M (Kd.int .i64) _ _ _ t234 [.int .i64 t234] from rfl) (Reps.none _ _)))); intro v238 w44 ho45 hb hg_ hnew_; clear hg_ hnew_; (first | rw [← Ny237.out] at ho45 | (simp only [Int.reduceToNat] at ho45; rw [← Ny237.out] at ho45)); have n0_ := Aside0.mk (Kd.R_elder' (by (with_reducible repeat (first | apply Kd.R_alloc | apply Kd.R_drewN | apply Kd.R_drew)); exact HO_10.out) (Kd.R_base ho45) hb); have n1_ := Aside0.mk (Kd.R_elder' (by (with_reducible repeat (first | apply Kd.R_alloc | apply Kd.R_drewN | apply Kd.R_drew)); exact HO_87.out) (Kd.R_base ho45) hb); have n2_ := Aside0.mk (Kd.R_lower (Kd.R_new' (Kd.R_new' ho45 (Kd.R_lt (by (with_reducible repeat (first | apply Kd.R_alloc | apply Kd.R_drewN | apply Kd.R_drew)); exact HO_10.out))) (Kd.R_lt (by (with_reducible repeat (first | apply Kd.R_alloc | apply Kd.R_drewN | apply Kd.R_drew)); exact HO_87.out))) (below_size (by repeat (first | (with_reducible first | exact HB.out | apply below_alloc | apply pw_below_drewN | apply below_drew1) | exact HB.out)))); have n3_ := Aside0.mk (Kd.C_below (by repeat (first | (with_reducible exact HR233.out) | (with_reducible refine Kd.C_alloc ?_ _) | (with_reducible refine Kd.C_drewN ?_ _) | (with_reducible refine Kd.C_drew ?_) | exact HR233.out)) hb); have n4_ := Aside0.mk (below_step (by repeat (first | (with_reducible first | exact HB.out | apply below_alloc | apply pw_below_drewN | apply below_drew1) | exact HB.out)) hb); clear HO_10; clear HO_87; clear HR233; clear HB; have HO_10 := n0_; have HO_87 := n1_; have HO239 := n2_; have HR233 := n3_; have HB := n4_; clear n0_ n1_ n2_ n3_ n4_; clear hb ho45; obtain ⟨Ao46, co46, eo46⟩ := Kd.R_slice HO239.out; subst eo46) | ((with_reducible refine gate_callee (f := 17) rfl ?_); refine goesL_ (some 125) rfl rfl Try.func17 (by kernel_rfl) rfl #[.slice Ao46 y237.length co46] rfl (by (try simp only [List.map_toArray, List.map_cons, List.map_nil]); first | done | rfl | (simp only [List.length_drop, List.length_take]; rfl)) ?_; (with_reducible refine (impl_DivisorOf.calls k4 _ _ y237 t240 true _ ?side1 ?side2 A39.out).mono ?_); (case side1 => repeat (first | exact (Kd.R_reads' HO239.out).2.2 | (with_reducible refine Kd.C_alloc ?_ _) | (with_reducible refine Kd.C_drewN ?_ _) | (with_reducible refine Kd.C_drew ?_))); (case side2 => exact (Kd.R_reads' HO239.out).2.1); rintro e w47 ⟨rfl, hb⟩; refine ⟨_, rfl, ?_⟩; have n0_ := Aside0.mk (Kd.R_below (by (with_reducible repeat (first | apply Kd.R_alloc | apply Kd.R_drewN | apply Kd.R_drew)); exact HO_10.out) hb); have n1_ := Aside0.mk (Kd.R_below (by (with_reducible repeat (first | apply Kd.R_alloc | apply Kd.R_drewN | apply Kd.R_drew)); exact HO_87.out) hb); have n2_ := Aside0.mk (Kd.R_below (by (with_reducible repeat (first | apply Kd.R_alloc | apply Kd.R_drewN | apply Kd.R_drew)); exact HO239.out) hb); have n3_ := Aside0.mk (Kd.C_below (by repeat (first | (with_reducible exact HR233.out) | (with_reducible refine Kd.C_alloc ?_ _) | (with_reducible refine Kd.C_drewN ?_ _) | (with_reducible refine Kd.C_drew ?_) | exact HR233.out)) hb); have n4_ := Aside0.mk (below_step (by repeat (first | (with_reducible first | exact HB.out | apply below_alloc | apply pw_below_drewN | apply below_drew1) | exact HB.out)) hb); clear HO_10; clear HO_87; clear HO239; clear HR233; clear HB; have HO_10 := n0_; have HO_87 := n1_; have HO239 := n2_; have HR233 := n3_; have HB := n4_; clear n0_ n1_ n2_ n3_ n4_; (try clear hb); (try clear hb2); (try clear hk); (try clear hi)))
                    go_ret
                    exact ⟨by first | rfl | (simp [errW_none, errW_some] <;> rfl) | (simp [*, errW_none, errW_some] <;> rfl), by repeat (first | (with_reducible first | exact HB.out | apply below_alloc | apply pw_below_drewN | apply below_drew1) | exact HB.out)⟩
                   ·replace c41 := Bool.eq_false_iff.mpr c41
                    subst c41
                    have H1 : (some false) = some r := by rw [if_neg (show ¬ (false = true) by decide)] at H; exact H
                    clear H
                    have H := H1
                    clear H1
                    obtain rfl := Option.some.inj H
                    have q48 : (1 : Int) ≤ ((t222.length : Int) : Int) := of_decide_eq_true (by first | (with_reducible assumption) | assumption)
                    obtain ⟨i048, hi048, _, hsz48, _⟩ := info_parts info3
                    have hroom48 : t222.length ≤ co22 := (Kd.R_reads' HO_10.out).2.1
                    have hC48 : Kd.C (Kd.int .i64) _ Ao22 t222.length t222 := (Kd.R_reads' HO_10.out).2.2
                    have hcut48 := cut_from (P := Try.prog) 35 3 .i64 Try.underlying35 hi048 1 hsz48 Ao22 t222.length co22 1 (by omega) q48
                    have hr48 := Kd.C_drop (m := (1 : Int).toNat) (c := co22) hC48 (by omega) hroom48
                    obtain ⟨A48, hA48⟩ : ∃ A1, A1 = (if co22 = (1 : Int).toNat then Ao22 else (Ao22 : Option Addr).map (·.add ((1 : Int).toNat * 1))) := ⟨_, rfl⟩
                    obtain ⟨c48, hc48⟩ : ∃ c1, c1 = co22 - (1 : Int).toNat := ⟨_, rfl⟩
                    have hy48 : y230.length = t222.length - (1 : Int).toNat := (by rw [Ny230.out, List.length_drop] <;> omega)
                    rw [show (t222).drop (1 : Int).toNat = y230 from Ny230.out.symm] at hr48
                    replace hr48 : Kd.C (Kd.int .i64) _ A48 y230.length y230 := (by rw [hA48]; exact hr48)
                    rw [← hy48, ← hA48, ← hc48] at hcut48
                    have HR233 := Aside0.mk hr48
                    have HC233 := Aside0.mk (show y230.length ≤ c48 from by rw [hy48, hc48]; exact Nat.sub_le_sub_right hroom48 _)
                    clear hr48 hC48 hroom48 hi048 hsz48 hc48
                    have KY48 := Aside0.mk hy48
                    have KA48 := Aside0.mk hA48
                    clear hy48 hA48
                    have KL48 := Aside0.mk (show 1 ≤ t222.length from by omega)
                    replace q48 := eq_true q48
                    go_wp2_with (first | ((with_reducible refine gate_callee (f := 17) rfl ?_); refine goesL_ (some 116) rfl rfl Try.func17 (by kernel_rfl) rfl #[.slice A48 y230.length c48] rfl (by (try simp only [List.map_toArray, List.map_cons, List.map_nil]); first | done | rfl | (simp only [List.length_drop, List.length_take]; rfl)) ?_; (with_reducible refine (impl_DivisorOf.calls k4 _ _ y230 t234 true _ ?side1 ?side2 A37.out).mono ?_); (case side1 => repeat (first | exact (by repeat (first | (with_reducible exact HR233.out) | (with_reducible refine Kd.C_alloc ?_ _) | (with_reducible refine Kd.C_drewN ?_ _) | (with_reducible refine Kd.C_drew ?_) | exact HR233.out)) | (with_reducible refine Kd.C_alloc ?_ _) | (with_reducible refine Kd.C_drewN ?_ _) | (with_reducible refine Kd.C_drew ?_))); (case side2 => exact HC233.out); rintro e w49 ⟨rfl, hb⟩; refine ⟨_, rfl, ?_⟩; have n0_ := Aside0.mk (Kd.R_below (by (with_reducible repeat (first | apply Kd.R_alloc | apply Kd.R_drewN | apply Kd.R_drew)); exact HO_10.out) hb); have n1_ := Aside0.mk (Kd.R_below (by (with_reducible repeat (first | apply Kd.R_alloc | apply Kd.R_drewN | apply Kd.R_drew)); exact HO_87.out) hb); have n2_ := Aside0.mk (Kd.C_below (by repeat (first | (with_reducible exact HR233.out) | (with_reducible refine Kd.C_alloc ?_ _) | (with_reducible refine Kd.C_drewN ?_ _) | (with_reducible refine Kd.C_drew ?_) | exact HR233.out)) hb); have n3_ := Aside0.mk (below_step (by repeat (first | (with_reducible first | exact HB.out | apply below_alloc | apply pw_below_drewN | apply below_drew1) | exact HB.out)) hb); clear HO_10; clear HO_87; clear HR233; clear HB; have HO_10 := n0_; have HO_87 := n1_; have HR233 := n2_; have HB := n3_; clear n0_ n1_ n2_ n3_; (try clear hb); (try clear hb2); (try clear hk); (try clear hi); have p236 : 0 ≤ (0 : Int) := (by omega); have q236 : 0 < (t222.length : Int) := of_decide_eq_true (by first | (with_reducible assumption) | assumption); obtain ⟨ad236, e236, hx236_0⟩ := Kd.at_int (Kd.R_reads' HO_10.out).2.2 0 p236 q236; cases e236; have qi236 : (0 < t222.length) = True := eq_true (by omega); (try rw [show ((0 : Int)).toNat = 0 from rfl] at hx236_0); (try rw [Addr.add_zero'] at hx236_0); replace p236 := eq_true p236; replace q236 := eq_true q236) | ((with_reducible refine gate_dst (N := 124) rfl ?_); refine Kd.R_lit (Kd.int .i64) _ 3 ?hg (N := 124) ?hd (xs := ([rd t222 0, t234] : List Int)) (inner := [.int .i64 (rd t222 0), .int .i64 t234]) (ok := fun _ => True) (okp := fun _ => True) ?hr ?hp (fun _ hk => hk) trivial (Below.refl _ _) (Nat.le_refl _) (by simp) ?_; (case hd => rfl); (case hg => rfl); (case hr => first | (go_simp; done) | (go_simp; rfl)); (case hp => exact (Reps.one (show Kd.M (Kd.int .i64) _ _ _ (rd t222 0) [.int .i64 (rd t222 0)] from rfl) (Reps.one (show Kd.M (Kd.int .i64) _ _ _ t234 [.int .i64 t234] from rfl) (Reps.none _ _)))); intro v238 w50 ho51 hb hg_ hnew_; clear hg_ hnew_; (first | rw [← Ny237.out] at ho51 | (simp only [Int.reduceToNat] at ho51; rw [← Ny237.out] at ho51)); have n0_ := Aside0.mk (Kd.R_elder' (by (with_reducible repeat (first | apply Kd.R_alloc | apply Kd.R_drewN | apply Kd.R_drew)); exact HO_10.out) (Kd.R_base ho51) hb); have n1_ := Aside0.mk (Kd.R_elder' (by (with_reducible repeat (first | apply Kd.R_alloc | apply Kd.R_drewN | apply Kd.R_drew)); exact HO_87.out) (Kd.R_base ho51) hb); have n2_ := Aside0.mk (Kd.R_lower (Kd.R_new' (Kd.R_new' ho51 (Kd.R_lt (by (with_reducible repeat (first | apply Kd.R_alloc | apply Kd.R_drewN | apply Kd.R_drew)); exact HO_10.out))) (Kd.R_lt (by (with_reducible repeat (first | apply Kd.R_alloc | apply Kd.R_drewN | apply Kd.R_drew)); exact HO_87.out))) (below_size (by repeat (first | (with_reducible first | exact HB.out | apply below_alloc | apply pw_below_drewN | apply below_drew1) | exact HB.out)))); have n3_ := Aside0.mk (Kd.C_below (by repeat (first | (with_reducible exact HR233.out) | (with_reducible refine Kd.C_alloc ?_ _) | (with_reducible refine Kd.C_drewN ?_ _) | (with_reducible refine Kd.C_drew ?_) | exact HR233.out)) hb); have n4_ := Aside0.mk (below_step (by repeat (first | (with_reducible first | exact HB.out | apply below_alloc | apply pw_below_drewN | apply below_drew1) | exact HB.out)) hb); clear HO_10; clear HO_87; clear HR233; clear HB; have HO_10 := n0_; have HO_87 := n1_; have HO239 := n2_; have HR233 := n3_; have HB := n4_; clear n0_ n1_ n2_ n3_ n4_; clear hb ho51; obtain ⟨Ao52, co52, eo52⟩ := Kd.R_slice HO239.out; subst eo52) | ((with_reducible refine gate_callee (f := 17) rfl ?_); refine goesL_ (some 125) rfl rfl Try.func17 (by kernel_rfl) rfl #[.slice Ao52 y237.length co52] rfl (by (try simp only [List.map_toArray, List.map_cons, List.map_nil]); first | done | rfl | (simp only [List.length_drop, List.length_take]; rfl)) ?_; (with_reducible refine (impl_DivisorOf.calls k4 _ _ y237 t240 false _ ?side1 ?side2 A39.out).mono ?_); (case side1 => repeat (first | exact (Kd.R_reads' HO239.out).2.2 | (with_reducible refine Kd.C_alloc ?_ _) | (with_reducible refine Kd.C_drewN ?_ _) | (with_reducible refine Kd.C_drew ?_))); (case side2 => exact (Kd.R_reads' HO239.out).2.1); rintro e w53 ⟨rfl, hb⟩; refine ⟨_, rfl, ?_⟩; have n0_ := Aside0.mk (Kd.R_below (by (with_reducible repeat (first | apply Kd.R_alloc | apply Kd.R_drewN | apply Kd.R_drew)); exact HO_10.out) hb); have n1_ := Aside0.mk (Kd.R_below (by (with_reducible repeat (first | apply Kd.R_alloc | apply Kd.R_drewN | apply Kd.R_drew)); exact HO_87.out) hb); have n2_ := Aside0.mk (Kd.R_below (by (with_reducible repeat (first | apply Kd.R_alloc | apply Kd.R_drewN | apply Kd.R_drew)); exact HO239.out) hb); have n3_ := Aside0.mk (Kd.C_below (by repeat (first | (with_reducible exact HR233.out) | (with_reducible refine Kd.C_alloc ?_ _) | (with_reducible refine Kd.C_drewN ?_ _) | (with_reducible refine Kd.C_drew ?_) | exact HR233.out)) hb); have n4_ := Aside0.mk (below_step (by repeat (first | (with_reducible first | exact HB.out | apply below_alloc | apply pw_below_drewN | apply below_drew1) | exact HB.out)) hb); clear HO_10; clear HO_87; clear HO239; clear HR233; clear HB; have HO_10 := n0_; have HO_87 := n1_; have HO239 := n2_; have HR233 := n3_; have HB := n4_; clear n0_ n1_ n2_ n3_ n4_; (try clear hb); (try clear hb2); (try clear hk); (try clear hi)))
                    go_ret
                    exact ⟨by first | rfl | (simp [errW_none, errW_some] <;> rfl) | (simp [*, errW_none, errW_some] <;> rfl), by repeat (first | (with_reducible first | exact HB.out | apply below_alloc | apply pw_below_drewN | apply below_drew1) | exact HB.out)⟩
                  ·replace c40 := Bool.eq_false_iff.mpr c40
                   subst c40
                   have H1 : (some false) = some r := by rw [if_neg (show ¬ (false = true) by decide)] at H; exact H
                   clear H
                   have H := H1
                   clear H1
                   obtain rfl := Option.some.inj H
                   have q54 : (1 : Int) ≤ ((t222.length : Int) : Int) := of_decide_eq_true (by first | (with_reducible assumption) | assumption)
                   obtain ⟨i054, hi054, _, hsz54, _⟩ := info_parts info3
                   have hroom54 : t222.length ≤ co22 := (Kd.R_reads' HO_10.out).2.1
                   have hC54 : Kd.C (Kd.int .i64) _ Ao22 t222.length t222 := (Kd.R_reads' HO_10.out).2.2
                   have hcut54 := cut_from (P := Try.prog) 35 3 .i64 Try.underlying35 hi054 1 hsz54 Ao22 t222.length co22 1 (by omega) q54
                   have hr54 := Kd.C_drop (m := (1 : Int).toNat) (c := co22) hC54 (by omega) hroom54
                   obtain ⟨A54, hA54⟩ : ∃ A1, A1 = (if co22 = (1 : Int).toNat then Ao22 else (Ao22 : Option Addr).map (·.add ((1 : Int).toNat * 1))) := ⟨_, rfl⟩
                   obtain ⟨c54, hc54⟩ : ∃ c1, c1 = co22 - (1 : Int).toNat := ⟨_, rfl⟩
                   have hy54 : y230.length = t222.length - (1 : Int).toNat := (by rw [Ny230.out, List.length_drop] <;> omega)
                   rw [show (t222).drop (1 : Int).toNat = y230 from Ny230.out.symm] at hr54
                   replace hr54 : Kd.C (Kd.int .i64) _ A54 y230.length y230 := (by rw [hA54]; exact hr54)
                   rw [← hy54, ← hA54, ← hc54] at hcut54
                   have HR233 := Aside0.mk hr54
                   have HC233 := Aside0.mk (show y230.length ≤ c54 from by rw [hy54, hc54]; exact Nat.sub_le_sub_right hroom54 _)
                   clear hr54 hC54 hroom54 hi054 hsz54 hc54
                   have KY54 := Aside0.mk hy54
                   have KA54 := Aside0.mk hA54
                   clear hy54 hA54
                   have KL54 := Aside0.mk (show 1 ≤ t222.length from by omega)
                   replace q54 := eq_true q54
                   go_wp2_with (first | ((with_reducible refine gate_callee (f := 17) rfl ?_); refine goesL_ (some 116) rfl rfl Try.func17 (by kernel_rfl) rfl #[.slice A54 y230.length c54] rfl (by (try simp only [List.map_toArray, List.map_cons, List.map_nil]); first | done | rfl | (simp only [List.length_drop, List.length_take]; rfl)) ?_; (with_reducible refine (impl_DivisorOf.calls k4 _ _ y230 t234 false _ ?side1 ?side2 A37.out).mono ?_); (case side1 => repeat (first | exact (by repeat (first | (with_reducible exact HR233.out) | (with_reducible refine Kd.C_alloc ?_ _) | (with_reducible refine Kd.C_drewN ?_ _) | (with_reducible refine Kd.C_drew ?_) | exact HR233.out)) | (with_reducible refine Kd.C_alloc ?_ _) | (with_reducible refine Kd.C_drewN ?_ _) | (with_reducible refine Kd.C_drew ?_))); (case side2 => exact HC233.out); rintro e w55 ⟨rfl, hb⟩; refine ⟨_, rfl, ?_⟩; have n0_ := Aside0.mk (Kd.R_below (by (with_reducible repeat (first | apply Kd.R_alloc | apply Kd.R_drewN | apply Kd.R_drew)); exact HO_10.out) hb); have n1_ := Aside0.mk (Kd.R_below (by (with_reducible repeat (first | apply Kd.R_alloc | apply Kd.R_drewN | apply Kd.R_drew)); exact HO_87.out) hb); have n2_ := Aside0.mk (Kd.C_below (by repeat (first | (with_reducible exact HR233.out) | (with_reducible refine Kd.C_alloc ?_ _) | (with_reducible refine Kd.C_drewN ?_ _) | (with_reducible refine Kd.C_drew ?_) | exact HR233.out)) hb); have n3_ := Aside0.mk (below_step (by repeat (first | (with_reducible first | exact HB.out | apply below_alloc | apply pw_below_drewN | apply below_drew1) | exact HB.out)) hb); clear HO_10; clear HO_87; clear HR233; clear HB; have HO_10 := n0_; have HO_87 := n1_; have HR233 := n2_; have HB := n3_; clear n0_ n1_ n2_ n3_; (try clear hb); (try clear hb2); (try clear hk); (try clear hi); have p236 : 0 ≤ (0 : Int) := (by omega); have q236 : 0 < (t222.length : Int) := of_decide_eq_true (by first | (with_reducible assumption) | assumption); obtain ⟨ad236, e236, hx236_0⟩ := Kd.at_int (Kd.R_reads' HO_10.out).2.2 0 p236 q236; cases e236; have qi236 : (0 < t222.length) = True := eq_true (by omega); (try rw [show ((0 : Int)).toNat = 0 from rfl] at hx236_0); (try rw [Addr.add_zero'] at hx236_0); replace p236 := eq_true p236; replace q236 := eq_true q236) | ((with_reducible refine gate_dst (N := 124) rfl ?_); refine Kd.R_lit (Kd.int .i64) _ 3 ?hg (N := 124) ?hd (xs := ([rd t222 0, t234] : List Int)) (inner := [.int .i64 (rd t222 0), .int .i64 t234]) (ok := fun _ => True) (okp := fun _ => True) ?hr ?hp (fun _ hk => hk) trivial (Below.refl _ _) (Nat.le_refl _) (by simp) ?_; (case hd => rfl); (case hg => rfl); (case hr => first | (go_simp; done) | (go_simp; rfl)); (case hp => exact (Reps.one (show Kd.M (Kd.int .i64) _ _ _ (rd t222 0) [.int .i64 (rd t222 0)] from rfl) (Reps.one (show Kd.M (Kd.int .i64) _ _ _ t234 [.int .i64 t234] from rfl) (Reps.none _ _)))); intro v238 w56 ho57 hb hg_ hnew_; clear hg_ hnew_; (first | rw [← Ny237.out] at ho57 | (simp only [Int.reduceToNat] at ho57; rw [← Ny237.out] at ho57)); have n0_ := Aside0.mk (Kd.R_elder' (by (with_reducible repeat (first | apply Kd.R_alloc | apply Kd.R_drewN | apply Kd.R_drew)); exact HO_10.out) (Kd.R_base ho57) hb); have n1_ := Aside0.mk (Kd.R_elder' (by (with_reducible repeat (first | apply Kd.R_alloc | apply Kd.R_drewN | apply Kd.R_drew)); exact HO_87.out) (Kd.R_base ho57) hb); have n2_ := Aside0.mk (Kd.R_lower (Kd.R_new' (Kd.R_new' ho57 (Kd.R_lt (by (with_reducible repeat (first | apply Kd.R_alloc | apply Kd.R_drewN | apply Kd.R_drew)); exact HO_10.out))) (Kd.R_lt (by (with_reducible repeat (first | apply Kd.R_alloc | apply Kd.R_drewN | apply Kd.R_drew)); exact HO_87.out))) (below_size (by repeat (first | (with_reducible first | exact HB.out | apply below_alloc | apply pw_below_drewN | apply below_drew1) | exact HB.out)))); have n3_ := Aside0.mk (Kd.C_below (by repeat (first | (with_reducible exact HR233.out) | (with_reducible refine Kd.C_alloc ?_ _) | (with_reducible refine Kd.C_drewN ?_ _) | (with_reducible refine Kd.C_drew ?_) | exact HR233.out)) hb); have n4_ := Aside0.mk (below_step (by repeat (first | (with_reducible first | exact HB.out | apply below_alloc | apply pw_below_drewN | apply below_drew1) | exact HB.out)) hb); clear HO_10; clear HO_87; clear HR233; clear HB; have HO_10 := n0_; have HO_87 := n1_; have HO239 := n2_; have HR233 := n3_; have HB := n4_; clear n0_ n1_ n2_ n3_ n4_; clear hb ho57; obtain ⟨Ao58, co58, eo58⟩ := Kd.R_slice HO239.out; subst eo58) | ((with_reducible refine gate_callee (f := 17) rfl ?_); refine goesL_ (some 125) rfl rfl Try.func17 (by kernel_rfl) rfl #[.slice Ao58 y237.length co58] rfl (by (try simp only [List.map_toArray, List.map_cons, List.map_nil]); first | done | rfl | (simp only [List.length_drop, List.length_take]; rfl)) ?_; (with_reducible refine (impl_DivisorOf.calls k4 _ _ y237 t240 t241 _ ?side1 ?side2 A39.out).mono ?_); (case side1 => repeat (first | exact (Kd.R_reads' HO239.out).2.2 | (with_reducible refine Kd.C_alloc ?_ _) | (with_reducible refine Kd.C_drewN ?_ _) | (with_reducible refine Kd.C_drew ?_))); (case side2 => exact (Kd.R_reads' HO239.out).2.1); rintro e w59 ⟨rfl, hb⟩; refine ⟨_, rfl, ?_⟩; have n0_ := Aside0.mk (Kd.R_below (by (with_reducible repeat (first | apply Kd.R_alloc | apply Kd.R_drewN | apply Kd.R_drew)); exact HO_10.out) hb); have n1_ := Aside0.mk (Kd.R_below (by (with_reducible repeat (first | apply Kd.R_alloc | apply Kd.R_drewN | apply Kd.R_drew)); exact HO_87.out) hb); have n2_ := Aside0.mk (Kd.R_below (by (with_reducible repeat (first | apply Kd.R_alloc | apply Kd.R_drewN | apply Kd.R_drew)); exact HO239.out) hb); have n3_ := Aside0.mk (Kd.C_below (by repeat (first | (with_reducible exact HR233.out) | (with_reducible refine Kd.C_alloc ?_ _) | (with_reducible refine Kd.C_drewN ?_ _) | (with_reducible refine Kd.C_drew ?_) | exact HR233.out)) hb); have n4_ := Aside0.mk (below_step (by repeat (first | (with_reducible first | exact HB.out | apply below_alloc | apply pw_below_drewN | apply below_drew1) | exact HB.out)) hb); clear HO_10; clear HO_87; clear HO239; clear HR233; clear HB; have HO_10 := n0_; have HO_87 := n1_; have HO239 := n2_; have HR233 := n3_; have HB := n4_; clear n0_ n1_ n2_ n3_ n4_; (try clear hb); (try clear hb2); (try clear hk); (try clear hi)))
                   go_ret
                   exact ⟨by first | rfl | (simp [errW_none, errW_some] <;> rfl) | (simp [*, errW_none, errW_some] <;> rfl), by repeat (first | (with_reducible first | exact HB.out | apply below_alloc | apply pw_below_drewN | apply below_drew1) | exact HB.out)⟩
                 ·rw [if_neg c38] at H
                  exact absurd H (by simp)
                ·rw [if_neg c36] at H
                 exact absurd H (by simp)
               ·rw [if_neg c35] at H
                have c35b0 : decide (0 < (t222.length : Int)) = false := decide_eq_false c35
                have c35b1 : decide (0 < t222.length) = false := decide_eq_false (by omega)
                clear c35
                obtain rfl := Option.some.inj H
                go_wp2
                go_ret
                exact ⟨by first | rfl | (simp [errW_none, errW_some] <;> rfl) | (simp [*, errW_none, errW_some] <;> rfl), by repeat (first | (with_reducible first | exact HB.out | apply below_alloc | apply pw_below_drewN | apply below_drew1) | exact HB.out)⟩
           ·replace c26 := Bool.eq_false_iff.mpr c26
            subst c26
            have H1 : (some true) = some r := by rw [if_neg (show ¬ (false = true) by decide)] at H; exact H
            clear H
            have H := H1
            clear H1
            obtain rfl := Option.some.inj H
            go_wp2
            go_ret
            exact ⟨by first | rfl | (simp [errW_none, errW_some] <;> rfl) | (simp [*, errW_none, errW_some] <;> rfl), by repeat (first | (with_reducible first | exact HB.out | apply below_alloc | apply pw_below_drewN | apply below_drew1) | exact HB.out)⟩

/-- THE ONE PURE STATEMENT of laws_FnRootsAndDivisors: yours. -/
def laws_FnRootsAndDivisors.Pure : Prop := ∀ (l0 : List Int) (l1 : List Int), l0.length ≤ maxLen → l0.length * 1 ≤ 140737488351232 → (∀ x ∈ l0, (Lit.int .u8 x).wf = true) → l1.length ≤ maxLen → l1.length * 1 ≤ 140737488351232 → (∀ x ∈ l1, (Lit.int .u8 x).wf = true) → ∃ k, laws_FnRootsAndDivisors.f k l0 l1 = some true
theorem laws_FnRootsAndDivisors.walk (P : laws_FnRootsAndDivisors.Pure) (a0 : Option Addr) (len0 cap0 : Nat) (z0 : List Int) (a1 : Option Addr) (len1 cap1 : Nat) (z1 : List Int) (w : World) (w0 : (a0 = none ∧ len0 = 0 ∧ cap0 = 0 ∧ z0 = []) ∨ ∃ x, a0 = some x ∧ len0 ≤ cap0 ∧ cap0 ≤ maxLen ∧ z0.length = cap0 ∧ (∀ i, i < z0.length → w.cell? (x.add i) = some (.int .u8 (z0.getD i 0))) ∧ ∀ n ∈ z0, (Lit.int .u8 n).wf = true) (y0 : len0 * 1 ≤ 140737488351232) (w1 : (a1 = none ∧ len1 = 0 ∧ cap1 = 0 ∧ z1 = []) ∨ ∃ x, a1 = some x ∧ len1 ≤ cap1 ∧ cap1 ≤ maxLen ∧ z1.length = cap1 ∧ (∀ i, i < z1.length → w.cell? (x.add i) = some (.int .u8 (z1.getD i 0))) ∧ ∀ n ∈ z1, (Lit.int .u8 n).wf = true) (y1 : len1 * 1 ≤ 140737488351232) :
  Calls Try.prog 4 #[.slice a0 len0 cap0, .slice a1 len1 cap1] w fun e w' => e = .returned (.bool true) ∧ Below w.heap.size w w' := by
 obtain ⟨l0, rfl, hr0, hm0, hw0, hc0⟩ := ReadsInt.ofRowC w0
 obtain ⟨l1, rfl, hr1, hm1, hw1, hc1⟩ := ReadsInt.ofRowC w1
 obtain ⟨k, h⟩ := P l0 l1 hm0 y0 hw0 hm1 y1 hw1
 refine (laws_FnRootsAndDivisors.calls k _ _ l0 _ _ l1 true w (Kd.C_of_reads (d := (0 : Int)) (h1 := fun _ => rfl) hr0) hc0 (Kd.C_of_reads (d := (0 : Int)) (h1 := fun _ => rfl) hr1) hc1 h).mono ?_
 rintro e w' ⟨rfl, hd⟩
 exact ⟨rfl, hd⟩

end Go.Proofs.Ytclpgaoneoojiaa.P
