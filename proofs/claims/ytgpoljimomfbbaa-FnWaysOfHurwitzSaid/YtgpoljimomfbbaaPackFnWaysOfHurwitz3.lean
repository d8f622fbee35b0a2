/- Each solution has a way down along which the sum falls, to a fundamental one, and is made again from it by the word up. No condition. -/
import Derived.Test.YtgpoljimomfbbaaPackFnWaysOfHurwitz2
import Derived.Laws.BitsLemmas
-- PFspechuGiven
namespace Go.Proofs.Ytgpoljimomfbbaa.P
open Go.RowKit Go.Proofs.YtgpoljimomfbbaaW.PrintWords Go.Proofs.YtgpoljimomfbbaaW.PrintLast
set_option linter.unusedVariables false
set_option linter.unusedSimpArgs false

/-! ### spec_huGiven: function 47 -/
def spec_huGiven.f (a0 : Int) (a1 : Int) : Option (Bool) := (spec_l1In.f a0 1 20).bind fun t101 => (if t101 = true then ((spec_l1In.f a1 (-50) 50).bind fun t102 => (some t102)) else (some false))
set_option maxHeartbeats 8000000 in
set_option maxRecDepth 100000 in
theorem spec_huGiven.calls (a0 : Int) (a1 : Int) (r : Bool) (w : World) (h : spec_huGiven.f a0 a1 = some r) :
  Calls Try.prog 47 #[.int .i64 a0, .int .i64 a1] w fun e w' => e = .returned (.bool r) ∧ Drawn0 w w' := by
 have H : ((spec_l1In.f a0 1 20).bind fun t101 => (if t101 = true then ((spec_l1In.f a1 (-50) 50).bind fun t102 => (some t102)) else (some false))) = some r := h
 clear h
 replace H := Option.bind_eq_some_iff.mp H
 obtain ⟨t101, A30, H⟩ := H
 replace H : (if t101 = true then ((spec_l1In.f a1 (-50) 50).bind fun t102 => (some t102)) else (some false)) = some r := H
 have A3 := Aside0.mk A30
 clear A30
 by_cases c4 : t101 = true
 ·subst c4
  have H1 : ((spec_l1In.f a1 (-50) 50).bind fun t102 => (some t102)) = some r := by rw [if_pos rfl] at H; exact H
  clear H
  have H := H1
  clear H1
  replace H := Option.bind_eq_some_iff.mp H
  obtain ⟨t102, A50, H⟩ := H
  replace H : (some t102) = some r := H
  have A5 := Aside0.mk A50
  clear A50
  obtain rfl := Option.some.inj H
  go_enter Try.func47, Try.ntmps47
  go_wp2_with (first | ((with_reducible refine gate_callee (f := 54) rfl ?_); refine goesL_ (some 6) rfl rfl Try.func54 (by kernel_rfl) rfl #[.int .i64 a0, .int .i64 1, .int .i64 20] rfl (by (try simp only [List.map_toArray, List.map_cons, List.map_nil]); first | done | rfl | (simp only [List.length_drop, List.length_take]; rfl)) ?_; (with_reducible refine (spec_l1In.calls a0 1 20 true _ A3.out).mono ?_); rintro e w' ⟨rfl, ⟨nd, rfl⟩⟩; refine ⟨_, rfl, ?_⟩) | (go_at_call 54; (with_reducible refine (spec_l1In.calls a1 (-50) 50 t102 _ A5.out).mono ?_); rintro e w' ⟨rfl, ⟨nd, rfl⟩⟩))
  go_ret
  exact ⟨by first | rfl | (simp; done) | (simp [*]; done), by repeat (first | exact Drawn0.refl _ | apply Drawn0.step)⟩
 ·replace c4 := Bool.eq_false_iff.mpr c4
  subst c4
  have H1 : (some false) = some r := by rw [if_neg (show ¬ (false = true) by decide)] at H; exact H
  clear H
  have H := H1
  clear H1
  obtain rfl := Option.some.inj H
  go_enter Try.func47, Try.ntmps47
  go_wp2_with (first | ((with_reducible refine gate_callee (f := 54) rfl ?_); refine goesL_ (some 6) rfl rfl Try.func54 (by kernel_rfl) rfl #[.int .i64 a0, .int .i64 1, .int .i64 20] rfl (by (try simp only [List.map_toArray, List.map_cons, List.map_nil]); first | done | rfl | (simp only [List.length_drop, List.length_take]; rfl)) ?_; (with_reducible refine (spec_l1In.calls a0 1 20 false _ A3.out).mono ?_); rintro e w' ⟨rfl, ⟨nd, rfl⟩⟩; refine ⟨_, rfl, ?_⟩))
  go_ret
  exact ⟨by first | rfl | (simp; done) | (simp [*]; done), by repeat (first | exact Drawn0.refl _ | apply Drawn0.step)⟩

end Go.Proofs.Ytgpoljimomfbbaa.P

-- PFspecl1All
namespace Go.Proofs.Ytgpoljimomfbbaa.P
open Go.RowKit Go.Proofs.YtgpoljimomfbbaaW.PrintWords Go.Proofs.YtgpoljimomfbbaaW.PrintLast
set_option linter.unusedVariables false
set_option linter.unusedSimpArgs false

/-! ### spec_l1All: function 87 -/
def spec_l1All.l0 : Nat → Int → Int → List Int → Int → Int → Option (Bool)
 | 0, _, _, _, _, _ => none
 | k + 1, x1, x2, x9, x10, x11 => if x11 < x10 then (if 0 ≤ x11 then (if x11 < (x9.length : Int) then ((spec_l1In.f (rd x9 x11) x1 x2).bind fun t104 => (if t104 = true then (spec_l1All.l0 k x1 x2 x9 x10 (wrap64 (x11 + 1))) else (some false))) else (none)) else (none)) else (some true)
def spec_l1All.f (k : Nat) (l0 : List Int) (a1 : Int) (a2 : Int) : Option (Bool) := spec_l1All.l0 k a1 a2 l0 (l0.length : Int) 0
theorem spec_l1All.mono_l : ∀ k, (∀ y0 y1 y2 y3 y4, LeO (spec_l1All.l0 k y0 y1 y2 y3 y4) (spec_l1All.l0 (k + 1) y0 y1 y2 y3 y4))
 | 0 => fun _ _ _ _ _ r h => by simp [spec_l1All.l0] at h
 | k + 1 => by
  have ih0 := spec_l1All.mono_l k
  ·intro y0 y1 y2 y3 y4
   unfold spec_l1All.l0
   repeat' first
   | (with_reducible exact ih0 _ _ _ _ _)
   | (with_reducible exact LeO.refl _)
   | (with_reducible exact LeO.none _)
   | (with_reducible refine LeO.ite ?_ ?_)
   | (with_reducible refine LeO.bind ?_ (fun _ => ?_))
   | exact ih0 _ _ _ _ _
   | exact LeO.none _
   | refine LeO.ite ?_ ?_
   | refine LeO.bind ?_ (fun _ => ?_)
theorem spec_l1All.mono : ∀ a0 a1 a2 k, LeO (spec_l1All.f k a0 a1 a2) (spec_l1All.f (k + 1) a0 a1 a2) := by
 intro a0 a1 a2 k
 have ih0 := spec_l1All.mono_l k
 unfold spec_l1All.f
 repeat' first
   | (with_reducible exact ih0 _ _ _ _ _)
   | (with_reducible exact LeO.refl _)
   | (with_reducible exact LeO.none _)
   | (with_reducible refine LeO.ite ?_ ?_)
   | (with_reducible refine LeO.bind ?_ (fun _ => ?_))
   | exact ih0 _ _ _ _ _
   | exact LeO.none _
   | refine LeO.ite ?_ ?_
   | refine LeO.bind ?_ (fun _ => ?_)
set_option maxHeartbeats 8000000 in
set_option maxRecDepth 100000 in
theorem spec_l1All.calls (k : Nat) (A0 : Option Addr) (c0 : Nat) (l0 : List Int) (a1 : Int) (a2 : Int) (r : Bool) (w : World) (hr0 : Kd.C (Kd.int .i64) w A0 l0.length l0) (hc0 : l0.length ≤ c0) (h : spec_l1All.f k l0 a1 a2 = some r) :
  Calls Try.prog 87 #[.slice A0 l0.length c0, .int .i64 a1, .int .i64 a2] w fun e w' => e = .returned (.bool r) ∧ Drawn0 w w' := by
 have HR0 := Aside0.mk hr0
 have HC0 := Aside0.mk hc0
 clear hr0 hc0
 have H : (spec_l1All.l0 k a1 a2 l0 (l0.length : Int) 0) = some r := h
 clear h
 have H' := Aside0.mk H
 clear H
 go_enter Try.func87, Try.ntmps87
 go_wp2
 go_loopg [11] k (fun kq v11 w' => ∃ (x11_1 : Int), v11 = .int .i64 x11_1 ∧ Aside0 (spec_l1All.l0 kq a1 a2 l0 (l0.length : Int) x11_1 = some r) ∧ Aside0 (kq ≤ k) ∧ Drawn0 w w')
 case atStart => exact ⟨(0), (by first | rfl | (simp; done) | (simp [*]; done)), H', ⟨Nat.le_refl _⟩, by repeat (first | exact Drawn0.refl _ | apply Drawn0.step)⟩
 case round =>
  clear H'
  try clear p2
  obtain ⟨x11_1, rfl, HA, HK1, ⟨m1, rfl⟩⟩ := hrel
  cases gk with
  | zero => exact absurd HA.out (by simp [spec_l1All.l0])
  | succ k1 =>
   have H := HA.out
   clear HA
   simp only [spec_l1All.l0] at H
   by_cases c4 : x11_1 < (l0.length : Int)
   ·rw [if_pos c4] at H
    have c4b0 : decide (x11_1 < (l0.length : Int)) = true := decide_eq_true c4
    clear c4
    by_cases c5 : 0 ≤ x11_1
    ·rw [if_pos c5] at H
     have c5b0 : decide (0 ≤ x11_1) = true := decide_eq_true c5
     clear c5
     by_cases c6 : x11_1 < (l0.length : Int)
     ·rw [if_pos c6] at H
      have c6b0 : decide (x11_1 < (l0.length : Int)) = true := decide_eq_true c6
      clear c6
      replace H := Option.bind_eq_some_iff.mp H
      obtain ⟨t104, A70, H⟩ := H
      replace H : (if t104 = true then (spec_l1All.l0 k1 a1 a2 l0 (l0.length : Int) (wrap64 (x11_1 + 1))) else (some false)) = some r := H
      have A7 := Aside0.mk A70
      clear A70
      by_cases c8 : t104 = true
      ·subst c8
       have H1 : (spec_l1All.l0 k1 a1 a2 l0 (l0.length : Int) (wrap64 (x11_1 + 1))) = some r := by rw [if_pos rfl] at H; exact H
       clear H
       have H := H1
       clear H1
       have H' := Aside0.mk H
       clear H
       have p103 : 0 ≤ (x11_1 : Int) := of_decide_eq_true (by first | (with_reducible assumption) | assumption)
       have q103 : x11_1 < (l0.length : Int) := of_decide_eq_true (by first | (with_reducible assumption) | assumption)
       obtain ⟨ad103, e103, hx103_0⟩ := Kd.at_int HR0.out x11_1 p103 q103
       cases e103
       replace p103 := eq_true p103
       replace q103 := eq_true q103
       go_wp2_with (first | ((with_reducible refine gate_callee (f := 54) rfl ?_); refine goesL_ (some 18) rfl rfl Try.func54 (by kernel_rfl) rfl #[.int .i64 (rd l0 x11_1), .int .i64 a1, .int .i64 a2] rfl (by (try simp only [List.map_toArray, List.map_cons, List.map_nil]); first | done | rfl | (simp only [List.length_drop, List.length_take]; rfl)) ?_; (with_reducible refine (spec_l1In.calls (rd l0 x11_1) a1 a2 true _ A7.out).mono ?_); rintro e w' ⟨rfl, ⟨nd, rfl⟩⟩; refine ⟨_, rfl, ?_⟩))
       go_roundg k1
       case measure => have := HK1.out; omega
       case rel => exact ⟨(wrap64 (x11_1 + 1)), (by first | rfl | (simp; done) | (simp [*]; done)), H', ⟨by have := HK1.out; omega⟩, by repeat (first | exact Drawn0.refl _ | apply Drawn0.step)⟩
      ·replace c8 := Bool.eq_false_iff.mpr c8
       subst c8
       have H1 : (some false) = some r := by rw [if_neg (show ¬ (false = true) by decide)] at H; exact H
       clear H
       have H := H1
       clear H1
       obtain rfl := Option.some.inj H
       have p103 : 0 ≤ (x11_1 : Int) := of_decide_eq_true (by first | (with_reducible assumption) | assumption)
       have q103 : x11_1 < (l0.length : Int) := of_decide_eq_true (by first | (with_reducible assumption) | assumption)
       obtain ⟨ad103, e103, hx103_0⟩ := Kd.at_int HR0.out x11_1 p103 q103
       cases e103
       replace p103 := eq_true p103
       replace q103 := eq_true q103
       go_wp2_with (first | ((with_reducible refine gate_callee (f := 54) rfl ?_); refine goesL_ (some 18) rfl rfl Try.func54 (by kernel_rfl) rfl #[.int .i64 (rd l0 x11_1), .int .i64 a1, .int .i64 a2] rfl (by (try simp only [List.map_toArray, List.map_cons, List.map_nil]); first | done | rfl | (simp only [List.length_drop, List.length_take]; rfl)) ?_; (with_reducible refine (spec_l1In.calls (rd l0 x11_1) a1 a2 false _ A7.out).mono ?_); rintro e w' ⟨rfl, ⟨nd, rfl⟩⟩; refine ⟨_, rfl, ?_⟩))
       go_ret
       exact ⟨by first | rfl | (simp; done) | (simp [*]; done), by repeat (first | exact Drawn0.refl _ | apply Drawn0.step)⟩
     ·rw [if_neg c6] at H
      exact absurd H (by simp)
    ·rw [if_neg c5] at H
     exact absurd H (by simp)
   ·rw [if_neg c4] at H
    have c4b0 : decide (x11_1 < (l0.length : Int)) = false := decide_eq_false c4
    clear c4
    obtain rfl := Option.some.inj H
    go_wp2
    go_ret
    exact ⟨by first | rfl | (simp; done) | (simp [*]; done), by repeat (first | exact Drawn0.refl _ | apply Drawn0.step)⟩

end Go.Proofs.Ytgpoljimomfbbaa.P

-- PFspechuGood
namespace Go.Proofs.Ytgpoljimomfbbaa.P
open Go.RowKit Go.Proofs.YtgpoljimomfbbaaW.PrintWords Go.Proofs.YtgpoljimomfbbaaW.PrintLast
set_option linter.unusedVariables false
set_option linter.unusedSimpArgs false

/-! ### spec_huGood: function 48 -/
mutual
def spec_huGood.j0 : Nat → List Int → Int → Int → Bool → Option (Bool)
 | 0, _, _, _, _ => none
 | k + 1, x0, x1, x2, x16 => if x16 = true then (some false) else (spec_huGood.l0 k x0 x1 x2 1)
def spec_huGood.l0 : Nat → List Int → Int → Int → Int → Option (Bool)
 | 0, _, _, _, _ => none
 | k + 1, x0, x1, x2, x7 => if x7 < (x0.length : Int) then (if 0 ≤ x7 then (if 0 ≤ (wrap64 (x7 - 1)) then (if (wrap64 (x7 - 1)) < (x0.length : Int) then (if (rd x0 x7) > (rd x0 (wrap64 (x7 - 1))) then (some false) else (spec_huGood.l0 k x0 x1 x2 (wrap64 (x7 + 1)))) else (none)) else (none)) else (none)) else ((spec_huSquares.f k x0).bind fun t112 => ((spec_huProduct.f k x0 x1).bind fun t113 => (some (t112 == (wrap64 (t113 + x2))))))
end
def spec_huGood.f (k : Nat) (l0 : List Int) (a1 : Int) (a2 : Int) : Option (Bool) := (spec_l1In.f (l0.length : Int) 3 4).bind fun t108 => (if t108 = true then ((spec_l1All.f k l0 1 100000).bind fun t109 => (spec_huGood.j0 k l0 a1 a2 (!t109))) else (spec_huGood.j0 k l0 a1 a2 true))
theorem spec_huGood.mono_l : ∀ k, (∀ y0 y1 y2 y3, LeO (spec_huGood.j0 k y0 y1 y2 y3) (spec_huGood.j0 (k + 1) y0 y1 y2 y3)) ∧ (∀ y0 y1 y2 y3, LeO (spec_huGood.l0 k y0 y1 y2 y3) (spec_huGood.l0 (k + 1) y0 y1 y2 y3))
 | 0 => ⟨fun _ _ _ _ r h => by simp [spec_huGood.j0] at h, fun _ _ _ _ r h => by simp [spec_huGood.l0] at h⟩
 | k + 1 => by
  obtain ⟨ih0, ih1⟩ := spec_huGood.mono_l k
  refine ⟨?_, ?_⟩
  ·intro y0 y1 y2 y3
   unfold spec_huGood.j0
   repeat' first
   | (with_reducible exact ih0 _ _ _ _)
   | (with_reducible exact ih1 _ _ _ _)
   | (with_reducible exact spec_huProduct.mono _ _ _)
   | (with_reducible exact spec_huSquares.mono _ _)
   | (with_reducible exact spec_l1All.mono _ _ _ _)
   | (with_reducible exact LeO.refl _)
   | (with_reducible exact LeO.none _)
   | (with_reducible refine LeO.ite ?_ ?_)
   | (with_reducible refine LeO.bind ?_ (fun _ => ?_))
   | exact ih0 _ _ _ _
   | exact ih1 _ _ _ _
   | exact spec_huProduct.mono _ _ _
   | exact spec_huSquares.mono _ _
   | exact spec_l1All.mono _ _ _ _
   | exact LeO.none _
   | refine LeO.ite ?_ ?_
   | refine LeO.bind ?_ (fun _ => ?_)
  ·intro y0 y1 y2 y3
   unfold spec_huGood.l0
   repeat' first
   | (with_reducible exact ih0 _ _ _ _)
   | (with_reducible exact ih1 _ _ _ _)
   | (with_reducible exact spec_huProduct.mono _ _ _)
   | (with_reducible exact spec_huSquares.mono _ _)
   | (with_reducible exact spec_l1All.mono _ _ _ _)
   | (with_reducible exact LeO.refl _)
   | (with_reducible exact LeO.none _)
   | (with_reducible refine LeO.ite ?_ ?_)
   | (with_reducible refine LeO.bind ?_ (fun _ => ?_))
   | exact ih0 _ _ _ _
   | exact ih1 _ _ _ _
   | exact spec_huProduct.mono _ _ _
   | exact spec_huSquares.mono _ _
   | exact spec_l1All.mono _ _ _ _
   | exact LeO.none _
   | refine LeO.ite ?_ ?_
   | refine LeO.bind ?_ (fun _ => ?_)
theorem spec_huGood.mono : ∀ a0 a1 a2 k, LeO (spec_huGood.f k a0 a1 a2) (spec_huGood.f (k + 1) a0 a1 a2) := by
 intro a0 a1 a2 k
 obtain ⟨ih0, ih1⟩ := spec_huGood.mono_l k
 unfold spec_huGood.f
 repeat' first
   | (with_reducible exact ih0 _ _ _ _)
   | (with_reducible exact ih1 _ _ _ _)
   | (with_reducible exact spec_huProduct.mono _ _ _)
   | (with_reducible exact spec_huSquares.mono _ _)
   | (with_reducible exact spec_l1All.mono _ _ _ _)
   | (with_reducible exact LeO.refl _)
   | (with_reducible exact LeO.none _)
   | (with_reducible refine LeO.ite ?_ ?_)
   | (with_reducible refine LeO.bind ?_ (fun _ => ?_))
   | exact ih0 _ _ _ _
   | exact ih1 _ _ _ _
   | exact spec_huProduct.mono _ _ _
   | exact spec_huSquares.mono _ _
   | exact spec_l1All.mono _ _ _ _
   | exact LeO.none _
   | refine LeO.ite ?_ ?_
   | refine LeO.bind ?_ (fun _ => ?_)
set_option maxHeartbeats 8000000 in
set_option maxRecDepth 100000 in
theorem spec_huGood.calls (k : Nat) (A0 : Option Addr) (c0 : Nat) (l0 : List Int) (a1 : Int) (a2 : Int) (r : Bool) (w : World) (hr0 : Kd.C (Kd.int .i64) w A0 l0.length l0) (hc0 : l0.length ≤ c0) (h : spec_huGood.f k l0 a1 a2 = some r) :
  Calls Try.prog 48 #[.slice A0 l0.length c0, .int .i64 a1, .int .i64 a2] w fun e w' => e = .returned (.bool r) ∧ Drawn0 w w' := by
 have HR0 := Aside0.mk hr0
 have HC0 := Aside0.mk hc0
 clear hr0 hc0
 have H : ((spec_l1In.f (l0.length : Int) 3 4).bind fun t108 => (if t108 = true then ((spec_l1All.f k l0 1 100000).bind fun t109 => (spec_huGood.j0 k l0 a1 a2 (!t109))) else (spec_huGood.j0 k l0 a1 a2 true))) = some r := h
 clear h
 have HC4 := Aside0.mk H
 clear H
 go_enter Try.func48, Try.ntmps48
 go_upto_region 1 with (fail)
 repeat (go_quiet (fail); go_upto_region 1 with (fail))
 go_cut [16] (fun v16 wc => ∃ (kq : Nat) (x16_3 : Bool), v16 = .bool x16_3 ∧ Aside0 (spec_huGood.j0 kq l0 a1 a2 x16_3 = some r) ∧ Aside0 (kq ≤ k) ∧ Drawn0 w wc)
 case first =>
  have H := HC4.out
  clear HC4
  replace H := Option.bind_eq_some_iff.mp H
  obtain ⟨t108, A50, H⟩ := H
  replace H : (if t108 = true then ((spec_l1All.f k l0 1 100000).bind fun t109 => (spec_huGood.j0 k l0 a1 a2 (!t109))) else (spec_huGood.j0 k l0 a1 a2 true)) = some r := H
  have A5 := Aside0.mk A50
  clear A50
  by_cases c6 : t108 = true
  ·subst c6
   have H1 : ((spec_l1All.f k l0 1 100000).bind fun t109 => (spec_huGood.j0 k l0 a1 a2 (!t109))) = some r := by rw [if_pos rfl] at H; exact H
   clear H
   have H := H1
   clear H1
   replace H := Option.bind_eq_some_iff.mp H
   obtain ⟨t109, A70, H⟩ := H
   replace H : (spec_huGood.j0 k l0 a1 a2 (!t109)) = some r := H
   have A7 := Aside0.mk A70
   clear A70
   have H' := Aside0.mk H
   clear H
   go_wp2_with (first | (go_at_call 54; (with_reducible refine (spec_l1In.calls (l0.length : Int) 3 4 true _ A5.out).mono ?_); rintro e w' ⟨rfl, ⟨nd, rfl⟩⟩; (try first | exact ⟨rfl, _, World.drewN_drewN _ _ _⟩ | exact ⟨rfl, _, Eq.trans (World.drewN_drewN _ _ _) (congrArg (World.drewN _) (Nat.add_assoc _ _ _))⟩)) | (go_at_call 87; (with_reducible refine (spec_l1All.calls k _ _ l0 1 100000 t109 _ ?side1 ?side2 A7.out).mono ?_); (case side1 => repeat (first | exact HR0.out | (with_reducible refine Kd.C_alloc ?_ _) | (with_reducible refine Kd.C_drewN ?_ _) | (with_reducible refine Kd.C_drew ?_))); (case side2 => exact HC0.out); rintro e w' ⟨rfl, ⟨nd, rfl⟩⟩; (try first | exact ⟨rfl, _, World.drewN_drewN _ _ _⟩ | exact ⟨rfl, _, Eq.trans (World.drewN_drewN _ _ _) (congrArg (World.drewN _) (Nat.add_assoc _ _ _))⟩)))
   repeat (go_quiet (first | (go_at_call 54; (with_reducible refine (spec_l1In.calls (l0.length : Int) 3 4 true _ A5.out).mono ?_); rintro e w' ⟨rfl, ⟨nd, rfl⟩⟩; (try first | exact ⟨rfl, _, World.drewN_drewN _ _ _⟩ | exact ⟨rfl, _, Eq.trans (World.drewN_drewN _ _ _) (congrArg (World.drewN _) (Nat.add_assoc _ _ _))⟩)) | (go_at_call 87; (with_reducible refine (spec_l1All.calls k _ _ l0 1 100000 t109 _ ?side1 ?side2 A7.out).mono ?_); (case side1 => repeat (first | exact HR0.out | (with_reducible refine Kd.C_alloc ?_ _) | (with_reducible refine Kd.C_drewN ?_ _) | (with_reducible refine Kd.C_drew ?_))); (case side2 => exact HC0.out); rintro e w' ⟨rfl, ⟨nd, rfl⟩⟩; (try first | exact ⟨rfl, _, World.drewN_drewN _ _ _⟩ | exact ⟨rfl, _, Eq.trans (World.drewN_drewN _ _ _) (congrArg (World.drewN _) (Nat.add_assoc _ _ _))⟩))); try go_wp2_with (first | (go_at_call 54; (with_reducible refine (spec_l1In.calls (l0.length : Int) 3 4 true _ A5.out).mono ?_); rintro e w' ⟨rfl, ⟨nd, rfl⟩⟩; (try first | exact ⟨rfl, _, World.drewN_drewN _ _ _⟩ | exact ⟨rfl, _, Eq.trans (World.drewN_drewN _ _ _) (congrArg (World.drewN _) (Nat.add_assoc _ _ _))⟩)) | (go_at_call 87; (with_reducible refine (spec_l1All.calls k _ _ l0 1 100000 t109 _ ?side1 ?side2 A7.out).mono ?_); (case side1 => repeat (first | exact HR0.out | (with_reducible refine Kd.C_alloc ?_ _) | (with_reducible refine Kd.C_drewN ?_ _) | (with_reducible refine Kd.C_drew ?_))); (case side2 => exact HC0.out); rintro e w' ⟨rfl, ⟨nd, rfl⟩⟩; (try first | exact ⟨rfl, _, World.drewN_drewN _ _ _⟩ | exact ⟨rfl, _, Eq.trans (World.drewN_drewN _ _ _) (congrArg (World.drewN _) (Nat.add_assoc _ _ _))⟩))))
   go_meet
   case rel => exact ⟨_, (!t109), (by first | rfl | (simp; done) | (simp [*]; done)), H', ⟨by first | omega | exact Nat.le_refl _⟩, by repeat (first | exact Drawn0.refl _ | apply Drawn0.step)⟩
  ·replace c6 := Bool.eq_false_iff.mpr c6
   subst c6
   have H1 : (spec_huGood.j0 k l0 a1 a2 true) = some r := by rw [if_neg (show ¬ (false = true) by decide)] at H; exact H
   clear H
   have H := H1
   clear H1
   have H' := Aside0.mk H
   clear H
   go_wp2_with (first | (go_at_call 54; (with_reducible refine (spec_l1In.calls (l0.length : Int) 3 4 false _ A5.out).mono ?_); rintro e w' ⟨rfl, ⟨nd, rfl⟩⟩; (try first | exact ⟨rfl, _, World.drewN_drewN _ _ _⟩ | exact ⟨rfl, _, Eq.trans (World.drewN_drewN _ _ _) (congrArg (World.drewN _) (Nat.add_assoc _ _ _))⟩)))
   repeat (go_quiet (first | (go_at_call 54; (with_reducible refine (spec_l1In.calls (l0.length : Int) 3 4 false _ A5.out).mono ?_); rintro e w' ⟨rfl, ⟨nd, rfl⟩⟩; (try first | exact ⟨rfl, _, World.drewN_drewN _ _ _⟩ | exact ⟨rfl, _, Eq.trans (World.drewN_drewN _ _ _) (congrArg (World.drewN _) (Nat.add_assoc _ _ _))⟩))); try go_wp2_with (first | (go_at_call 54; (with_reducible refine (spec_l1In.calls (l0.length : Int) 3 4 false _ A5.out).mono ?_); rintro e w' ⟨rfl, ⟨nd, rfl⟩⟩; (try first | exact ⟨rfl, _, World.drewN_drewN _ _ _⟩ | exact ⟨rfl, _, Eq.trans (World.drewN_drewN _ _ _) (congrArg (World.drewN _) (Nat.add_assoc _ _ _))⟩))))
   go_meet
   case rel => exact ⟨_, (true), (by first | rfl | (simp; done) | (simp [*]; done)), H', ⟨by first | omega | exact Nat.le_refl _⟩, by repeat (first | exact Drawn0.refl _ | apply Drawn0.step)⟩
 case rest =>
  clear HC4
  try clear p2
  try clear c4
  try clear c6
  obtain ⟨kq, x16_3, rfl, HA, HJ3, ⟨mc3, rfl⟩⟩ := hcut
  cases kq with
  | zero => exact absurd HA.out (by simp [spec_huGood.j0])
  | succ kj3 =>
   have H := HA.out
   clear HA
   simp only [spec_huGood.j0] at H
   by_cases c8 : x16_3 = true
   ·subst c8
    have H1 : (some false) = some r := by rw [if_pos rfl] at H; exact H
    clear H
    have H := H1
    clear H1
    obtain rfl := Option.some.inj H
    go_wp2
    repeat (go_quiet (fail); try go_wp2)
    go_ret
    exact ⟨by first | rfl | (simp; done) | (simp [*]; done), by repeat (first | exact Drawn0.refl _ | apply Drawn0.step)⟩
   ·replace c8 := Bool.eq_false_iff.mpr c8
    subst c8
    have H1 : (spec_huGood.l0 kj3 l0 a1 a2 1) = some r := by rw [if_neg (show ¬ (false = true) by decide)] at H; exact H
    clear H
    have H := H1
    clear H1
    have H' := Aside0.mk H
    clear H
    go_wp2
    repeat (go_quiet (fail); try go_wp2)
    go_loopg [7] kj3 (fun kq v7 w' => ∃ (x7_2 : Int), v7 = .int .i64 x7_2 ∧ Aside0 (spec_huGood.l0 kq l0 a1 a2 x7_2 = some r) ∧ Aside0 (kq ≤ kj3) ∧ Drawn0 w w')
    case atStart => exact ⟨(1), (by first | rfl | (simp; done) | (simp [*]; done)), H', ⟨Nat.le_refl _⟩, by repeat (first | exact Drawn0.refl _ | apply Drawn0.step)⟩
    case round =>
     clear H'
     try clear p2
     try clear c3
     try clear c4
     try clear c6
     try clear c8
     try clear p2
     obtain ⟨x7_2, rfl, HA, HK2, ⟨m2, rfl⟩⟩ := hrel
     cases gk with
     | zero => exact absurd HA.out (by simp [spec_huGood.l0])
     | succ k2 =>
      have H := HA.out
      clear HA
      simp only [spec_huGood.l0] at H
      by_cases c9 : x7_2 < (l0.length : Int)
      ·rw [if_pos c9] at H
       have c9b0 : decide (x7_2 < (l0.length : Int)) = true := decide_eq_true c9
       clear c9
       by_cases c10 : 0 ≤ x7_2
       ·rw [if_pos c10] at H
        have c10b0 : decide (0 ≤ x7_2) = true := decide_eq_true c10
        clear c10
        obtain ⟨ji11, hji11⟩ : ∃ j_ : Int, (wrap64 (x7_2 - 1)) = j_ := ⟨_, rfl⟩
        replace H : (if 0 ≤ (ji11) then (if (ji11) < (l0.length : Int) then (if (rd l0 x7_2) > (rd l0 (ji11)) then (some false) else (spec_huGood.l0 k2 l0 a1 a2 (wrap64 (x7_2 + 1)))) else (none)) else (none)) = some r := by first | (rw [hji11] at H; exact H) | (simp only [hji11] at H ⊢; exact H)
        have hji11w : (IntKind.i64.wrap (x7_2 - 1)) = ji11 := (i64_w _).trans hji11
        by_cases c12 : 0 ≤ (ji11)
        ·rw [if_pos c12] at H
         have c12b0 : decide (0 ≤ (ji11)) = true := decide_eq_true c12
         clear c12
         by_cases c13 : (ji11) < (l0.length : Int)
         ·rw [if_pos c13] at H
          have c13b0 : decide ((ji11) < (l0.length : Int)) = true := decide_eq_true c13
          clear c13
          by_cases c14 : (rd l0 x7_2) > (rd l0 (ji11))
          ·rw [if_pos c14] at H
           have c14b0 : decide ((rd l0 (ji11)) < (rd l0 x7_2)) = true := decide_eq_true c14
           clear c14
           obtain rfl := Option.some.inj H
           have p110 : 0 ≤ (x7_2 : Int) := of_decide_eq_true (by first | (with_reducible assumption) | assumption)
           have q110 : x7_2 < (l0.length : Int) := of_decide_eq_true (by first | (with_reducible assumption) | assumption)
           obtain ⟨ad110, e110, hx110_0⟩ := Kd.at_int HR0.out x7_2 p110 q110
           cases e110
           replace p110 := eq_true p110
           replace q110 := eq_true q110
           have p111 : 0 ≤ ((ji11) : Int) := of_decide_eq_true (by first | (with_reducible assumption) | assumption)
           have q111 : (ji11) < (l0.length : Int) := of_decide_eq_true (by first | (with_reducible assumption) | assumption)
           obtain ⟨ad111, e111, hx111_0⟩ := Kd.at_int HR0.out (ji11) p111 q111
           obtain rfl : ad110 = ad111 := (by injection e111)
           replace p111 := eq_true p111
           replace q111 := eq_true q111
           go_wp2
           repeat (go_quiet (fail); try go_wp2)
           go_ret
           exact ⟨by first | rfl | (simp; done) | (simp only [← hji11] <;> (first | rfl | simp)) | (simp [*]; done), by repeat (first | exact Drawn0.refl _ | apply Drawn0.step)⟩
          ·rw [if_neg c14] at H
           have c14b0 : decide ((rd l0 (ji11)) < (rd l0 x7_2)) = false := decide_eq_false c14
           clear c14
           have H' := Aside0.mk H
           clear H
           have p110 : 0 ≤ (x7_2 : Int) := of_decide_eq_true (by first | (with_reducible assumption) | assumption)
           have q110 : x7_2 < (l0.length : Int) := of_decide_eq_true (by first | (with_reducible assumption) | assumption)
           obtain ⟨ad110, e110, hx110_0⟩ := Kd.at_int HR0.out x7_2 p110 q110
           cases e110
           replace p110 := eq_true p110
           replace q110 := eq_true q110
           have p111 : 0 ≤ ((ji11) : Int) := of_decide_eq_true (by first | (with_reducible assumption) | assumption)
           have q111 : (ji11) < (l0.length : Int) := of_decide_eq_true (by first | (with_reducible assumption) | assumption)
           obtain ⟨ad111, e111, hx111_0⟩ := Kd.at_int HR0.out (ji11) p111 q111
           obtain rfl : ad110 = ad111 := (by injection e111)
           replace p111 := eq_true p111
           replace q111 := eq_true q111
           go_wp2
           repeat (go_quiet (fail); try go_wp2)
           go_roundg k2
           case measure => have := HJ3.out; have := HK2.out; omega
           case rel => exact ⟨(wrap64 (x7_2 + 1)), (by first | rfl | (simp; done) | (simp [*]; done)), H', ⟨by have := HJ3.out; have := HK2.out; omega⟩, by repeat (first | exact Drawn0.refl _ | apply Drawn0.step)⟩
         ·rw [if_neg c13] at H
          exact absurd H (by simp)
        ·rw [if_neg c12] at H
         exact absurd H (by simp)
       ·rw [if_neg c10] at H
        exact absurd H (by simp)
      ·rw [if_neg c9] at H
       have c9b0 : decide (x7_2 < (l0.length : Int)) = false := decide_eq_false c9
       clear c9
       replace H := Option.bind_eq_some_iff.mp H
       obtain ⟨t112, A150, H⟩ := H
       replace H : ((spec_huProduct.f k2 l0 a1).bind fun t113 => (some (t112 == (wrap64 (t113 + a2))))) = some r := H
       have A15 := Aside0.mk A150
       clear A150
       replace H := Option.bind_eq_some_iff.mp H
       obtain ⟨t113, A160, H⟩ := H
       replace H : (some (t112 == (wrap64 (t113 + a2)))) = some r := H
       have A16 := Aside0.mk A160
       clear A160
       obtain rfl := Option.some.inj H
       go_wp2_with (first | (go_at_call 88; (with_reducible refine (spec_huSquares.calls k2 _ _ l0 t112 _ ?side1 ?side2 A15.out).mono ?_); (case side1 => repeat (first | exact HR0.out | (with_reducible refine Kd.C_alloc ?_ _) | (with_reducible refine Kd.C_drewN ?_ _) | (with_reducible refine Kd.C_drew ?_))); (case side2 => exact HC0.out); rintro e w' ⟨rfl, ⟨nd, rfl⟩⟩; (try first | exact ⟨rfl, _, World.drewN_drewN _ _ _⟩ | exact ⟨rfl, _, Eq.trans (World.drewN_drewN _ _ _) (congrArg (World.drewN _) (Nat.add_assoc _ _ _))⟩)) | (go_at_call 89; (with_reducible refine (spec_huProduct.calls k2 _ _ l0 a1 t113 _ ?side1 ?side2 A16.out).mono ?_); (case side1 => repeat (first | exact HR0.out | (with_reducible refine Kd.C_alloc ?_ _) | (with_reducible refine Kd.C_drewN ?_ _) | (with_reducible refine Kd.C_drew ?_))); (case side2 => exact HC0.out); rintro e w' ⟨rfl, ⟨nd, rfl⟩⟩; (try first | exact ⟨rfl, _, World.drewN_drewN _ _ _⟩ | exact ⟨rfl, _, Eq.trans (World.drewN_drewN _ _ _) (congrArg (World.drewN _) (Nat.add_assoc _ _ _))⟩)))
       repeat (go_quiet (first | (go_at_call 88; (with_reducible refine (spec_huSquares.calls k2 _ _ l0 t112 _ ?side1 ?side2 A15.out).mono ?_); (case side1 => repeat (first | exact HR0.out | (with_reducible refine Kd.C_alloc ?_ _) | (with_reducible refine Kd.C_drewN ?_ _) | (with_reducible refine Kd.C_drew ?_))); (case side2 => exact HC0.out); rintro e w' ⟨rfl, ⟨nd, rfl⟩⟩; (try first | exact ⟨rfl, _, World.drewN_drewN _ _ _⟩ | exact ⟨rfl, _, Eq.trans (World.drewN_drewN _ _ _) (congrArg (World.drewN _) (Nat.add_assoc _ _ _))⟩)) | (go_at_call 89; (with_reducible refine (spec_huProduct.calls k2 _ _ l0 a1 t113 _ ?side1 ?side2 A16.out).mono ?_); (case side1 => repeat (first | exact HR0.out | (with_reducible refine Kd.C_alloc ?_ _) | (with_reducible refine Kd.C_drewN ?_ _) | (with_reducible refine Kd.C_drew ?_))); (case side2 => exact HC0.out); rintro e w' ⟨rfl, ⟨nd, rfl⟩⟩; (try first | exact ⟨rfl, _, World.drewN_drewN _ _ _⟩ | exact ⟨rfl, _, Eq.trans (World.drewN_drewN _ _ _) (congrArg (World.drewN _) (Nat.add_assoc _ _ _))⟩))); try go_wp2_with (first | (go_at_call 88; (with_reducible refine (spec_huSquares.calls k2 _ _ l0 t112 _ ?side1 ?side2 A15.out).mono ?_); (case side1 => repeat (first | exact HR0.out | (with_reducible refine Kd.C_alloc ?_ _) | (with_reducible refine Kd.C_drewN ?_ _) | (with_reducible refine Kd.C_drew ?_))); (case side2 => exact HC0.out); rintro e w' ⟨rfl, ⟨nd, rfl⟩⟩; (try first | exact ⟨rfl, _, World.drewN_drewN _ _ _⟩ | exact ⟨rfl, _, Eq.trans (World.drewN_drewN _ _ _) (congrArg (World.drewN _) (Nat.add_assoc _ _ _))⟩)) | (go_at_call 89; (with_reducible refine (spec_huProduct.calls k2 _ _ l0 a1 t113 _ ?side1 ?side2 A16.out).mono ?_); (case side1 => repeat (first | exact HR0.out | (with_reducible refine Kd.C_alloc ?_ _) | (with_reducible refine Kd.C_drewN ?_ _) | (with_reducible refine Kd.C_drew ?_))); (case side2 => exact HC0.out); rintro e w' ⟨rfl, ⟨nd, rfl⟩⟩; (try first | exact ⟨rfl, _, World.drewN_drewN _ _ _⟩ | exact ⟨rfl, _, Eq.trans (World.drewN_drewN _ _ _) (congrArg (World.drewN _) (Nat.add_assoc _ _ _))⟩))))
       go_ret
       exact ⟨by first | rfl | (simp; done) | (simp [*]; done), by repeat (first | exact Drawn0.refl _ | apply Drawn0.step)⟩

end Go.Proofs.Ytgpoljimomfbbaa.P

-- PFslicesEqualintint
namespace Go.Proofs.Ytgpoljimomfbbaa.P
open Go.RowKit Go.Proofs.YtgpoljimomfbbaaW.PrintWords Go.Proofs.YtgpoljimomfbbaaW.PrintLast
set_option linter.unusedVariables false
set_option linter.unusedSimpArgs false

/-! ### slices_Equal_int_int: function 61 -/
def slices_Equal_int_int.l0 : Nat → List Int → List Int → Int → Int → Option (Bool)
 | 0, _, _, _, _ => none
 | k + 1, x0, x1, x12, x13 => if x13 < x12 then (if 0 ≤ x13 then (if x13 < (x0.length : Int) then (if x13 < (x1.length : Int) then (if (rd x0 x13) = (rd x1 x13) then (slices_Equal_int_int.l0 k x0 x1 x12 (wrap64 (x13 + 1))) else (some false)) else (none)) else (none)) else (none)) else (some true)
def slices_Equal_int_int.f (k : Nat) (l0 : List Int) (l1 : List Int) : Option (Bool) := if (l0.length : Int) = (l1.length : Int) then (slices_Equal_int_int.l0 k l0 l1 (l0.length : Int) 0) else (some false)
theorem slices_Equal_int_int.mono_l : ∀ k, (∀ y0 y1 y2 y3, LeO (slices_Equal_int_int.l0 k y0 y1 y2 y3) (slices_Equal_int_int.l0 (k + 1) y0 y1 y2 y3))
 | 0 => fun _ _ _ _ r h => by simp [slices_Equal_int_int.l0] at h
 | k + 1 => by
  have ih0 := slices_Equal_int_int.mono_l k
  ·intro y0 y1 y2 y3
   unfold slices_Equal_int_int.l0
   repeat' first
   | (with_reducible exact ih0 _ _ _ _)
   | (with_reducible exact LeO.refl _)
   | (with_reducible exact LeO.none _)
   | (with_reducible refine LeO.ite ?_ ?_)
   | (with_reducible refine LeO.bind ?_ (fun _ => ?_))
   | exact ih0 _ _ _ _
   | exact LeO.none _
   | refine LeO.ite ?_ ?_
   | refine LeO.bind ?_ (fun _ => ?_)
theorem slices_Equal_int_int.mono : ∀ a0 a1 k, LeO (slices_Equal_int_int.f k a0 a1) (slices_Equal_int_int.f (k + 1) a0 a1) := by
 intro a0 a1 k
 have ih0 := slices_Equal_int_int.mono_l k
 unfold slices_Equal_int_int.f
 repeat' first
   | (with_reducible exact ih0 _ _ _ _)
   | (with_reducible exact LeO.refl _)
   | (with_reducible exact LeO.none _)
   | (with_reducible refine LeO.ite ?_ ?_)
   | (with_reducible refine LeO.bind ?_ (fun _ => ?_))
   | exact ih0 _ _ _ _
   | exact LeO.none _
   | refine LeO.ite ?_ ?_
   | refine LeO.bind ?_ (fun _ => ?_)
set_option maxHeartbeats 8000000 in
set_option maxRecDepth 100000 in
theorem slices_Equal_int_int.calls (k : Nat) (A0 : Option Addr) (c0 : Nat) (l0 : List Int) (A1 : Option Addr) (c1 : Nat) (l1 : List Int) (r : Bool) (w : World) (hr0 : Kd.C (Kd.int .i64) w A0 l0.length l0) (hc0 : l0.length ≤ c0) (hr1 : Kd.C (Kd.int .i64) w A1 l1.length l1) (hc1 : l1.length ≤ c1) (h : slices_Equal_int_int.f k l0 l1 = some r) :
  Calls Try.prog 61 #[.slice A0 l0.length c0, .slice A1 l1.length c1] w fun e w' => e = .returned (.bool r) ∧ Drawn0 w w' := by
 have HR0 := Aside0.mk hr0
 have HC0 := Aside0.mk hc0
 clear hr0 hc0
 have HR1 := Aside0.mk hr1
 have HC1 := Aside0.mk hc1
 clear hr1 hc1
 have H : (if (l0.length : Int) = (l1.length : Int) then (slices_Equal_int_int.l0 k l0 l1 (l0.length : Int) 0) else (some false)) = some r := h
 clear h
 by_cases c3 : (l0.length : Int) = (l1.length : Int)
 ·rw [if_pos c3] at H
  have c3b0 : ((l0.length : Int) == (l1.length : Int)) = true := beq_iff_eq.mpr c3
  have c3b1 : ((l0.length : Int) != (l1.length : Int)) = false := bne_eq_false_iff_eq.mpr c3
  have c3b2 : (l0.length == l1.length) = true := by first | simpa using c3 | (simp at c3 ⊢; omega)
  clear c3
  have H' := Aside0.mk H
  clear H
  go_enter Try.func61, Try.ntmps61
  go_wp2
  repeat (go_quiet (fail); try go_wp2)
  go_loopg [13] k (fun kq v13 w' => ∃ (x13_1 : Int), v13 = .int .i64 x13_1 ∧ Aside0 (slices_Equal_int_int.l0 kq l0 l1 (l0.length : Int) x13_1 = some r) ∧ Aside0 (kq ≤ k) ∧ Drawn0 w w')
  case atStart => exact ⟨(0), (by first | rfl | (simp; done) | (simp [*]; done)), H', ⟨Nat.le_refl _⟩, by repeat (first | exact Drawn0.refl _ | apply Drawn0.step)⟩
  case round =>
   clear H'
   try clear c1
   try clear p2
   try clear c3
   try clear c3b0
   try clear c3b1
   try clear c3b2
   obtain ⟨x13_1, rfl, HA, HK1, ⟨m1, rfl⟩⟩ := hrel
   cases gk with
   | zero => exact absurd HA.out (by simp [slices_Equal_int_int.l0])
   | succ k1 =>
    have H := HA.out
    clear HA
    simp only [slices_Equal_int_int.l0] at H
    by_cases c4 : x13_1 < (l0.length : Int)
    ·rw [if_pos c4] at H
     have c4b0 : decide (x13_1 < (l0.length : Int)) = true := decide_eq_true c4
     clear c4
     by_cases c5 : 0 ≤ x13_1
     ·rw [if_pos c5] at H
      have c5b0 : decide (0 ≤ x13_1) = true := decide_eq_true c5
      clear c5
      by_cases c6 : x13_1 < (l0.length : Int)
      ·rw [if_pos c6] at H
       have c6b0 : decide (x13_1 < (l0.length : Int)) = true := decide_eq_true c6
       clear c6
       by_cases c7 : x13_1 < (l1.length : Int)
       ·rw [if_pos c7] at H
        have c7b0 : decide (x13_1 < (l1.length : Int)) = true := decide_eq_true c7
        clear c7
        by_cases c8 : (rd l0 x13_1) = (rd l1 x13_1)
        ·rw [if_pos c8] at H
         have c8b0 : ((rd l0 x13_1) == (rd l1 x13_1)) = true := beq_iff_eq.mpr c8
         have c8b1 : ((rd l0 x13_1) != (rd l1 x13_1)) = false := bne_eq_false_iff_eq.mpr c8
         clear c8
         have H' := Aside0.mk H
         clear H
         have p256 : 0 ≤ (x13_1 : Int) := of_decide_eq_true (by first | (with_reducible assumption) | assumption)
         have q256 : x13_1 < (l0.length : Int) := of_decide_eq_true (by first | (with_reducible assumption) | assumption)
         obtain ⟨ad256, e256, hx256_0⟩ := Kd.at_int HR0.out x13_1 p256 q256
         cases e256
         replace p256 := eq_true p256
         replace q256 := eq_true q256
         have p257 : 0 ≤ (x13_1 : Int) := of_decide_eq_true (by first | (with_reducible assumption) | assumption)
         have q257 : x13_1 < (l1.length : Int) := of_decide_eq_true (by first | (with_reducible assumption) | assumption)
         obtain ⟨ad257, e257, hx257_0⟩ := Kd.at_int HR1.out x13_1 p257 q257
         cases e257
         replace p257 := eq_true p257
         replace q257 := eq_true q257
         go_wp2
         repeat (go_quiet (fail); try go_wp2)
         go_roundg k1
         case measure => have := HK1.out; omega
         case rel => exact ⟨(wrap64 (x13_1 + 1)), (by first | rfl | (simp; done) | (simp [*]; done)), H', ⟨by have := HK1.out; omega⟩, by repeat (first | exact Drawn0.refl _ | apply Drawn0.step)⟩
        ·rw [if_neg c8] at H
         have c8b0 : ((rd l0 x13_1) == (rd l1 x13_1)) = false := beq_eq_false_iff_ne.mpr c8
         have c8b1 : ((rd l0 x13_1) != (rd l1 x13_1)) = true := bne_iff_ne.mpr c8
         obtain rfl := Option.some.inj H
         have p256 : 0 ≤ (x13_1 : Int) := of_decide_eq_true (by first | (with_reducible assumption) | assumption)
         have q256 : x13_1 < (l0.length : Int) := of_decide_eq_true (by first | (with_reducible assumption) | assumption)
         obtain ⟨ad256, e256, hx256_0⟩ := Kd.at_int HR0.out x13_1 p256 q256
         cases e256
         replace p256 := eq_true p256
         replace q256 := eq_true q256
         have p257 : 0 ≤ (x13_1 : Int) := of_decide_eq_true (by first | (with_reducible assumption) | assumption)
         have q257 : x13_1 < (l1.length : Int) := of_decide_eq_true (by first | (with_reducible assumption) | assumption)
         obtain ⟨ad257, e257, hx257_0⟩ := Kd.at_int HR1.out x13_1 p257 q257
         cases e257
         replace p257 := eq_true p257
         replace q257 := eq_true q257
         go_wp2
         repeat (go_quiet (fail); try go_wp2)
         go_ret
         exact ⟨by first | rfl | (simp; done) | (simp [*]; done), by repeat (first | exact Drawn0.refl _ | apply Drawn0.step)⟩
       ·rw [if_neg c7] at H
        exact absurd H (by simp)
      ·rw [if_neg c6] at H
       exact absurd H (by simp)
     ·rw [if_neg c5] at H
      exact absurd H (by simp)
    ·rw [if_neg c4] at H
     have c4b0 : decide (x13_1 < (l0.length : Int)) = false := decide_eq_false c4
     clear c4
     obtain rfl := Option.some.inj H
     go_wp2
     repeat (go_quiet (fail); try go_wp2)
     go_ret
     exact ⟨by first | rfl | (simp; done) | (simp [*]; done), by repeat (first | exact Drawn0.refl _ | apply Drawn0.step)⟩
 ·rw [if_neg c3] at H
  have c3b0 : ((l0.length : Int) == (l1.length : Int)) = false := beq_eq_false_iff_ne.mpr c3
  have c3b1 : ((l0.length : Int) != (l1.length : Int)) = true := bne_iff_ne.mpr c3
  have c3b2 : (l0.length == l1.length) = false := by first | simpa using c3 | (simp at c3 ⊢; omega)
  obtain rfl := Option.some.inj H
  go_enter Try.func61, Try.ntmps61
  go_wp2
  repeat (go_quiet (fail); try go_wp2)
  go_ret
  exact ⟨by first | rfl | (simp; done) | (simp [*]; done), by repeat (first | exact Drawn0.refl _ | apply Drawn0.step)⟩

/-- THE ONE PURE STATEMENT of slices_Equal_int_int: yours. -/
def slices_Equal_int_int.Pure : Prop := ∀ (l0 : List Int) (l1 : List Int), l0.length ≤ maxLen → l0.length * 8 ≤ 140737488351232 → (∀ x ∈ l0, (Lit.int .i64 x).wf = true) → l1.length ≤ maxLen → l1.length * 8 ≤ 140737488351232 → (∀ x ∈ l1, (Lit.int .i64 x).wf = true) → ∃ k, slices_Equal_int_int.f k l0 l1 = some true
theorem slices_Equal_int_int.walk (P : slices_Equal_int_int.Pure) (a0 : Option Addr) (len0 cap0 : Nat) (z0 : List Int) (a1 : Option Addr) (len1 cap1 : Nat) (z1 : List Int) (w : World) (w0 : (a0 = none ∧ len0 = 0 ∧ cap0 = 0 ∧ z0 = []) ∨ ∃ x, a0 = some x ∧ len0 ≤ cap0 ∧ cap0 ≤ maxLen ∧ z0.length = cap0 ∧ (∀ i, i < z0.length → w.cell? (x.add i) = some (.int .i64 (z0.getD i 0))) ∧ ∀ n ∈ z0, (Lit.int .i64 n).wf = true) (y0 : len0 * 8 ≤ 140737488351232) (w1 : (a1 = none ∧ len1 = 0 ∧ cap1 = 0 ∧ z1 = []) ∨ ∃ x, a1 = some x ∧ len1 ≤ cap1 ∧ cap1 ≤ maxLen ∧ z1.length = cap1 ∧ (∀ i, i < z1.length → w.cell? (x.add i) = some (.int .i64 (z1.getD i 0))) ∧ ∀ n ∈ z1, (Lit.int .i64 n).wf = true) (y1 : len1 * 8 ≤ 140737488351232) :
  Calls Try.prog 61 #[.slice a0 len0 cap0, .slice a1 len1 cap1] w fun e w' => e = .returned (.bool true) ∧ Below w.heap.size w w' := by
 obtain ⟨l0, rfl, hr0, hm0, hw0, hc0⟩ := ReadsInt.ofRowC w0
 obtain ⟨l1, rfl, hr1, hm1, hw1, hc1⟩ := ReadsInt.ofRowC w1
 obtain ⟨k, h⟩ := P l0 l1 hm0 y0 hw0 hm1 y1 hw1
 refine (slices_Equal_int_int.calls k _ _ l0 _ _ l1 true w (Kd.C_of_reads (d := (0 : Int)) (h1 := fun _ => rfl) hr0) hc0 (Kd.C_of_reads (d := (0 : Int)) (h1 := fun _ => rfl) hr1) hc1 h).mono ?_
 rintro e w' ⟨rfl, hd⟩
 exact ⟨rfl, hd.below⟩

end Go.Proofs.Ytgpoljimomfbbaa.P

-- PFspecl1Same
namespace Go.Proofs.Ytgpoljimomfbbaa.P
open Go.RowKit Go.Proofs.YtgpoljimomfbbaaW.PrintWords Go.Proofs.YtgpoljimomfbbaaW.PrintLast
set_option linter.unusedVariables false
set_option linter.unusedSimpArgs false

/-! ### spec_l1Same: function 79 -/
def spec_l1Same.l0 : Nat → List Int → List Int → Int → Int → Option (Bool)
 | 0, _, _, _, _ => none
 | k + 1, x0, x1, x12, x13 => if x13 < x12 then (if 0 ≤ x13 then (if x13 < (x0.length : Int) then (if x13 < (x1.length : Int) then (if (rd x0 x13) = (rd x1 x13) then (spec_l1Same.l0 k x0 x1 x12 (wrap64 (x13 + 1))) else (some false)) else (none)) else (none)) else (none)) else (some true)
def spec_l1Same.f (k : Nat) (l0 : List Int) (l1 : List Int) : Option (Bool) := if (l0.length : Int) = (l1.length : Int) then (spec_l1Same.l0 k l0 l1 (l0.length : Int) 0) else (some false)
theorem spec_l1Same.mono_l : ∀ k, (∀ y0 y1 y2 y3, LeO (spec_l1Same.l0 k y0 y1 y2 y3) (spec_l1Same.l0 (k + 1) y0 y1 y2 y3))
 | 0 => fun _ _ _ _ r h => by simp [spec_l1Same.l0] at h
 | k + 1 => by
  have ih0 := spec_l1Same.mono_l k
  ·intro y0 y1 y2 y3
   unfold spec_l1Same.l0
   repeat' first
   | (with_reducible exact ih0 _ _ _ _)
   | (with_reducible exact LeO.refl _)
   | (with_reducible exact LeO.none _)
   | (with_reducible refine LeO.ite ?_ ?_)
   | (with_reducible refine LeO.bind ?_ (fun _ => ?_))
   | exact ih0 _ _ _ _
   | exact LeO.none _
   | refine LeO.ite ?_ ?_
   | refine LeO.bind ?_ (fun _ => ?_)
theorem spec_l1Same.mono : ∀ a0 a1 k, LeO (spec_l1Same.f k a0 a1) (spec_l1Same.f (k + 1) a0 a1) := by
 intro a0 a1 k
 have ih0 := spec_l1Same.mono_l k
 unfold spec_l1Same.f
 repeat' first
   | (with_reducible exact ih0 _ _ _ _)
   | (with_reducible exact LeO.refl _)
   | (with_reducible exact LeO.none _)
   | (with_reducible refine LeO.ite ?_ ?_)
   | (with_reducible refine LeO.bind ?_ (fun _ => ?_))
   | exact ih0 _ _ _ _
   | exact LeO.none _
   | refine LeO.ite ?_ ?_
   | refine LeO.bind ?_ (fun _ => ?_)
set_option maxHeartbeats 8000000 in
set_option maxRecDepth 100000 in
theorem spec_l1Same.calls (k : Nat) (A0 : Option Addr) (c0 : Nat) (l0 : List Int) (A1 : Option Addr) (c1 : Nat) (l1 : List Int) (r : Bool) (w : World) (hr0 : Kd.C (Kd.int .i64) w A0 l0.length l0) (hc0 : l0.length ≤ c0) (hr1 : Kd.C (Kd.int .i64) w A1 l1.length l1) (hc1 : l1.length ≤ c1) (h : spec_l1Same.f k l0 l1 = some r) :
  Calls Try.prog 79 #[.slice A0 l0.length c0, .slice A1 l1.length c1] w fun e w' => e = .returned (.bool r) ∧ Drawn0 w w' := by
 have HR0 := Aside0.mk hr0
 have HC0 := Aside0.mk hc0
 clear hr0 hc0
 have HR1 := Aside0.mk hr1
 have HC1 := Aside0.mk hc1
 clear hr1 hc1
 have H : (if (l0.length : Int) = (l1.length : Int) then (spec_l1Same.l0 k l0 l1 (l0.length : Int) 0) else (some false)) = some r := h
 clear h
 by_cases c3 : (l0.length : Int) = (l1.length : Int)
 ·rw [if_pos c3] at H
  have c3b0 : ((l0.length : Int) == (l1.length : Int)) = true := beq_iff_eq.mpr c3
  have c3b1 : ((l0.length : Int) != (l1.length : Int)) = false := bne_eq_false_iff_eq.mpr c3
  have c3b2 : (l0.length == l1.length) = true := by first | simpa using c3 | (simp at c3 ⊢; omega)
  clear c3
  have H' := Aside0.mk H
  clear H
  go_enter Try.func79, Try.ntmps79
  go_wp2
  repeat (go_quiet (fail); try go_wp2)
  go_loopg [13] k (fun kq v13 w' => ∃ (x13_1 : Int), v13 = .int .i64 x13_1 ∧ Aside0 (spec_l1Same.l0 kq l0 l1 (l0.length : Int) x13_1 = some r) ∧ Aside0 (kq ≤ k) ∧ Drawn0 w w')
  case atStart => exact ⟨(0), (by first | rfl | (simp; done) | (simp [*]; done)), H', ⟨Nat.le_refl _⟩, by repeat (first | exact Drawn0.refl _ | apply Drawn0.step)⟩
  case round =>
   clear H'
   try clear c1
   try clear p2
   try clear c3
   try clear c3b0
   try clear c3b1
   try clear c3b2
   obtain ⟨x13_1, rfl, HA, HK1, ⟨m1, rfl⟩⟩ := hrel
   cases gk with
   | zero => exact absurd HA.out (by simp [spec_l1Same.l0])
   | succ k1 =>
    have H := HA.out
    clear HA
    simp only [spec_l1Same.l0] at H
    by_cases c4 : x13_1 < (l0.length : Int)
    ·rw [if_pos c4] at H
     have c4b0 : decide (x13_1 < (l0.length : Int)) = true := decide_eq_true c4
     clear c4
     by_cases c5 : 0 ≤ x13_1
     ·rw [if_pos c5] at H
      have c5b0 : decide (0 ≤ x13_1) = true := decide_eq_true c5
      clear c5
      by_cases c6 : x13_1 < (l0.length : Int)
      ·rw [if_pos c6] at H
       have c6b0 : decide (x13_1 < (l0.length : Int)) = true := decide_eq_true c6
       clear c6
       by_cases c7 : x13_1 < (l1.length : Int)
       ·rw [if_pos c7] at H
        have c7b0 : decide (x13_1 < (l1.length : Int)) = true := decide_eq_true c7
        clear c7
        by_cases c8 : (rd l0 x13_1) = (rd l1 x13_1)
        ·rw [if_pos c8] at H
         have c8b0 : ((rd l0 x13_1) == (rd l1 x13_1)) = true := beq_iff_eq.mpr c8
         have c8b1 : ((rd l0 x13_1) != (rd l1 x13_1)) = false := bne_eq_false_iff_eq.mpr c8
         clear c8
         have H' := Aside0.mk H
         clear H
         have p114 : 0 ≤ (x13_1 : Int) := of_decide_eq_true (by first | (with_reducible assumption) | assumption)
         have q114 : x13_1 < (l0.length : Int) := of_decide_eq_true (by first | (with_reducible assumption) | assumption)
         obtain ⟨ad114, e114, hx114_0⟩ := Kd.at_int HR0.out x13_1 p114 q114
         cases e114
         replace p114 := eq_true p114
         replace q114 := eq_true q114
         have p115 : 0 ≤ (x13_1 : Int) := of_decide_eq_true (by first | (with_reducible assumption) | assumption)
         have q115 : x13_1 < (l1.length : Int) := of_decide_eq_true (by first | (with_reducible assumption) | assumption)
         obtain ⟨ad115, e115, hx115_0⟩ := Kd.at_int HR1.out x13_1 p115 q115
         cases e115
         replace p115 := eq_true p115
         replace q115 := eq_true q115
         go_wp2
         repeat (go_quiet (fail); try go_wp2)
         go_roundg k1
         case measure => have := HK1.out; omega
         case rel => exact ⟨(wrap64 (x13_1 + 1)), (by first | rfl | (simp; done) | (simp [*]; done)), H', ⟨by have := HK1.out; omega⟩, by repeat (first | exact Drawn0.refl _ | apply Drawn0.step)⟩
        ·rw [if_neg c8] at H
         have c8b0 : ((rd l0 x13_1) == (rd l1 x13_1)) = false := beq_eq_false_iff_ne.mpr c8
         have c8b1 : ((rd l0 x13_1) != (rd l1 x13_1)) = true := bne_iff_ne.mpr c8
         obtain rfl := Option.some.inj H
         have p114 : 0 ≤ (x13_1 : Int) := of_decide_eq_true (by first | (with_reducible assumption) | assumption)
         have q114 : x13_1 < (l0.length : Int) := of_decide_eq_true (by first | (with_reducible assumption) | assumption)
         obtain ⟨ad114, e114, hx114_0⟩ := Kd.at_int HR0.out x13_1 p114 q114
         cases e114
         replace p114 := eq_true p114
         replace q114 := eq_true q114
         have p115 : 0 ≤ (x13_1 : Int) := of_decide_eq_true (by first | (with_reducible assumption) | assumption)
         have q115 : x13_1 < (l1.length : Int) := of_decide_eq_true (by first | (with_reducible assumption) | assumption)
         obtain ⟨ad115, e115, hx115_0⟩ := Kd.at_int HR1.out x13_1 p115 q115
         cases e115
         replace p115 := eq_true p115
         replace q115 := eq_true q115
         go_wp2
         repeat (go_quiet (fail); try go_wp2)
         go_ret
         exact ⟨by first | rfl | (simp; done) | (simp [*]; done), by repeat (first | exact Drawn0.refl _ | apply Drawn0.step)⟩
       ·rw [if_neg c7] at H
        exact absurd H (by simp)
      ·rw [if_neg c6] at H
       exact absurd H (by simp)
     ·rw [if_neg c5] at H
      exact absurd H (by simp)
    ·rw [if_neg c4] at H
     have c4b0 : decide (x13_1 < (l0.length : Int)) = false := decide_eq_false c4
     clear c4
     obtain rfl := Option.some.inj H
     go_wp2
     repeat (go_quiet (fail); try go_wp2)
     go_ret
     exact ⟨by first | rfl | (simp; done) | (simp [*]; done), by repeat (first | exact Drawn0.refl _ | apply Drawn0.step)⟩
 ·rw [if_neg c3] at H
  have c3b0 : ((l0.length : Int) == (l1.length : Int)) = false := beq_eq_false_iff_ne.mpr c3
  have c3b1 : ((l0.length : Int) != (l1.length : Int)) = true := bne_iff_ne.mpr c3
  have c3b2 : (l0.length == l1.length) = false := by first | simpa using c3 | (simp at c3 ⊢; omega)
  obtain rfl := Option.some.inj H
  go_enter Try.func79, Try.ntmps79
  go_wp2
  repeat (go_quiet (fail); try go_wp2)
  go_ret
  exact ⟨by first | rfl | (simp; done) | (simp [*]; done), by repeat (first | exact Drawn0.refl _ | apply Drawn0.step)⟩

end Go.Proofs.Ytgpoljimomfbbaa.P

-- PFimplIsFundamental
namespace Go.Proofs.Ytgpoljimomfbbaa.P
open Go.RowKit Go.Proofs.YtgpoljimomfbbaaW.PrintWords Go.Proofs.YtgpoljimomfbbaaW.PrintLast
set_option linter.unusedVariables false
set_option linter.unusedSimpArgs false

/-! ### impl_IsFundamental: function 38 -/
def impl_IsFundamental.f (k : Nat) (l0 : List Int) (a1 : Int) (a2 : Int) : Option (Bool × Bool) := (impl_isSolution.f k l0 a1 a2).bind fun t624 => (if t624 = true then ((impl_isFundamental.f k l0 a1).bind fun t625 => (some (t625, true))) else (some (false, false)))
theorem impl_IsFundamental.mono : ∀ a0 a1 a2 k, LeO (impl_IsFundamental.f k a0 a1 a2) (impl_IsFundamental.f (k + 1) a0 a1 a2) := by
 intro a0 a1 a2 k
 unfold impl_IsFundamental.f
 repeat' first
   | (with_reducible exact impl_isFundamental.mono _ _ _)
   | (with_reducible exact impl_isSolution.mono _ _ _ _)
   | (with_reducible exact LeO.refl _)
   | (with_reducible exact LeO.none _)
   | (with_reducible refine LeO.ite ?_ ?_)
   | (with_reducible refine LeO.bind ?_ (fun _ => ?_))
   | exact impl_isFundamental.mono _ _ _
   | exact impl_isSolution.mono _ _ _ _
   | exact LeO.none _
   | refine LeO.ite ?_ ?_
   | refine LeO.bind ?_ (fun _ => ?_)
set_option maxHeartbeats 8000000 in
set_option maxRecDepth 100000 in
theorem impl_IsFundamental.calls (k : Nat) (A0 : Option Addr) (c0 : Nat) (l0 : List Int) (a1 : Int) (a2 : Int) (r1 : Bool) (r2 : Bool) (w : World) (hr0 : Kd.C (Kd.int .i64) w A0 l0.length l0) (hc0 : l0.length ≤ c0) (h : impl_IsFundamental.f k l0 a1 a2 = some (r1, r2)) :
  Calls Try.prog 38 #[.slice A0 l0.length c0, .int .i64 a1, .int .i64 a2] w fun e w' => e = .returned (.tuple #[.bool r1, .bool r2]) ∧ Below w.heap.size w w' := by
 have HR0 := Aside0.mk hr0
 have HC0 := Aside0.mk hc0
 clear hr0 hc0
 have HB := Aside0.mk (Below.refl w.heap.size w)
 have H : ((impl_isSolution.f k l0 a1 a2).bind fun t624 => (if t624 = true then ((impl_isFundamental.f k l0 a1).bind fun t625 => (some (t625, true))) else (some (false, false)))) = some (r1, r2) := h
 clear h
 replace H := Option.bind_eq_some_iff.mp H
 obtain ⟨t624, A40, H⟩ := H
 replace H : (if t624 = true then ((impl_isFundamental.f k l0 a1).bind fun t625 => (some (t625, true))) else (some (false, false))) = some (r1, r2) := H
 have A4 := Aside0.mk A40
 clear A40
 by_cases c5 : t624 = true
 ·subst c5
  have H1 : ((impl_isFundamental.f k l0 a1).bind fun t625 => (some (t625, true))) = some (r1, r2) := by rw [if_pos rfl] at H; exact H
  clear H
  have H := H1
  clear H1
  replace H := Option.bind_eq_some_iff.mp H
  obtain ⟨t625, A60, H⟩ := H
  replace H : (some (t625, true)) = some (r1, r2) := H
  have A6 := Aside0.mk A60
  clear A60
  simp only [Option.some.injEq, Prod.mk.injEq] at H
  obtain ⟨rfl, rfl⟩ := H
  go_enter Try.func38, Try.ntmps38
  go_wp2_with (first | ((with_reducible refine gate_callee (f := 50) rfl ?_); refine goesL_ (some 11) rfl rfl Try.func50 (by kernel_rfl) rfl #[.slice A0 l0.length c0, .int .i64 a1, .int .i64 a2] rfl (by (try simp only [List.map_toArray, List.map_cons, List.map_nil]); first | done | rfl | (simp only [List.length_drop, List.length_take]; rfl)) ?_; (with_reducible refine (impl_isSolution.calls k _ _ l0 a1 a2 true _ ?side1 ?side2 A4.out).mono ?_); (case side1 => repeat (first | exact HR0.out | (with_reducible refine Kd.C_alloc ?_ _) | (with_reducible refine Kd.C_drewN ?_ _) | (with_reducible refine Kd.C_drew ?_))); (case side2 => exact HC0.out); rintro e w7 ⟨rfl, hb⟩; refine ⟨_, rfl, ?_⟩; have n0_ := Aside0.mk (below_step (by repeat (first | (with_reducible first | exact HB.out | apply below_alloc | apply pw_below_drewN | apply below_drew1) | exact HB.out)) hb); clear HB; have HB := n0_; clear n0_; (try clear hb); (try clear hb2); (try clear hk); (try clear hi)) | ((with_reducible refine gate_callee (f := 71) rfl ?_); refine goesL_ (some 15) rfl rfl Try.func71 (by kernel_rfl) rfl #[.slice A0 l0.length c0, .int .i64 a1] rfl (by (try simp only [List.map_toArray, List.map_cons, List.map_nil]); first | done | rfl | (simp only [List.length_drop, List.length_take]; rfl)) ?_; (with_reducible refine (impl_isFundamental.calls k _ _ l0 a1 t625 _ ?side1 ?side2 A6.out).mono ?_); (case side1 => repeat (first | exact (Kd.C_below HR0.out HB.out) | (with_reducible refine Kd.C_alloc ?_ _) | (with_reducible refine Kd.C_drewN ?_ _) | (with_reducible refine Kd.C_drew ?_))); (case side2 => exact HC0.out); rintro e w' ⟨rfl, ⟨nd, rfl⟩⟩; refine ⟨_, rfl, ?_⟩))
  go_ret2
  exact ⟨by first | rfl | (simp [errW_none, errW_some] <;> rfl) | (simp [*, errW_none, errW_some] <;> rfl), by repeat (first | (with_reducible first | exact HB.out | apply below_alloc | apply pw_below_drewN | apply below_drew1) | exact HB.out)⟩
 ·replace c5 := Bool.eq_false_iff.mpr c5
  subst c5
  have H1 : (some (false, false)) = some (r1, r2) := by rw [if_neg (show ¬ (false = true) by decide)] at H; exact H
  clear H
  have H := H1
  clear H1
  simp only [Option.some.injEq, Prod.mk.injEq] at H
  obtain ⟨rfl, rfl⟩ := H
  go_enter Try.func38, Try.ntmps38
  go_wp2_with (first | ((with_reducible refine gate_callee (f := 50) rfl ?_); refine goesL_ (some 11) rfl rfl Try.func50 (by kernel_rfl) rfl #[.slice A0 l0.length c0, .int .i64 a1, .int .i64 a2] rfl (by (try simp only [List.map_toArray, List.map_cons, List.map_nil]); first | done | rfl | (simp only [List.length_drop, List.length_take]; rfl)) ?_; (with_reducible refine (impl_isSolution.calls k _ _ l0 a1 a2 false _ ?side1 ?side2 A4.out).mono ?_); (case side1 => repeat (first | exact HR0.out | (with_reducible refine Kd.C_alloc ?_ _) | (with_reducible refine Kd.C_drewN ?_ _) | (with_reducible refine Kd.C_drew ?_))); (case side2 => exact HC0.out); rintro e w8 ⟨rfl, hb⟩; refine ⟨_, rfl, ?_⟩; have n0_ := Aside0.mk (below_step (by repeat (first | (with_reducible first | exact HB.out | apply below_alloc | apply pw_below_drewN | apply below_drew1) | exact HB.out)) hb); clear HB; have HB := n0_; clear n0_; (try clear hb); (try clear hb2); (try clear hk); (try clear hi)))
  go_ret2
  exact ⟨by first | rfl | (simp [errW_none, errW_some] <;> rfl) | (simp [*, errW_none, errW_some] <;> rfl), by repeat (first | (with_reducible first | exact HB.out | apply below_alloc | apply pw_below_drewN | apply below_drew1) | exact HB.out)⟩

end Go.Proofs.Ytgpoljimomfbbaa.P

-- PFimplIsHurwitz
namespace Go.Proofs.Ytgpoljimomfbbaa.P
open Go.RowKit Go.Proofs.YtgpoljimomfbbaaW.PrintWords Go.Proofs.YtgpoljimomfbbaaW.PrintLast
set_option linter.unusedVariables false
set_option linter.unusedSimpArgs false

/-! ### impl_IsHurwitz: function 80 -/
def impl_IsHurwitz.f (k : Nat) (l0 : List Int) (a1 : Int) (a2 : Int) : Option (Bool × Bool) := (impl_areGiven.f a1 a2).bind fun t626 => (if t626 = true then ((impl_isHurwitz.f k l0 a1 a2).bind fun t627 => (some (t627, true))) else (some (false, false)))
theorem impl_IsHurwitz.mono : ∀ a0 a1 a2 k, LeO (impl_IsHurwitz.f k a0 a1 a2) (impl_IsHurwitz.f (k + 1) a0 a1 a2) := by
 intro a0 a1 a2 k
 unfold impl_IsHurwitz.f
 repeat' first
   | (with_reducible exact impl_isHurwitz.mono _ _ _ _)
   | (with_reducible exact LeO.refl _)
   | (with_reducible exact LeO.none _)
   | (with_reducible refine LeO.ite ?_ ?_)
   | (with_reducible refine LeO.bind ?_ (fun _ => ?_))
   | exact impl_isHurwitz.mono _ _ _ _
   | exact LeO.none _
   | refine LeO.ite ?_ ?_
   | refine LeO.bind ?_ (fun _ => ?_)
set_option maxHeartbeats 8000000 in
set_option maxRecDepth 100000 in
theorem impl_IsHurwitz.calls (k : Nat) (A0 : Option Addr) (c0 : Nat) (l0 : List Int) (a1 : Int) (a2 : Int) (r1 : Bool) (r2 : Bool) (w : World) (hr0 : Kd.C (Kd.int .i64) w A0 l0.length l0) (hc0 : l0.length ≤ c0) (h : impl_IsHurwitz.f k l0 a1 a2 = some (r1, r2)) :
  Calls Try.prog 80 #[.slice A0 l0.length c0, .int .i64 a1, .int .i64 a2] w fun e w' => e = .returned (.tuple #[.bool r1, .bool r2]) ∧ Below w.heap.size w w' := by
 have HR0 := Aside0.mk hr0
 have HC0 := Aside0.mk hc0
 clear hr0 hc0
 have HB := Aside0.mk (Below.refl w.heap.size w)
 have H : ((impl_areGiven.f a1 a2).bind fun t626 => (if t626 = true then ((impl_isHurwitz.f k l0 a1 a2).bind fun t627 => (some (t627, true))) else (some (false, false)))) = some (r1, r2) := h
 clear h
 replace H := Option.bind_eq_some_iff.mp H
 obtain ⟨t626, A40, H⟩ := H
 replace H : (if t626 = true then ((impl_isHurwitz.f k l0 a1 a2).bind fun t627 => (some (t627, true))) else (some (false, false))) = some (r1, r2) := H
 have A4 := Aside0.mk A40
 clear A40
 by_cases c5 : t626 = true
 ·subst c5
  have H1 : ((impl_isHurwitz.f k l0 a1 a2).bind fun t627 => (some (t627, true))) = some (r1, r2) := by rw [if_pos rfl] at H; exact H
  clear H
  have H := H1
  clear H1
  replace H := Option.bind_eq_some_iff.mp H
  obtain ⟨t627, A60, H⟩ := H
  replace H : (some (t627, true)) = some (r1, r2) := H
  have A6 := Aside0.mk A60
  clear A60
  simp only [Option.some.injEq, Prod.mk.injEq] at H
  obtain ⟨rfl, rfl⟩ := H
  go_enter Try.func80, Try.ntmps80
  go_wp2_with (first | ((with_reducible refine gate_callee (f := 67) rfl ?_); refine goesL_ (some 10) rfl rfl Try.func67 (by kernel_rfl) rfl #[.int .i64 a1, .int .i64 a2] rfl (by (try simp only [List.map_toArray, List.map_cons, List.map_nil]); first | done | rfl | (simp only [List.length_drop, List.length_take]; rfl)) ?_; (with_reducible refine (impl_areGiven.calls a1 a2 true _ A4.out).mono ?_); rintro e w' ⟨rfl, ⟨nd, rfl⟩⟩; refine ⟨_, rfl, ?_⟩) | ((with_reducible refine gate_callee (f := 91) rfl ?_); refine goesL_ (some 15) rfl rfl Try.func91 (by kernel_rfl) rfl #[.slice A0 l0.length c0, .int .i64 a1, .int .i64 a2] rfl (by (try simp only [List.map_toArray, List.map_cons, List.map_nil]); first | done | rfl | (simp only [List.length_drop, List.length_take]; rfl)) ?_; (with_reducible refine (impl_isHurwitz.calls k _ _ l0 a1 a2 t627 _ ?side1 ?side2 A6.out).mono ?_); (case side1 => repeat (first | exact HR0.out | (with_reducible refine Kd.C_alloc ?_ _) | (with_reducible refine Kd.C_drewN ?_ _) | (with_reducible refine Kd.C_drew ?_))); (case side2 => exact HC0.out); rintro e w7 ⟨rfl, hb⟩; refine ⟨_, rfl, ?_⟩; have n0_ := Aside0.mk (below_step (by repeat (first | (with_reducible first | exact HB.out | apply below_alloc | apply pw_below_drewN | apply below_drew1) | exact HB.out)) hb); clear HB; have HB := n0_; clear n0_; (try clear hb); (try clear hb2); (try clear hk); (try clear hi)))
  go_ret2
  exact ⟨by first | rfl | (simp [errW_none, errW_some] <;> rfl) | (simp [*, errW_none, errW_some] <;> rfl), by repeat (first | (with_reducible first | exact HB.out | apply below_alloc | apply pw_below_drewN | apply below_drew1) | exact HB.out)⟩
 ·replace c5 := Bool.eq_false_iff.mpr c5
  subst c5
  have H1 : (some (false, false)) = some (r1, r2) := by rw [if_neg (show ¬ (false = true) by decide)] at H; exact H
  clear H
  have H := H1
  clear H1
  simp only [Option.some.injEq, Prod.mk.injEq] at H
  obtain ⟨rfl, rfl⟩ := H
  go_enter Try.func80, Try.ntmps80
  go_wp2_with (first | ((with_reducible refine gate_callee (f := 67) rfl ?_); refine goesL_ (some 10) rfl rfl Try.func67 (by kernel_rfl) rfl #[.int .i64 a1, .int .i64 a2] rfl (by (try simp only [List.map_toArray, List.map_cons, List.map_nil]); first | done | rfl | (simp only [List.length_drop, List.length_take]; rfl)) ?_; (with_reducible refine (impl_areGiven.calls a1 a2 false _ A4.out).mono ?_); rintro e w' ⟨rfl, ⟨nd, rfl⟩⟩; refine ⟨_, rfl, ?_⟩))
  go_ret2
  exact ⟨by first | rfl | (simp [errW_none, errW_some] <;> rfl) | (simp [*, errW_none, errW_some] <;> rfl), by repeat (first | (with_reducible first | exact HB.out | apply below_alloc | apply pw_below_drewN | apply below_drew1) | exact HB.out)⟩

end Go.Proofs.Ytgpoljimomfbbaa.P

-- PFvSolves
namespace Go.Proofs.Ytgpoljimomfbbaa.P
open Go.RowKit Go.Proofs.YtgpoljimomfbbaaW.PrintWords Go.Proofs.YtgpoljimomfbbaaW.PrintLast
set_option linter.unusedVariables false
set_option linter.unusedSimpArgs false

/-! ### laws_vSolves: function 39 -/
def laws_vSolves.f (k : Nat) (l0 : List Int) (a1 : Int) (a2 : Int) : Option (Bool) := (impl_IsHurwitz.f k l0 a1 a2).bind fun bt628 => (if bt628.2 = true then (some bt628.1) else (some false))
theorem laws_vSolves.mono : ∀ a0 a1 a2 k, LeO (laws_vSolves.f k a0 a1 a2) (laws_vSolves.f (k + 1) a0 a1 a2) := by
 intro a0 a1 a2 k
 unfold laws_vSolves.f
 repeat' first
   | (with_reducible exact impl_IsHurwitz.mono _ _ _ _)
   | (with_reducible exact LeO.refl _)
   | (with_reducible exact LeO.none _)
   | (with_reducible refine LeO.ite ?_ ?_)
   | (with_reducible refine LeO.bind ?_ (fun _ => ?_))
   | exact impl_IsHurwitz.mono _ _ _ _
   | exact LeO.none _
   | refine LeO.ite ?_ ?_
   | refine LeO.bind ?_ (fun _ => ?_)
set_option maxHeartbeats 8000000 in
set_option maxRecDepth 100000 in
theorem laws_vSolves.calls (k : Nat) (A0 : Option Addr) (c0 : Nat) (l0 : List Int) (a1 : Int) (a2 : Int) (r : Bool) (w : World) (hr0 : Kd.C (Kd.int .i64) w A0 l0.length l0) (hc0 : l0.length ≤ c0) (h : laws_vSolves.f k l0 a1 a2 = some r) :
  Calls Try.prog 39 #[.slice A0 l0.length c0, .int .i64 a1, .int .i64 a2] w fun e w' => e = .returned (.bool r) ∧ Below w.heap.size w w' := by
 have HR0 := Aside0.mk hr0
 have HC0 := Aside0.mk hc0
 clear hr0 hc0
 have HB := Aside0.mk (Below.refl w.heap.size w)
 have H : ((impl_IsHurwitz.f k l0 a1 a2).bind fun bt628 => (if bt628.2 = true then (some bt628.1) else (some false))) = some r := h
 clear h
 replace H := Option.bind_eq_some_iff.mp H
 obtain ⟨⟨t628, t629⟩, A40, H⟩ := H
 replace H : (if t629 = true then (some t628) else (some false)) = some r := H
 have A4 := Aside0.mk A40
 clear A40
 by_cases c5 : t629 = true
 ·subst c5
  have H1 : (some t628) = some r := by rw [if_pos rfl] at H; exact H
  clear H
  have H := H1
  clear H1
  obtain rfl := Option.some.inj H
  go_enter Try.func39, Try.ntmps39
  go_wp2_with (first | ((with_reducible refine gate_callee (f := 80) rfl ?_); refine goesL_ (some 13) rfl rfl Try.func80 (by kernel_rfl) rfl #[.slice A0 l0.length c0, .int .i64 a1, .int .i64 a2] rfl (by (try simp only [List.map_toArray, List.map_cons, List.map_nil]); first | done | rfl | (simp only [List.length_drop, List.length_take]; rfl)) ?_; (with_reducible refine (impl_IsHurwitz.calls k _ _ l0 a1 a2 t628 true _ ?side1 ?side2 A4.out).mono ?_); (case side1 => repeat (first | exact HR0.out | (with_reducible refine Kd.C_alloc ?_ _) | (with_reducible refine Kd.C_drewN ?_ _) | (with_reducible refine Kd.C_drew ?_))); (case side2 => exact HC0.out); rintro e w6 ⟨rfl, hb⟩; refine ⟨_, rfl, ?_⟩; have n0_ := Aside0.mk (below_step (by repeat (first | (with_reducible first | exact HB.out | apply below_alloc | apply pw_below_drewN | apply below_drew1) | exact HB.out)) hb); clear HB; have HB := n0_; clear n0_; (try clear hb); (try clear hb2); (try clear hk); (try clear hi)))
  go_ret
  exact ⟨by first | rfl | (simp [errW_none, errW_some] <;> rfl) | (simp [*, errW_none, errW_some] <;> rfl), by repeat (first | (with_reducible first | exact HB.out | apply below_alloc | apply pw_below_drewN | apply below_drew1) | exact HB.out)⟩
 ·replace c5 := Bool.eq_false_iff.mpr c5
  subst c5
  have H1 : (some false) = some r := by rw [if_neg (show ¬ (false = true) by decide)] at H; exact H
  clear H
  have H := H1
  clear H1
  obtain rfl := Option.some.inj H
  go_enter Try.func39, Try.ntmps39
  go_wp2_with (first | ((with_reducible refine gate_callee (f := 80) rfl ?_); refine goesL_ (some 13) rfl rfl Try.func80 (by kernel_rfl) rfl #[.slice A0 l0.length c0, .int .i64 a1, .int .i64 a2] rfl (by (try simp only [List.map_toArray, List.map_cons, List.map_nil]); first | done | rfl | (simp only [List.length_drop, List.length_take]; rfl)) ?_; (with_reducible refine (impl_IsHurwitz.calls k _ _ l0 a1 a2 t628 false _ ?side1 ?side2 A4.out).mono ?_); (case side1 => repeat (first | exact HR0.out | (with_reducible refine Kd.C_alloc ?_ _) | (with_reducible refine Kd.C_drewN ?_ _) | (with_reducible refine Kd.C_drew ?_))); (case side2 => exact HC0.out); rintro e w7 ⟨rfl, hb⟩; refine ⟨_, rfl, ?_⟩; have n0_ := Aside0.mk (below_step (by repeat (first | (with_reducible first | exact HB.out | apply below_alloc | apply pw_below_drewN | apply below_drew1) | exact HB.out)) hb); clear HB; have HB := n0_; clear n0_; (try clear hb); (try clear hb2); (try clear hk); (try clear hi)))
  go_ret
  exact ⟨by first | rfl | (simp [errW_none, errW_some] <;> rfl) | (simp [*, errW_none, errW_some] <;> rfl), by repeat (first | (with_reducible first | exact HB.out | apply below_alloc | apply pw_below_drewN | apply below_drew1) | exact HB.out)⟩

end Go.Proofs.Ytgpoljimomfbbaa.P

-- PFvSum
namespace Go.Proofs.Ytgpoljimomfbbaa.P
open Go.RowKit Go.Proofs.YtgpoljimomfbbaaW.PrintWords Go.Proofs.YtgpoljimomfbbaaW.PrintLast
set_option linter.unusedVariables false
set_option linter.unusedSimpArgs false

/-! ### laws_vSum: function 40 -/
def laws_vSum.l0 : Nat → Int → List Int → Int → Int → Option (Int)
 | 0, _, _, _, _ => none
 | k + 1, x3, x6, x7, x8 => if x8 < x7 then (if 0 ≤ x8 then (if x8 < (x6.length : Int) then (laws_vSum.l0 k (wrap64 (x3 + (rd x6 x8))) x6 x7 (wrap64 (x8 + 1))) else (none)) else (none)) else (some x3)
def laws_vSum.f (k : Nat) (l0 : List Int) : Option (Int) := laws_vSum.l0 k 0 l0 (l0.length : Int) 0
theorem laws_vSum.mono_l : ∀ k, (∀ y0 y1 y2 y3, LeO (laws_vSum.l0 k y0 y1 y2 y3) (laws_vSum.l0 (k + 1) y0 y1 y2 y3))
 | 0 => fun _ _ _ _ r h => by simp [laws_vSum.l0] at h
 | k + 1 => by
  have ih0 := laws_vSum.mono_l k
  ·intro y0 y1 y2 y3
   unfold laws_vSum.l0
   repeat' first
   | (with_reducible exact ih0 _ _ _ _)
   | (with_reducible exact LeO.refl _)
   | (with_reducible exact LeO.none _)
   | (with_reducible refine LeO.ite ?_ ?_)
   | (with_reducible refine LeO.bind ?_ (fun _ => ?_))
   | exact ih0 _ _ _ _
   | exact LeO.none _
   | refine LeO.ite ?_ ?_
   | refine LeO.bind ?_ (fun _ => ?_)
theorem laws_vSum.mono : ∀ a0 k, LeO (laws_vSum.f k a0) (laws_vSum.f (k + 1) a0) := by
 intro a0 k
 have ih0 := laws_vSum.mono_l k
 unfold laws_vSum.f
 repeat' first
   | (with_reducible exact ih0 _ _ _ _)
   | (with_reducible exact LeO.refl _)
   | (with_reducible exact LeO.none _)
   | (with_reducible refine LeO.ite ?_ ?_)
   | (with_reducible refine LeO.bind ?_ (fun _ => ?_))
   | exact ih0 _ _ _ _
   | exact LeO.none _
   | refine LeO.ite ?_ ?_
   | refine LeO.bind ?_ (fun _ => ?_)
set_option maxHeartbeats 8000000 in
set_option maxRecDepth 100000 in
theorem laws_vSum.calls (k : Nat) (A0 : Option Addr) (c0 : Nat) (l0 : List Int) (r : Int) (w : World) (hr0 : Kd.C (Kd.int .i64) w A0 l0.length l0) (hc0 : l0.length ≤ c0) (h : laws_vSum.f k l0 = some r) :
  Calls Try.prog 40 #[.slice A0 l0.length c0] w fun e w' => e = .returned (.int .i64 r) ∧ Drawn0 w w' := by
 have HR0 := Aside0.mk hr0
 have HC0 := Aside0.mk hc0
 clear hr0 hc0
 have H : (laws_vSum.l0 k 0 l0 (l0.length : Int) 0) = some r := h
 clear h
 have H' := Aside0.mk H
 clear H
 go_enter Try.func40, Try.ntmps40
 go_wp2
 go_loopg [3, 8] k (fun kq v3 v8 w' => ∃ (x3_1 : Int) (x8_1 : Int), v3 = .int .i64 x3_1 ∧ v8 = .int .i64 x8_1 ∧ Aside0 (laws_vSum.l0 kq x3_1 l0 (l0.length : Int) x8_1 = some r) ∧ Aside0 (kq ≤ k) ∧ Drawn0 w w')
 case atStart => exact ⟨(0), (0), (by first | rfl | (simp; done) | (simp [*]; done)), (by first | rfl | (simp; done) | (simp [*]; done)), H', ⟨Nat.le_refl _⟩, by repeat (first | exact Drawn0.refl _ | apply Drawn0.step)⟩
 case round =>
  clear H'
  obtain ⟨x3_1, x8_1, rfl, rfl, HA, HK1, ⟨m1, rfl⟩⟩ := hrel
  cases gk with
  | zero => exact absurd HA.out (by simp [laws_vSum.l0])
  | succ k1 =>
   have H := HA.out
   clear HA
   simp only [laws_vSum.l0] at H
   by_cases c2 : x8_1 < (l0.length : Int)
   ·rw [if_pos c2] at H
    have c2b0 : decide (x8_1 < (l0.length : Int)) = true := decide_eq_true c2
    clear c2
    by_cases c3 : 0 ≤ x8_1
    ·rw [if_pos c3] at H
     have c3b0 : decide (0 ≤ x8_1) = true := decide_eq_true c3
     clear c3
     by_cases c4 : x8_1 < (l0.length : Int)
     ·rw [if_pos c4] at H
      have c4b0 : decide (x8_1 < (l0.length : Int)) = true := decide_eq_true c4
      clear c4
      have H' := Aside0.mk H
      clear H
      have p630 : 0 ≤ (x8_1 : Int) := of_decide_eq_true (by first | (with_reducible assumption) | assumption)
      have q630 : x8_1 < (l0.length : Int) := of_decide_eq_true (by first | (with_reducible assumption) | assumption)
      obtain ⟨ad630, e630, hx630_0⟩ := Kd.at_int HR0.out x8_1 p630 q630
      cases e630
      replace p630 := eq_true p630
      replace q630 := eq_true q630
      go_wp2
      go_roundg k1
      case measure => have := HK1.out; omega
      case rel => exact ⟨(wrap64 (x3_1 + (rd l0 x8_1))), (wrap64 (x8_1 + 1)), (by first | rfl | (simp; done) | (simp [*]; done)), (by first | rfl | (simp; done) | (simp [*]; done)), H', ⟨by have := HK1.out; omega⟩, by repeat (first | exact Drawn0.refl _ | apply Drawn0.step)⟩
     ·rw [if_neg c4] at H
      exact absurd H (by simp)
    ·rw [if_neg c3] at H
     exact absurd H (by simp)
   ·rw [if_neg c2] at H
    have c2b0 : decide (x8_1 < (l0.length : Int)) = false := decide_eq_false c2
    clear c2
    obtain rfl := Option.some.inj H
    go_wp2
    go_ret
    exact ⟨by first | rfl | (simp; done) | (simp [*]; done), by repeat (first | exact Drawn0.refl _ | apply Drawn0.step)⟩

end Go.Proofs.Ytgpoljimomfbbaa.P

-- Udraw
namespace Go.Proofs.Ytgpoljimomfbbaa.P
set_option linter.unusedVariables false
set_option linter.unusedSimpArgs false
open Go.RowKit Go.Proofs.YtgpoljimomfbbaaW.PrintWords Go.Proofs.YtgpoljimomfbbaaW.PrintLast Go.Proofs.YtgpoljimomfbbaaW.PrintMore

theorem wrap_u64 (n : Int) : IntKind.u64.wrap n = n % 18446744073709551616 := by simp [IntKind.wrap, IntKind.bits, IntKind.signed]
theorem mask255 (n : Int) : ∃ v, wrap64 (Go.bits .and .u64 (IntKind.u64.wrap n / 1099511627776) 255) = v ∧ 0 ≤ v ∧ v ≤ 255 := by
  have h0 : 0 ≤ IntKind.u64.wrap n := by rw [wrap_u64]; omega
  have h1 : IntKind.u64.wrap n < 18446744073709551616 := by rw [wrap_u64]; omega
  generalize IntKind.u64.wrap n = m at h0 h1
  have h2 : Go.bits .and .u64 (m / 1099511627776) 255 = (m / 1099511627776) % 256 :=
    bits_mask .u64 64 (by decide) (fun n a b => by rw [wrap_u64]; have : (2 : Int) ^ 64 = 18446744073709551616 := by decide
                                                   omega) 8 (by decide) _ (by omega) (by have : (2 : Int) ^ 64 = 18446744073709551616 := by decide
                                                                                         omega)
  rw [h2]
  exact ⟨_, rfl, by rw [w64 (by omega) (by omega)]; omega, by rw [w64 (by omega) (by omega)]; omega⟩
def Bytes (code : List Int) : Prop := ∀ x ∈ code, 0 ≤ x ∧ x ≤ 255
theorem bytes_of_u8 {code : List Int} (h : ∀ x ∈ code, (Lit.int .u8 x).wf = true) : Bytes code := fun x hx => by
  have := h x hx
  simp [Lit.wf, IntKind.min, IntKind.max, IntKind.signed, IntKind.bits] at this
  omega
theorem next_ok (code : List Int) (hc : Bytes code) (at_ seed : Int) (h0 : 0 ≤ at_) (h1 : at_ ≤ 1000000000) : ∃ v seed', spec_l1Cur_next.f code at_ seed = some (v, at_ + 1, seed') ∧ 0 ≤ v ∧ v ≤ 255 := by
  have w1 : wrap64 (at_ + 1) = at_ + 1 := w64 (by omega) (by omega)
  unfold spec_l1Cur_next.f
  rw [w1]
  by_cases h2 : at_ < (code.length : Int)
  · have hm : rd code at_ ∈ code := by
      have h3 : at_.toNat < code.length := by omega
      have h4 : rd code at_ = code[at_.toNat] := by
        have := rd_lt code at_.toNat h3
        rwa [Int.toNat_of_nonneg h0] at this
      rw [h4]
      exact List.getElem_mem h3
    have hb := hc _ hm
    have w2 : wrap64 (rd code at_) = rd code at_ := w64 (by omega) (by omega)
    rw [if_pos h2, if_pos h0, if_pos (by omega), w2]
    exact ⟨_, _, rfl, hb.1, hb.2⟩
  · rw [if_neg h2, if_neg (by omega)]
    obtain ⟨v, e, hv⟩ := mask255 ((IntKind.u64.wrap ((IntKind.u64.wrap (seed * 6364136223846793005)) + 0)) + 1442695040888963407)
    rw [e]
    exact ⟨_, _, rfl, hv.1, hv.2⟩
theorem pick_ok (code : List Int) (hc : Bytes code) (at_ seed n : Int) (h0 : 0 ≤ at_) (h1 : at_ ≤ 999999999) (hn : n ≤ 1000000000000) : ∃ v at' seed', spec_l1Cur_pick.f code at_ seed n = some (v, at', seed') ∧ 0 ≤ v ∧ (1 ≤ n → v < n) ∧ at_ ≤ at' ∧ at' ≤ at_ + 2 := by
  unfold spec_l1Cur_pick.f
  by_cases h2 : n ≤ 1
  · rw [if_pos h2]
    exact ⟨_, _, _, rfl, by omega, fun _ => by omega, by omega, by omega⟩
  · rw [if_neg h2]
    obtain ⟨v, s1, e1, hv⟩ := next_ok code hc at_ seed h0 (by omega)
    rw [e1]
    simp only [Option.bind_some]
    have hn0 : ¬ n = 0 := by omega
    by_cases h3 : n > 200
    · obtain ⟨v2, s2, e2, hv2⟩ := next_ok code hc (at_ + 1) s1 (by omega) (by omega)
      have w1 : wrap64 (wrap64 (v * 256) + v2) = v * 256 + v2 := by rw [w64 (x := v * 256) (by omega) (by omega), w64 (by omega) (by omega)]
      have t1 : Int.tmod (v * 256 + v2) n = (v * 256 + v2) % n := Int.tmod_eq_emod_of_nonneg (by omega)
      rw [if_pos h3, e2]
      simp only [Option.bind_some, hn0, if_false, w1, t1]
      exact ⟨_, _, _, rfl, Int.emod_nonneg _ hn0, fun _ => Int.emod_lt_of_pos _ (by omega), by omega, by omega⟩
    · have t1 : Int.tmod v n = v % n := Int.tmod_eq_emod_of_nonneg hv.1
      rw [if_neg h3, if_neg hn0, t1]
      exact ⟨_, _, _, rfl, Int.emod_nonneg _ hn0, fun _ => Int.emod_lt_of_pos _ (by omega), by omega, by omega⟩
theorem one_ok (code : List Int) (hc : Bytes code) (at_ seed n : Int) (h0 : 0 ≤ at_) (h1 : at_ ≤ 999999999) (hn : n ≤ 1000000000000) : ∃ v at' seed', spec_l1Cur_one.f code at_ seed n = some (v, at', seed') ∧ at_ ≤ at' ∧ at' ≤ at_ + 2 := by
  obtain ⟨v, a, s, e, _, _, h3, h4⟩ := pick_ok code hc at_ seed n h0 h1 hn
  unfold spec_l1Cur_one.f
  rw [e]
  exact ⟨_, _, _, rfl, h3, h4⟩
theorem among_ok (code : List Int) (hc : Bytes code) (at_ seed : Int) (l : List Int) (h0 : 0 ≤ at_) (h1 : at_ ≤ 999999999) (hl : 1 ≤ l.length) (hl2 : l.length ≤ 1000) : ∃ v at' seed', spec_l1Cur_among.f code at_ seed l = some (v, at', seed') ∧ v ∈ l ∧ at_ ≤ at' ∧ at' ≤ at_ + 2 := by
  obtain ⟨v, a, s, e, h2, h5, h3, h4⟩ := pick_ok code hc at_ seed (l.length : Int) h0 h1 (by omega)
  have h6 := h5 (by omega)
  have h7 : v.toNat < l.length := by omega
  have h8 : rd l v = l[v.toNat] := by
    have := rd_lt l v.toNat h7
    rwa [Int.toNat_of_nonneg h2] at this
  unfold spec_l1Cur_among.f
  rw [e]
  simp only [Option.bind_some]
  rw [if_pos h2, if_pos h6]
  exact ⟨_, _, _, rfl, by rw [h8]; exact List.getElem_mem h7, h3, h4⟩
end Go.Proofs.Ytgpoljimomfbbaa.P

-- Uall
namespace Go.Proofs.Ytgpoljimomfbbaa.P
set_option linter.unusedVariables false
set_option linter.unusedSimpArgs false
open Go.RowKit Go.Proofs.YtgpoljimomfbbaaW.PrintWords Go.Proofs.YtgpoljimomfbbaaW.PrintLast

theorem l1In_inB (x lo hi : Int) : spec_l1In.f x lo hi = some (inB lo hi x) := by
  unfold spec_l1In.f inB
  by_cases h : lo ≤ x <;> simp [h]
theorem l1All_upto (l : List Int) (lo hi : Int) (hn : l.length ≤ 4611686018427387904) (d : Nat) : ∀ i : Nat, i + d = l.length → Ev (fun k => spec_l1All.l0 k lo hi l (l.length : Int) (i : Int)) ((l.drop i).all (inB lo hi)) := by
  induction d with
  | zero =>
    intro i hid
    refine Ev.step (f := fun _ => some true) (fun k => by simp only [spec_l1All.l0]; rw [if_neg (by omega)]) ?_
    rw [List.drop_eq_nil_of_le (by omega)]
    exact Ev.is rfl
  | succ d ih =>
    intro i hid
    refine Ev.step (f := fun k => if inB lo hi (rd l (i : Int)) = true then spec_l1All.l0 k lo hi l (l.length : Int) ((i + 1 : Nat) : Int) else some false) (fun k => ?_) ?_
    · simp only [spec_l1All.l0]
      rw [if_pos (by omega), if_pos (by omega), if_pos (by omega), l1In_inB, w64_succ (n := l.length) (by omega) hn]
      rfl
    · rw [rd_drop l i (by omega), List.all_cons]
      cases hB : inB lo hi (rd l (i : Int)) with
      | true =>
        simp only [if_true, Bool.true_and]
        exact ih (i + 1) (by omega)
      | false =>
        simp only [Bool.false_eq_true, if_false, Bool.false_and]
        exact Ev.is rfl
theorem l1All_ev (l : List Int) (lo hi : Int) (hn : l.length ≤ 4611686018427387904) : Ev (fun k => spec_l1All.f k l lo hi) (l.all (inB lo hi)) := by
  unfold spec_l1All.f
  exact l1All_upto l lo hi hn l.length 0 (by omega)
end Go.Proofs.Ytgpoljimomfbbaa.P

-- Uhurwitz
namespace Go.Proofs.Ytgpoljimomfbbaa.P
set_option linter.unusedVariables false
set_option linter.unusedSimpArgs false
open Go.RowKit Go.Proofs.YtgpoljimomfbbaaW.PrintWords Go.Proofs.YtgpoljimomfbbaaW.PrintLast Go.Proofs.YtgpoljimomfbbaaW.PrintMore

def sqs : List Int → Int
  | [] => 0
  | x :: l => x * x + sqs l
def prd : List Int → Int
  | [] => 1
  | x :: l => x * prd l
def fallsFrom (p : Int) : List Int → Bool
  | [] => true
  | x :: l => decide (x ≤ p) && fallsFrom x l
def falls : List Int → Bool
  | [] => true
  | x :: l => fallsFrom x l
/-- Three or four numbers, none rising, that solve Hurwitz's equation. -/
def huIs (l : List Int) (a b : Int) : Bool := decide (3 ≤ l.length ∧ l.length ≤ 4) && (l.all (inB 1 100000) && (falls l && decide (sqs l = a * prd l + b)))
def huGv (a b : Int) : Bool := inB 1 20 a && inB (-50) 50 b
theorem inB_iff {lo hi x : Int} : inB lo hi x = true ↔ lo ≤ x ∧ x ≤ hi := by simp [inB]
theorem all_iff {l : List Int} {lo hi : Int} : l.all (inB lo hi) = true ↔ ∀ x ∈ l, lo ≤ x ∧ x ≤ hi := by simp [List.all_eq_true, inB]

theorem beq_dec (a b : Int) : (a == b) = decide (a = b) := by by_cases h : a = b <;> simp [h]
theorem within_inB (x lo hi : Int) : impl_within.f x lo hi = some (inB lo hi x) := by
  unfold impl_within.f inB
  by_cases h : lo ≤ x <;> simp [h]
theorem huGiven_is (a b : Int) : spec_huGiven.f a b = some (huGv a b) := by
  unfold spec_huGiven.f huGv
  rw [l1In_inB, l1In_inB]
  cases inB 1 20 a <;> rfl
theorem areGiven_is (a b : Int) : impl_areGiven.f a b = some (huGv a b) := by
  unfold impl_areGiven.f huGv
  rw [within_inB, within_inB]
  cases inB 1 20 a <;> rfl

theorem prd_pos {l : List Int} (h : ∀ x ∈ l, 1 ≤ x) : 1 ≤ prd l := by
  induction l with
  | nil => simp [prd]
  | cons x l ih =>
    have h1 := h x (List.mem_cons_self)
    have h2 := ih (fun y hy => h y (List.mem_cons_of_mem _ hy))
    have h3 := Int.mul_le_mul h1 h2 (by omega) (by omega)
    simp only [prd]
    omega
theorem sqs_bd {l : List Int} (h : ∀ x ∈ l, 1 ≤ x ∧ x ≤ 100000) : 0 ≤ sqs l ∧ sqs l ≤ 10000000000 * (l.length : Int) := by
  induction l with
  | nil => simp [sqs]
  | cons x l ih =>
    have h1 := h x (List.mem_cons_self)
    have h2 := ih (fun y hy => h y (List.mem_cons_of_mem _ hy))
    have h3 : x * x ≤ 100000 * 100000 := Int.mul_le_mul h1.2 h1.2 (by omega) (by omega)
    have h4 : 0 ≤ x * x := Int.mul_nonneg (by omega) (by omega)
    simp only [sqs, List.length_cons]
    omega
theorem drop_all {l : List Int} {P : Int → Prop} (h : ∀ x ∈ l, P x) (i : Nat) : ∀ x ∈ l.drop i, P x := fun x hx => h x (List.mem_of_mem_drop hx)
theorem rd_mem {l : List Int} {i : Nat} (h : i < l.length) : rd l (i : Int) ∈ l := by rw [rd_lt l i h]; exact List.getElem_mem h

theorem sq_bd {x : Int} (hx : 1 ≤ x ∧ x ≤ 100000) : 1 ≤ x * x ∧ x * x ≤ 10000000000 := by
  have h3 : x * x ≤ 100000 * 100000 := Int.mul_le_mul hx.2 hx.2 (by omega) (by omega)
  have h4 : 1 * 1 ≤ x * x := Int.mul_le_mul hx.1 hx.1 (by omega) (by omega)
  omega
theorem huSquares_upto (l : List Int) (hl : ∀ x ∈ l, 1 ≤ x ∧ x ≤ 100000) (hn : l.length ≤ 1000000) (d : Nat) : ∀ (i : Nat) (s : Int), i + d = l.length → 0 ≤ s → s + 10000000000 * (d : Int) ≤ 9000000000000000000 → Ev (fun k => spec_huSquares.l0 k s l (l.length : Int) (i : Int)) (s + sqs (l.drop i)) := by
  induction d with
  | zero =>
    intro i s hid h0 h1
    refine Ev.step (f := fun _ => some s) (fun k => by simp only [spec_huSquares.l0]; rw [if_neg (by omega)]) ?_
    rw [List.drop_eq_nil_of_le (by omega), sqs, Int.add_zero]
    exact Ev.is rfl
  | succ d ih =>
    intro i s hid h0 h1
    have hx := sq_bd (hl _ (rd_mem (l := l) (i := i) (by omega)))
    have w1 : wrap64 (rd l (i : Int) * rd l (i : Int)) = rd l (i : Int) * rd l (i : Int) := w64 (by omega) (by omega)
    have w2 : wrap64 (s + rd l (i : Int) * rd l (i : Int)) = s + rd l (i : Int) * rd l (i : Int) := w64 (by omega) (by omega)
    refine Ev.step (f := fun k => spec_huSquares.l0 k (s + rd l (i : Int) * rd l (i : Int)) l (l.length : Int) ((i + 1 : Nat) : Int)) (fun k => ?_) ?_
    · simp only [spec_huSquares.l0]
      rw [if_pos (by omega), if_pos (by omega), if_pos (by omega), w1, w2, w64_succ (n := l.length) (by omega) (by omega)]
    · rw [rd_drop l i (by omega), sqs, ← Int.add_assoc]
      exact ih (i + 1) _ (by omega) (by omega) (by omega)
theorem huSquares_ev (l : List Int) (hl : ∀ x ∈ l, 1 ≤ x ∧ x ≤ 100000) (hn : l.length ≤ 1000000) : Ev (fun k => spec_huSquares.f k l) (sqs l) := by
  unfold spec_huSquares.f
  have h := huSquares_upto l hl hn l.length 0 0 (by omega) (by omega) (by omega)
  rw [List.drop_zero, Int.zero_add] at h
  exact h

theorem cap_mul {y q C : Int} (h0 : 0 ≤ y) (hq : 1 ≤ q) (hC : 0 ≤ C) : min (min y C * q) C = min (y * q) C := by
  by_cases h : y ≤ C
  · rw [Int.min_eq_left h]
  · have h1 : min y C = C := Int.min_eq_right (by omega)
    rw [h1]
    have h2 : C ≤ C * q := by have := Int.mul_le_mul (Int.le_refl C) hq (by omega) hC; omega
    have h3 : y ≤ y * q := by have := Int.mul_le_mul (Int.le_refl y) hq (by omega) h0; omega
    rw [Int.min_eq_right h2, Int.min_eq_right (by omega)]
theorem least_is (a b : Int) : spec_l1Least.f a b = some (min a b) := by
  unfold spec_l1Least.f
  by_cases h : a < b
  · rw [if_pos h, Int.min_eq_left (by omega)]
  · rw [if_neg h, Int.min_eq_right (by omega)]
theorem mul_bd2 {p x P X : Int} (h1 : 0 ≤ p) (h2 : p ≤ P) (h3 : 1 ≤ x) (h4 : x ≤ X) : 0 ≤ p * x ∧ p * x ≤ P * X ∧ p ≤ p * x := by
  have h5 := Int.mul_le_mul (Int.le_refl p) h3 (by omega) h1
  exact ⟨Int.mul_nonneg h1 (by omega), Int.mul_le_mul h2 h4 (by omega) (by omega), by omega⟩
theorem huProduct_upto (l : List Int) (hl : ∀ x ∈ l, 1 ≤ x ∧ x ≤ 100000) (hn : l.length ≤ 1000000) (d : Nat) : ∀ (i : Nat) (p : Int), i + d = l.length → 0 ≤ p → p ≤ 1000000000000 → Ev (fun k => spec_huProduct.l0 k p l (l.length : Int) (i : Int)) (min (p * prd (l.drop i)) 1000000000000) := by
  induction d with
  | zero =>
    intro i p hid h0 h1
    refine Ev.step (f := fun _ => some p) (fun k => by simp only [spec_huProduct.l0]; rw [if_neg (by omega)]) ?_
    rw [List.drop_eq_nil_of_le (by omega), prd, Int.mul_one, Int.min_eq_left h1]
    exact Ev.is rfl
  | succ d ih =>
    intro i p hid h0 h1
    have hx := hl _ (rd_mem (l := l) (i := i) (by omega))
    have hb := mul_bd2 h0 h1 hx.1 hx.2
    have w1 : wrap64 (p * rd l (i : Int)) = p * rd l (i : Int) := w64 (by omega) (by omega)
    refine Ev.step (f := fun k => spec_huProduct.l0 k (min (p * rd l (i : Int)) 1000000000000) l (l.length : Int) ((i + 1 : Nat) : Int)) (fun k => ?_) ?_
    · simp only [spec_huProduct.l0]
      rw [if_pos (by omega), if_pos (by omega), if_pos (by omega), w1, least_is, w64_succ (n := l.length) (by omega) (by omega)]
      rfl
    · have hq := prd_pos (fun x hx => (drop_all hl (i + 1) x hx).1)
      rw [rd_drop l i (by omega), prd, ← Int.mul_assoc, ← cap_mul (by omega) hq (by omega)]
      exact ih (i + 1) _ (by omega) (by omega) (by omega)
theorem huProduct_ev (l : List Int) (a : Int) (ha : 0 ≤ a ∧ a ≤ 1000000000000) (hl : ∀ x ∈ l, 1 ≤ x ∧ x ≤ 100000) (hn : l.length ≤ 1000000) : Ev (fun k => spec_huProduct.f k l a) (min (a * prd l) 1000000000000) := by
  unfold spec_huProduct.f
  have h := huProduct_upto l hl hn l.length 0 a (by omega) ha.1 ha.2
  rw [List.drop_zero] at h
  exact h

theorem huGood_falls (l : List Int) (a b : Int) (r : Bool) (hn : l.length ≤ 1000000) (hend : Ev (fun k => (spec_huSquares.f k l).bind fun t112 => ((spec_huProduct.f k l a).bind fun t113 => (some (t112 == (wrap64 (t113 + b)))))) r) (d : Nat) : ∀ (i : Nat), 1 ≤ i → i + d = l.length → Ev (fun k => spec_huGood.l0 k l a b (i : Int)) (fallsFrom (rd l ((i - 1 : Nat) : Int)) (l.drop i) && r) := by
  induction d with
  | zero =>
    intro i h1 hid
    refine Ev.step (fun k => by simp only [spec_huGood.l0]; rw [if_neg (by omega)]) ?_
    rw [List.drop_eq_nil_of_le (by omega), fallsFrom, Bool.true_and]
    exact hend
  | succ d ih =>
    intro i h1 hid
    have w1 : wrap64 ((i : Int) - 1) = ((i - 1 : Nat) : Int) := by rw [w64 (by omega) (by omega)]; omega
    refine Ev.step (f := fun k => if rd l (i : Int) > rd l ((i - 1 : Nat) : Int) then some false else spec_huGood.l0 k l a b ((i + 1 : Nat) : Int)) (fun k => ?_) ?_
    · simp only [spec_huGood.l0]
      rw [w1, if_pos (by omega), if_pos (by omega), if_pos (by omega), if_pos (by omega), w64_succ (n := l.length) (by omega) (by omega)]
    · rw [rd_drop l i (by omega), fallsFrom]
      by_cases h : rd l (i : Int) > rd l ((i - 1 : Nat) : Int)
      · simp only [h, if_true]
        rw [decide_eq_false (by omega), Bool.false_and, Bool.false_and]
        exact Ev.is rfl
      · simp only [h, if_false]
        rw [decide_eq_true (by omega), Bool.true_and]
        have h2 := ih (i + 1) (by omega) (by omega)
        rw [Nat.add_sub_cancel] at h2
        exact h2
theorem falls_ge (l : List Int) (h : 1 ≤ l.length) : falls l = fallsFrom (rd l ((1 - 1 : Nat) : Int)) (l.drop 1) := by
  cases l with
  | nil => simp at h
  | cons x l => rfl
theorem huGood_ev (l : List Int) (a b : Int) (h : huGv a b = true) (hn : l.length ≤ 4611686018427387904) : Ev (fun k => spec_huGood.f k l a b) (huIs l a b) := by
  unfold spec_huGood.f huIs
  simp only [huGv, inB_iff, Bool.and_eq_true] at h
  rw [l1In_inB]
  refine Ev.bind0 rfl ?_
  by_cases h3 : 3 ≤ l.length ∧ l.length ≤ 4
  · have h4 : inB 3 4 (l.length : Int) = true := by rw [inB_iff]; omega
    rw [h4, decide_eq_true h3, Bool.true_and]
    simp only [if_true]
    refine Ev.bind (l1All_ev l 1 100000 hn) ?_
    cases hA : l.all (inB 1 100000) with
    | false =>
      simp only [Bool.false_and, Bool.not_false]
      exact Ev.step (f := fun _ => some false) (fun k => by simp only [spec_huGood.j0, if_true]) (Ev.is rfl)
    | true =>
      have hl := all_iff.1 hA
      simp only [Bool.true_and, Bool.not_true]
      refine Ev.step (f := fun k => spec_huGood.l0 k l a b ((1 : Nat) : Int)) (fun k => by simp only [spec_huGood.j0, Bool.false_eq_true, if_false]; rfl) ?_
      rw [falls_ge l (by omega)]
      refine huGood_falls l a b _ (by omega) ?_ (l.length - 1) 1 (by omega) (by omega)
      refine Ev.bind (huSquares_ev l hl (by omega)) (Ev.bind (huProduct_ev l a (by omega) hl (by omega)) (Ev.is ?_))
      have hs := sqs_bd hl
      have hp := prd_pos (fun x hx => (hl x hx).1)
      have hap := mul_bd2 (p := a) (x := prd l) (P := 20) (X := prd l) (by omega) (by omega) hp (by omega)
      generalize a * prd l = q at hap
      have w1 : wrap64 (min q 1000000000000 + b) = min q 1000000000000 + b := w64 (by omega) (by omega)
      rw [w1]
      congr 1
      rw [beq_dec]
      exact decide_eq_decide.2 (by omega)
  · have h4 : inB 3 4 (l.length : Int) = false := by rw [Bool.eq_false_iff]; intro h5; rw [inB_iff] at h5; omega
    rw [h4, decide_eq_false h3, Bool.false_and]
    simp only [Bool.false_eq_true, if_false]
    exact Ev.step (f := fun _ => some false) (fun k => by simp only [spec_huGood.j0, if_true]) (Ev.is rfl)

theorem isHurwitz_upto (l : List Int) (hl : ∀ x ∈ l, 1 ≤ x ∧ x ≤ 100000) (hn : l.length ≤ 4) (b : Int) (hb : -50 ≤ b ∧ b ≤ 50) (d : Nat) : ∀ (i : Nat) (s p : Int), i + d = l.length → 0 ≤ s → s + 10000000000 * (d : Int) ≤ 9000000000000000000 → 0 ≤ p → p ≤ 100000000000 → Ev (fun k => impl_isHurwitz.l0 k l b s p l (l.length : Int) (i : Int)) ((if i = 0 then falls (l.drop i) else fallsFrom (rd l ((i - 1 : Nat) : Int)) (l.drop i)) && decide (s + sqs (l.drop i) = min (p * prd (l.drop i)) 100000000000 + b)) := by
  induction d with
  | zero =>
    intro i s p hid h0 h1 h2 h3
    refine Ev.step (f := fun _ => some (s == wrap64 (p + b))) (fun k => by simp only [impl_isHurwitz.l0]; rw [if_neg (by omega)]) ?_
    rw [List.drop_eq_nil_of_le (by omega), sqs, prd, Int.add_zero, Int.mul_one, Int.min_eq_left h3, w64 (by omega) (by omega)]
    refine Ev.is ?_
    rw [beq_dec]
    simp [falls, fallsFrom]
  | succ d ih =>
    intro i s p hid h0 h1 h2 h3
    have hx := hl _ (rd_mem (l := l) (i := i) (by omega))
    have hs := sq_bd hx
    have hp := mul_bd2 h2 h3 hx.1 hx.2
    have w1 : wrap64 (rd l (i : Int) * rd l (i : Int)) = rd l (i : Int) * rd l (i : Int) := w64 (by omega) (by omega)
    have w2 : wrap64 (s + rd l (i : Int) * rd l (i : Int)) = s + rd l (i : Int) * rd l (i : Int) := w64 (by omega) (by omega)
    have w3 : wrap64 (p * rd l (i : Int)) = p * rd l (i : Int) := w64 (by omega) (by omega)
    have hq := prd_pos (fun x hx => (drop_all hl (i + 1) x hx).1)
    have hmn : mn (p * rd l (i : Int)) 100000000000 = min (p * rd l (i : Int)) 100000000000 := by
      unfold mn
      split <;> omega
    have hnext := ih (i + 1) (s + rd l (i : Int) * rd l (i : Int)) (min (p * rd l (i : Int)) 100000000000) (by omega) (by omega) (by omega) (by omega) (by omega)
    rw [if_neg (by omega), Nat.add_sub_cancel, cap_mul (by omega) hq (by omega), Int.add_assoc, Int.mul_assoc] at hnext
    by_cases hi : i = 0
    · subst hi
      refine Ev.step (f := fun k => impl_isHurwitz.l0 k l b (s + rd l ((0 : Nat) : Int) * rd l ((0 : Nat) : Int)) (min (p * rd l ((0 : Nat) : Int)) 100000000000) l (l.length : Int) ((0 + 1 : Nat) : Int)) (fun k => ?_) ?_
      · simp only [impl_isHurwitz.l0]
        rw [if_pos (by omega), if_pos (by omega), if_pos (by omega), if_neg (by omega), w1, w2, w3, hmn, w64_succ (n := l.length) (by omega) (by omega)]
      · rw [if_pos rfl, rd_drop l 0 (by omega), falls, sqs, prd]
        exact hnext
    · have w4 : wrap64 ((i : Int) - 1) = ((i - 1 : Nat) : Int) := by rw [w64 (by omega) (by omega)]; omega
      refine Ev.step (f := fun k => if rd l ((i - 1 : Nat) : Int) < rd l (i : Int) then some false else impl_isHurwitz.l0 k l b (s + rd l (i : Int) * rd l (i : Int)) (min (p * rd l (i : Int)) 100000000000) l (l.length : Int) ((i + 1 : Nat) : Int)) (fun k => ?_) ?_
      · simp only [impl_isHurwitz.l0]
        rw [if_pos (by omega), if_pos (by omega), if_pos (by omega), if_pos (by omega), w4, if_pos (by omega), if_pos (by omega), w1, w2, w3, hmn, w64_succ (n := l.length) (by omega) (by omega)]
      · rw [if_neg hi, rd_drop l i (by omega), fallsFrom, sqs, prd]
        by_cases h : rd l ((i - 1 : Nat) : Int) < rd l (i : Int)
        · simp only [h, if_true]
          rw [decide_eq_false (by omega), Bool.false_and, Bool.false_and]
          exact Ev.is rfl
        · simp only [h, if_false]
          rw [decide_eq_true (by omega), Bool.true_and]
          exact hnext
theorem isHurwitz_ev (l : List Int) (a b : Int) (h : huGv a b = true) : Ev (fun k => impl_isHurwitz.f k l a b) (huIs l a b) := by
  unfold impl_isHurwitz.f huIs
  simp only [huGv, inB_iff, Bool.and_eq_true] at h
  rw [within_inB]
  refine Ev.bind0 rfl ?_
  by_cases h3 : 3 ≤ l.length ∧ l.length ≤ 4
  · have h4 : inB 3 4 (l.length : Int) = true := by rw [inB_iff]; omega
    rw [h4, decide_eq_true h3, Bool.true_and]
    simp only [if_true]
    refine Ev.bind0 rfl ?_
    cases hA : l.all (inB 1 100000) with
    | false =>
      simp only [Bool.false_and, Bool.not_false]
      exact Ev.step (f := fun _ => some false) (fun k => by simp only [impl_isHurwitz.j0, if_true]) (Ev.is rfl)
    | true =>
      have hl := all_iff.1 hA
      simp only [Bool.true_and, Bool.not_true]
      refine Ev.step (f := fun k => impl_isHurwitz.l0 k l b 0 a l (l.length : Int) ((0 : Nat) : Int)) (fun k => by simp only [impl_isHurwitz.j0, Bool.false_eq_true, if_false]; rfl) ?_
      have hE := isHurwitz_upto l hl (by omega) b h.2 l.length 0 0 a (by omega) (by omega) (by omega) (by omega) (by omega)
      rw [if_pos rfl, List.drop_zero, Int.zero_add] at hE
      have hs := sqs_bd hl
      have hp := prd_pos (fun x hx => (hl x hx).1)
      have hap := mul_bd2 (p := a) (x := prd l) (P := 20) (X := prd l) (by omega) (by omega) hp (by omega)
      have he : decide (sqs l = a * prd l + b) = decide (sqs l = min (a * prd l) 100000000000 + b) := by
        generalize a * prd l = q at hap
        exact decide_eq_decide.2 (by omega)
      rw [he]
      exact hE
  · have h4 : inB 3 4 (l.length : Int) = false := by rw [Bool.eq_false_iff]; intro h5; rw [inB_iff] at h5; omega
    rw [h4, decide_eq_false h3, Bool.false_and]
    simp only [Bool.false_eq_true, if_false]
    exact Ev.step (f := fun _ => some false) (fun k => by simp only [impl_isHurwitz.j0, if_true]) (Ev.is rfl)

/-- What a solution's numbers are. -/
theorem huIs_iff {l : List Int} {a b : Int} : huIs l a b = true ↔ (3 ≤ l.length ∧ l.length ≤ 4) ∧ (∀ x ∈ l, 1 ≤ x ∧ x ≤ 100000) ∧ falls l = true ∧ sqs l = a * prd l + b := by
  simp only [huIs, Bool.and_eq_true, decide_eq_true_eq, all_iff]

/-- The other root. -/
def oth (l : List Int) (a : Int) (i : Nat) : Int := a * prd (l.eraseIdx i) - rd l (i : Int)
def prdBut (i : Nat) : Nat → List Int → Int
  | _, [] => 1
  | j, x :: l => (if j = i then 1 else x) * prdBut i (j + 1) l
theorem prdBut_past (i : Nat) (l : List Int) : ∀ j, i < j → prdBut i j l = prd l := by
  induction l with
  | nil => intro j h; rfl
  | cons x l ih =>
    intro j h
    rw [prdBut, prd, if_neg (by omega), ih (j + 1) (by omega)]
theorem prdBut_erase (l : List Int) : ∀ (j i : Nat), prdBut (j + i) j l = prd (l.eraseIdx i) := by
  induction l with
  | nil => intro j i; rfl
  | cons x l ih =>
    intro j i
    cases i with
    | zero => rw [prdBut, if_pos (by omega), Int.one_mul, List.eraseIdx_cons_zero, prdBut_past _ _ _ (by omega)]
    | succ i => rw [prdBut, if_neg (by omega), List.eraseIdx_cons_succ, prd, show j + (i + 1) = (j + 1) + i by omega, ih (j + 1) i]
theorem prdBut_pos (i : Nat) (l : List Int) (h : ∀ x ∈ l, 1 ≤ x) : ∀ j, 1 ≤ prdBut i j l := by
  induction l with
  | nil => intro j; simp [prdBut]
  | cons x l ih =>
    intro j
    have h1 := h x List.mem_cons_self
    have h2 := ih (fun y hy => h y (List.mem_cons_of_mem _ hy)) (j + 1)
    rw [prdBut]
    split
    · omega
    · have := Int.mul_le_mul h1 h2 (by omega) (by omega)
      omega
theorem otherRoot_upto (l : List Int) (hl : ∀ x ∈ l, 1 ≤ x ∧ x ≤ 100000) (hn : l.length ≤ 1000000) (t : Nat) (ht : t < l.length) (d : Nat) : ∀ (i : Nat) (p : Int), i + d = l.length → 1 ≤ p → p * prdBut t i (l.drop i) ≤ 1000000000000 → Ev (fun k => impl_otherRoot.l0 k l (t : Int) p l (l.length : Int) (i : Int)) (p * prdBut t i (l.drop i) - rd l (t : Int)) := by
  have hr := hl _ (rd_mem ht)
  induction d with
  | zero =>
    intro i p hid h0 h1
    rw [List.drop_eq_nil_of_le (by omega), prdBut, Int.mul_one] at h1 ⊢
    refine Ev.step (f := fun _ => some (p - rd l (t : Int))) (fun k => by simp only [impl_otherRoot.l0]; rw [if_neg (by omega), if_pos (by omega), if_pos (by omega), w64 (by omega) (by omega)]) (Ev.is rfl)
  | succ d ih =>
    intro i p hid h0 h1
    have hx := hl _ (rd_mem (l := l) (i := i) (by omega))
    rw [rd_drop l i (by omega), prdBut] at h1 ⊢
    have hq := prdBut_pos t (l.drop (i + 1)) (fun x hx => (drop_all hl (i + 1) x hx).1) (i + 1)
    by_cases h : i = t
    · subst h
      rw [if_pos rfl, Int.one_mul] at h1 ⊢
      refine Ev.step (f := fun k => impl_otherRoot.l0 k l (i : Int) p l (l.length : Int) ((i + 1 : Nat) : Int)) (fun k => ?_) (ih (i + 1) p (by omega) h0 h1)
      simp only [impl_otherRoot.l0]
      rw [if_pos (by omega), if_pos (by omega), if_pos (by omega), if_pos trivial, w64_succ (n := l.length) (by omega) (by omega)]
    · rw [if_neg h, ← Int.mul_assoc] at h1 ⊢
      have hb := mul_bd2 (p := p) (P := p) (by omega) (by omega) hx.1 hx.2
      have hb2 := mul_bd2 (p := p * rd l (i : Int)) (P := p * rd l (i : Int)) (by omega) (by omega) hq (Int.le_refl _)
      refine Ev.step (f := fun k => impl_otherRoot.l0 k l (t : Int) (p * rd l (i : Int)) l (l.length : Int) ((i + 1 : Nat) : Int)) (fun k => ?_) (ih (i + 1) _ (by omega) (by omega) h1)
      simp only [impl_otherRoot.l0]
      rw [if_pos (by omega), if_pos (by omega), if_pos (by omega), if_neg (by omega), w64 (x := p * rd l (i : Int)) (by omega) (by omega), w64_succ (n := l.length) (by omega) (by omega)]
theorem otherRoot_ev (l : List Int) (a : Int) (i : Nat) (hl : ∀ x ∈ l, 1 ≤ x ∧ x ≤ 100000) (hn : l.length ≤ 1000000) (hi : i < l.length) (ha : 1 ≤ a) (hp : a * prd (l.eraseIdx i) ≤ 1000000000000) : Ev (fun k => impl_otherRoot.f k l a (i : Int)) (oth l a i) := by
  unfold impl_otherRoot.f oth
  have he := prdBut_erase l 0 i
  rw [Nat.zero_add] at he
  have h := otherRoot_upto l hl hn i hi l.length 0 a (by omega) ha (by rw [List.drop_zero, he]; exact hp)
  rw [List.drop_zero, he] at h
  exact h
theorem own_is (l : List Int) (h : l.length < 17592186044416) : spec_l1Own.f l = some l := by
  unfold spec_l1Own.f
  simp [h]
theorem huOther_ev (l : List Int) (a : Int) (i : Nat) (hl : ∀ x ∈ l, 1 ≤ x ∧ x ≤ 100000) (hn : l.length ≤ 1000000) (hi : i < l.length) (ha : 1 ≤ a ∧ a ≤ 1000000000000) (hp : a * prd (l.eraseIdx i) ≤ 1000000000000) : Ev (fun k => spec_huOther.f k l a (i : Int)) (oth l a i) := by
  unfold spec_huOther.f oth
  have w1 : wrap64 ((i : Int) + 1) = ((i + 1 : Nat) : Int) := w64_succ (n := l.length) hi (by omega)
  simp only [w1, Int.toNat_natCast]
  have hr := hl _ (rd_mem hi)
  have c1 : (0 : Int) ≤ (i : Int) := by omega
  have c2 : (i : Int) ≤ (l.length : Int) := by omega
  have c3 : (0 : Int) ≤ ((i + 1 : Nat) : Int) := by omega
  have c4 : ((i + 1 : Nat) : Int) ≤ (l.length : Int) := by omega
  have c5 : (i : Int) < (l.length : Int) := by omega
  simp only [c1, c2, c3, c4, c5, if_true]
  refine Ev.bind0 (own_is _ (by rw [List.length_take]; omega)) ?_
  have hlen : (l.take i).length + (l.drop (i + 1)).length < 17592186044416 := by rw [List.length_take, List.length_drop]; omega
  simp only [hlen, if_true]
  have he : l.take i ++ l.drop (i + 1) = l.eraseIdx i := (List.eraseIdx_eq_take_drop_succ ..).symm
  rw [he]
  have hle : ∀ x ∈ l.eraseIdx i, 1 ≤ x ∧ x ≤ 100000 := fun x hx => hl x (List.mem_of_mem_eraseIdx hx)
  have hq := prd_pos (fun x hx => (hle x hx).1)
  have hb := mul_bd2 (p := a) (P := a) (by omega) (by omega) hq (Int.le_refl _)
  refine Ev.bind (huProduct_ev (l.eraseIdx i) a (by omega) hle (by have := List.length_eraseIdx_le l i; omega)) (Ev.is ?_)
  rw [Int.min_eq_left hp, w64 (by omega) (by omega)]
/-- The product is one number times the others'. -/
theorem prd_erase (l : List Int) (i : Nat) (hi : i < l.length) : prd l = rd l (i : Int) * prd (l.eraseIdx i) := by
  induction l generalizing i with
  | nil => simp at hi
  | cons x l ih =>
    cases i with
    | zero => simp [prd, rd]
    | succ i =>
      have h1 : i < l.length := by simpa using hi
      rw [List.eraseIdx_cons_succ, prd, prd, ih i h1, rd_lt _ _ hi, rd_lt _ _ h1, List.getElem_cons_succ]
      grind
theorem sqs_mem (l : List Int) (i : Nat) (hi : i < l.length) : sqs l = rd l (i : Int) * rd l (i : Int) + sqs (l.eraseIdx i) := by
  induction l generalizing i with
  | nil => simp at hi
  | cons x l ih =>
    cases i with
    | zero => simp [sqs, rd]
    | succ i =>
      have h1 : i < l.length := by simpa using hi
      rw [List.eraseIdx_cons_succ, sqs, sqs, ih i h1, rd_lt _ _ hi, rd_lt _ _ h1, List.getElem_cons_succ]
      omega
/-- In a solution the others' product is not too great. -/
theorem huIs_bd {l : List Int} {a b : Int} (hg : huGv a b = true) (h : huIs l a b = true) (i : Nat) (hi : i < l.length) : 1 ≤ a ∧ a ≤ 20 ∧ 1 ≤ a * prd (l.eraseIdx i) ∧ a * prd (l.eraseIdx i) ≤ 40000000050 := by
  obtain ⟨h1, h2, h3, h4⟩ := huIs_iff.1 h
  simp only [huGv, inB_iff, Bool.and_eq_true] at hg
  have hs := sqs_bd h2
  have hr := h2 _ (rd_mem hi)
  have hq := prd_pos (l := l.eraseIdx i) (fun x hx => (h2 x (List.mem_of_mem_eraseIdx hx)).1)
  rw [prd_erase l i hi] at h4
  have hb := mul_bd2 (p := a) (P := a) (by omega) (by omega) hq (Int.le_refl _)
  have hb2 := mul_bd2 (p := a * prd (l.eraseIdx i)) (P := a * prd (l.eraseIdx i)) (by omega) (by omega) hr.1 hr.2
  have he : a * (rd l (i : Int) * prd (l.eraseIdx i)) = a * prd (l.eraseIdx i) * rd l (i : Int) := by grind
  rw [he] at h4
  omega
theorem other_both {l : List Int} {a b : Int} (hg : huGv a b = true) (h : huIs l a b = true) (i : Nat) (hi : i < l.length) : Ev (fun k => impl_otherRoot.f k l a (i : Int)) (oth l a i) ∧ Ev (fun k => spec_huOther.f k l a (i : Int)) (oth l a i) := by
  have hb := huIs_bd hg h i hi
  obtain ⟨h1, h2, h3, h4⟩ := huIs_iff.1 h
  exact ⟨otherRoot_ev l a i h2 (by omega) hi (by omega) (by omega), huOther_ev l a i h2 (by omega) hi (by omega) (by omega)⟩
end Go.Proofs.Ytgpoljimomfbbaa.P

-- UhuAt
namespace Go.Proofs.Ytgpoljimomfbbaa.P
set_option linter.unusedVariables false
set_option linter.unusedSimpArgs false
open Go.RowKit Go.Proofs.YtgpoljimomfbbaaW.PrintWords Go.Proofs.YtgpoljimomfbbaaW.PrintLast Go.Proofs.YtgpoljimomfbbaaW.PrintMore

def huSol (l : List Int) (a b : Int) : Bool := huGv a b && huIs l a b
theorem isSolution_ev (l : List Int) (a b : Int) : Ev (fun k => impl_isSolution.f k l a b) (huSol l a b) := by
  unfold impl_isSolution.f huSol
  refine Ev.bind0 (areGiven_is a b) ?_
  cases hg : huGv a b with
  | false =>
    simp only [Bool.false_eq_true, if_false, Bool.false_and]
    exact Ev.is rfl
  | true =>
    simp only [if_true, Bool.true_and]
    exact Ev.bind (isHurwitz_ev l a b hg) (Ev.is rfl)
theorem huSol_iff {l : List Int} {a b : Int} : huSol l a b = true ↔ huGv a b = true ∧ huIs l a b = true := by simp [huSol]
/-- What stands behind both texts' tests: the index is one of the list's. -/
theorem index_of {l : List Int} {i : Int} (hl : 1 ≤ l.length) (hn : l.length ≤ 4) : inB 0 (wrap64 ((l.length : Int) - 1)) i = decide (0 ≤ i ∧ i < l.length) := by
  rw [w64 (by omega) (by omega)]
  unfold inB
  simp only [Bool.decide_and]
  congr 1
  exact decide_eq_decide.2 (by omega)
/-- If it's a solution and an index, go on; otherwise say no: the reference's tests. -/
theorem spec_tests {α : Type} (l : List Int) (a b i : Int) (hn : l.length ≤ 4611686018427387904) (no r : α) (f : Nat → Option α) (h : huSol l a b = true → 0 ≤ i → i < l.length → Ev f r) (hno : (huSol l a b && decide (0 ≤ i ∧ i < l.length)) = false → r = no) :
    Ev (fun k => (spec_huGiven.f a b).bind fun t => if t = true then ((spec_huGood.f k l a b).bind fun t => if t = true then ((spec_l1In.f i 0 (wrap64 ((l.length : Int) - 1))).bind fun t => if t = true then f k else some no) else some no) else some no) r := by
  refine Ev.bind0 (huGiven_is a b) ?_
  cases hg : huGv a b with
  | false =>
    simp only [Bool.false_eq_true, if_false]
    exact Ev.is (by rw [hno (by simp [huSol, hg])])
  | true =>
    simp only [if_true]
    refine Ev.bind (huGood_ev l a b hg hn) ?_
    cases hs : huIs l a b with
    | false =>
      simp only [Bool.false_eq_true, if_false]
      exact Ev.is (by rw [hno (by simp [huSol, hs])])
    | true =>
      simp only [if_true]
      have h1 := (huIs_iff.1 hs).1
      rw [l1In_inB, index_of (by omega) h1.2]
      refine Ev.bind0 rfl ?_
      by_cases hi : 0 ≤ i ∧ i < l.length
      · rw [decide_eq_true hi]
        simp only [if_true]
        exact h (by simp [huSol, hg, hs]) hi.1 hi.2
      · rw [decide_eq_false hi]
        simp only [Bool.false_eq_true, if_false]
        exact Ev.is (by rw [hno (by rw [decide_eq_false hi, Bool.and_false])])
/-- The same: the program's tests. -/
theorem impl_tests {α : Type} (l : List Int) (a b i : Int) (no r : α) (f : Nat → Option α) (h : huSol l a b = true → 0 ≤ i → i < l.length → Ev f r) (hno : (huSol l a b && decide (0 ≤ i ∧ i < l.length)) = false → r = no) :
    Ev (fun k => (impl_isSolution.f k l a b).bind fun t => if t = true then ((impl_within.f i 0 (wrap64 ((l.length : Int) - 1))).bind fun t => if t = true then f k else some no) else some no) r := by
  refine Ev.bind (isSolution_ev l a b) ?_
  cases hs : huSol l a b with
  | false =>
    simp only [Bool.false_eq_true, if_false]
    exact Ev.is (by rw [hno (by simp [hs])])
  | true =>
    simp only [if_true]
    have h1 := (huIs_iff.1 (huSol_iff.1 hs).2).1
    rw [within_inB, index_of (by omega) h1.2]
    refine Ev.bind0 rfl ?_
    by_cases hi : 0 ≤ i ∧ i < l.length
    · rw [decide_eq_true hi]
      simp only [if_true]
      exact h hs hi.1 hi.2
    · rw [decide_eq_false hi]
      simp only [Bool.false_eq_true, if_false]
      exact Ev.is (by rw [hno (by rw [decide_eq_false hi, Bool.and_false])])

def othAt (l : List Int) (a b i : Int) : Int × Bool := if huSol l a b && decide (0 ≤ i ∧ i < l.length) then (oth l a i.toNat, true) else (0, false)
end Go.Proofs.Ytgpoljimomfbbaa.P

-- UhuLast
namespace Go.Proofs.Ytgpoljimomfbbaa.P
set_option linter.unusedVariables false
set_option linter.unusedSimpArgs false
open Go.RowKit Go.Proofs.YtgpoljimomfbbaaW.PrintWords Go.Proofs.YtgpoljimomfbbaaW.PrintLast Go.Proofs.YtgpoljimomfbbaaW.PrintMore
def lastOf (l : List Int) (a : Int) : Bool := !inB 1 (rd l 0 - 1) (oth l a 0)
theorem last_both {l : List Int} {a b : Int} (hg : huGv a b = true) (h : huIs l a b = true) : Ev (fun k => impl_isFundamental.f k l a) (lastOf l a) ∧ Ev (fun k => spec_huLast.f k l a) (lastOf l a) := by
  obtain ⟨h1, h2, h3, h4⟩ := huIs_iff.1 h
  obtain ⟨e1, e2⟩ := other_both hg h 0 (by omega)
  have hr := h2 _ (rd_mem (l := l) (i := 0) (by omega))
  have c : (0 : Int) < (l.length : Int) := by omega
  have w1 : wrap64 (rd l 0 - 1) = rd l 0 - 1 := w64 (by have : rd l 0 = rd l ((0 : Nat) : Int) := rfl; omega) (by have : rd l 0 = rd l ((0 : Nat) : Int) := rfl; omega)
  unfold impl_isFundamental.f spec_huLast.f lastOf
  simp only [c, if_true, w1]
  constructor
  · refine Ev.bind e1 ?_
    rw [within_inB]
    exact Ev.is rfl
  · refine Ev.bind e2 ?_
    rw [l1In_inB]
    exact Ev.is rfl
def isFund (l : List Int) (a b : Int) : Bool × Bool := if huSol l a b then (lastOf l a, true) else (false, false)
theorem impl_IsFundamental_ev (l : List Int) (a b : Int) : Ev (fun k => impl_IsFundamental.f k l a b) (isFund l a b) := by
  unfold impl_IsFundamental.f isFund
  refine Ev.bind (isSolution_ev l a b) ?_
  cases hs : huSol l a b with
  | false =>
    simp only [Bool.false_eq_true, if_false]
    exact Ev.is rfl
  | true =>
    simp only [if_true]
    exact Ev.bind (last_both (huSol_iff.1 hs).1 (huSol_iff.1 hs).2).1 (Ev.is rfl)
end Go.Proofs.Ytgpoljimomfbbaa.P

-- PFspecClimbHurwitz
namespace Go.Proofs.Ytgpoljimomfbbaa.P
open Go.RowKit Go.Proofs.YtgpoljimomfbbaaW.PrintWords Go.Proofs.YtgpoljimomfbbaaW.PrintLast
set_option linter.unusedVariables false
set_option linter.unusedSimpArgs false

/-! ### spec_ClimbHurwitz: function 44 -/
mutual
def spec_ClimbHurwitz.j0 : Nat → List Int → Int → List Int → Bool → Option (List Int × Bool)
 | 0, _, _, _, _ => none
 | k + 1, x0, x1, x3, x38 => if x38 = true then (some (([] : List Int), false)) else ((spec_l1Own.f x0).bind fun t754 => (spec_ClimbHurwitz.l0 k x1 t754 x3 (x3.length : Int) 0))
def spec_ClimbHurwitz.l0 : Nat → Int → List Int → List Int → Int → Int → Option (List Int × Bool)
 | 0, _, _, _, _, _ => none
 | k + 1, x1, x10, x41, x42, x43 => if x43 < x42 then (if 0 ≤ x43 then (if x43 < (x41.length : Int) then ((spec_huJump.f k x10 x1 (rd x41 x43)).bind fun bt758 => (if bt758.2 = true then (spec_ClimbHurwitz.l0 k x1 bt758.1 x41 x42 (wrap64 (x43 + 1))) else (some (([] : List Int), false)))) else (none)) else (none)) else (some (x10, true))
end
def spec_ClimbHurwitz.f (k : Nat) (l0 : List Int) (a1 : Int) (a2 : Int) (l3 : List Int) : Option (List Int × Bool) := (spec_huGiven.f a1 a2).bind fun t751 => (if t751 = true then ((spec_huGood.f k l0 a1 a2).bind fun t752 => (if t752 = true then (if (l3.length : Int) > 40 then (spec_ClimbHurwitz.j0 k l0 a1 l3 true) else ((spec_l1All.f k l3 0 (wrap64 ((l0.length : Int) - 1))).bind fun t753 => (spec_ClimbHurwitz.j0 k l0 a1 l3 (!t753)))) else (spec_ClimbHurwitz.j0 k l0 a1 l3 true))) else (spec_ClimbHurwitz.j0 k l0 a1 l3 true))
theorem spec_ClimbHurwitz.mono_l : ∀ k, (∀ y0 y1 y2 y3, LeO (spec_ClimbHurwitz.j0 k y0 y1 y2 y3) (spec_ClimbHurwitz.j0 (k + 1) y0 y1 y2 y3)) ∧ (∀ y0 y1 y2 y3 y4, LeO (spec_ClimbHurwitz.l0 k y0 y1 y2 y3 y4) (spec_ClimbHurwitz.l0 (k + 1) y0 y1 y2 y3 y4))
 | 0 => ⟨fun _ _ _ _ r h => by simp [spec_ClimbHurwitz.j0] at h, fun _ _ _ _ _ r h => by simp [spec_ClimbHurwitz.l0] at h⟩
 | k + 1 => by
  obtain ⟨ih0, ih1⟩ := spec_ClimbHurwitz.mono_l k
  refine ⟨?_, ?_⟩
  ·intro y0 y1 y2 y3
   unfold spec_ClimbHurwitz.j0
   repeat' first
   | (with_reducible exact ih0 _ _ _ _)
   | (with_reducible exact ih1 _ _ _ _ _)
   | (with_reducible exact spec_huGood.mono _ _ _ _)
   | (with_reducible exact spec_huJump.mono _ _ _ _)
   | (with_reducible exact spec_l1All.mono _ _ _ _)
   | (with_reducible exact LeO.refl _)
   | (with_reducible exact LeO.none _)
   | (with_reducible refine LeO.ite ?_ ?_)
   | (with_reducible refine LeO.bind ?_ (fun _ => ?_))
   | exact ih0 _ _ _ _
   | exact ih1 _ _ _ _ _
   | exact spec_huGood.mono _ _ _ _
   | exact spec_huJump.mono _ _ _ _
   | exact spec_l1All.mono _ _ _ _
   | exact LeO.none _
   | refine LeO.ite ?_ ?_
   | refine LeO.bind ?_ (fun _ => ?_)
  ·intro y0 y1 y2 y3 y4
   unfold spec_ClimbHurwitz.l0
   repeat' first
   | (with_reducible exact ih0 _ _ _ _)
   | (with_reducible exact ih1 _ _ _ _ _)
   | (with_reducible exact spec_huGood.mono _ _ _ _)
   | (with_reducible exact spec_huJump.mono _ _ _ _)
   | (with_reducible exact spec_l1All.mono _ _ _ _)
   | (with_reducible exact LeO.refl _)
   | (with_reducible exact LeO.none _)
   | (with_reducible refine LeO.ite ?_ ?_)
   | (with_reducible refine LeO.bind ?_ (fun _ => ?_))
   | exact ih0 _ _ _ _
   | exact ih1 _ _ _ _ _
   | exact spec_huGood.mono _ _ _ _
   | exact spec_huJump.mono _ _ _ _
   | exact spec_l1All.mono _ _ _ _
   | exact LeO.none _
   | refine LeO.ite ?_ ?_
   | refine LeO.bind ?_ (fun _ => ?_)
theorem spec_ClimbHurwitz.mono : ∀ a0 a1 a2 a3 k, LeO (spec_ClimbHurwitz.f k a0 a1 a2 a3) (spec_ClimbHurwitz.f (k + 1) a0 a1 a2 a3) := by
 intro a0 a1 a2 a3 k
 obtain ⟨ih0, ih1⟩ := spec_ClimbHurwitz.mono_l k
 unfold spec_ClimbHurwitz.f
 repeat' first
   | (with_reducible exact ih0 _ _ _ _)
   | (with_reducible exact ih1 _ _ _ _ _)
   | (with_reducible exact spec_huGood.mono _ _ _ _)
   | (with_reducible exact spec_huJump.mono _ _ _ _)
   | (with_reducible exact spec_l1All.mono _ _ _ _)
   | (with_reducible exact LeO.refl _)
   | (with_reducible exact LeO.none _)
   | (with_reducible refine LeO.ite ?_ ?_)
   | (with_reducible refine LeO.bind ?_ (fun _ => ?_))
   | exact ih0 _ _ _ _
   | exact ih1 _ _ _ _ _
   | exact spec_huGood.mono _ _ _ _
   | exact spec_huJump.mono _ _ _ _
   | exact spec_l1All.mono _ _ _ _
   | exact LeO.none _
   | refine LeO.ite ?_ ?_
   | refine LeO.bind ?_ (fun _ => ?_)
set_option maxHeartbeats 8000000 in
set_option maxRecDepth 100000 in
theorem spec_ClimbHurwitz.calls (k : Nat) (A0 : Option Addr) (c0 : Nat) (l0 : List Int) (a1 : Int) (a2 : Int) (A3 : Option Addr) (c3 : Nat) (l3 : List Int) (r1 : List Int) (r2 : Bool) (w : World) (hr0 : Kd.C (Kd.int .i64) w A0 l0.length l0) (hc0 : l0.length ≤ c0) (hr3 : Kd.C (Kd.int .i64) w A3 l3.length l3) (hc3 : l3.length ≤ c3) (h : spec_ClimbHurwitz.f k l0 a1 a2 l3 = some (r1, r2)) :
  Calls Try.prog 44 #[.slice A0 l0.length c0, .int .i64 a1, .int .i64 a2, .slice A3 l3.length c3] w fun e w' => ∃ v0_ : Value, e = .returned (.tuple #[v0_, .bool r2]) ∧ Kd.R (Kd.int .i64) 3 w' w.heap.size (fun _ => True) v0_ r1 ∧ Below w.heap.size w w' := by
 have HR0 := Aside0.mk hr0
 have HC0 := Aside0.mk hc0
 clear hr0 hc0
 have HR3 := Aside0.mk hr3
 have HC3 := Aside0.mk hc3
 clear hr3 hc3
 have HB := Aside0.mk (Below.refl w.heap.size w)
 have H : ((spec_huGiven.f a1 a2).bind fun t751 => (if t751 = true then ((spec_huGood.f k l0 a1 a2).bind fun t752 => (if t752 = true then (if (l3.length : Int) > 40 then (spec_ClimbHurwitz.j0 k l0 a1 l3 true) else ((spec_l1All.f k l3 0 (wrap64 ((l0.length : Int) - 1))).bind fun t753 => (spec_ClimbHurwitz.j0 k l0 a1 l3 (!t753)))) else (spec_ClimbHurwitz.j0 k l0 a1 l3 true))) else (spec_ClimbHurwitz.j0 k l0 a1 l3 true))) = some (r1, r2) := h
 clear h
 have HC5 := Aside0.mk H
 clear H
 go_enter Try.func44, Try.ntmps44
 go_upto_region 1 with (fail)
 go_cut [38] (fun v38 wc => ∃ (kq : Nat) (x38_4 : Bool), v38 = .bool x38_4 ∧ Aside0 (spec_ClimbHurwitz.j0 kq l0 a1 l3 x38_4 = some (r1, r2)) ∧ Aside0 (kq ≤ k) ∧ Aside0 (Below w.heap.size w wc))
 case first =>
  have H := HC5.out
  clear HC5
  replace H := Option.bind_eq_some_iff.mp H
  obtain ⟨t751, A60, H⟩ := H
  replace H : (if t751 = true then ((spec_huGood.f k l0 a1 a2).bind fun t752 => (if t752 = true then (if (l3.length : Int) > 40 then (spec_ClimbHurwitz.j0 k l0 a1 l3 true) else ((spec_l1All.f k l3 0 (wrap64 ((l0.length : Int) - 1))).bind fun t753 => (spec_ClimbHurwitz.j0 k l0 a1 l3 (!t753)))) else (spec_ClimbHurwitz.j0 k l0 a1 l3 true))) else (spec_ClimbHurwitz.j0 k l0 a1 l3 true)) = some (r1, r2) := H
  have A6 := Aside0.mk A60
  clear A60
  by_cases c7 : t751 = true
  ·subst c7
   have H1 : ((spec_huGood.f k l0 a1 a2).bind fun t752 => (if t752 = true then (if (l3.length : Int) > 40 then (spec_ClimbHurwitz.j0 k l0 a1 l3 true) else ((spec_l1All.f k l3 0 (wrap64 ((l0.length : Int) - 1))).bind fun t753 => (spec_ClimbHurwitz.j0 k l0 a1 l3 (!t753)))) else (spec_ClimbHurwitz.j0 k l0 a1 l3 true))) = some (r1, r2) := by rw [if_pos rfl] at H; exact H
   clear H
   have H := H1
   clear H1
   replace H := Option.bind_eq_some_iff.mp H
   obtain ⟨t752, A80, H⟩ := H
   replace H : (if t752 = true then (if (l3.length : Int) > 40 then (spec_ClimbHurwitz.j0 k l0 a1 l3 true) else ((spec_l1All.f k l3 0 (wrap64 ((l0.length : Int) - 1))).bind fun t753 => (spec_ClimbHurwitz.j0 k l0 a1 l3 (!t753)))) else (spec_ClimbHurwitz.j0 k l0 a1 l3 true)) = some (r1, r2) := H
   have A8 := Aside0.mk A80
   clear A80
   by_cases c9 : t752 = true
   ·subst c9
    have H1 : (if (l3.length : Int) > 40 then (spec_ClimbHurwitz.j0 k l0 a1 l3 true) else ((spec_l1All.f k l3 0 (wrap64 ((l0.length : Int) - 1))).bind fun t753 => (spec_ClimbHurwitz.j0 k l0 a1 l3 (!t753)))) = some (r1, r2) := by rw [if_pos rfl] at H; exact H
    clear H
    have H := H1
    clear H1
    by_cases c10 : (l3.length : Int) > 40
    ·rw [if_pos c10] at H
     have c10b0 : decide (40 < (l3.length : Int)) = true := decide_eq_true c10
     have c10b1 : decide (40 < l3.length) = true := decide_eq_true (by omega)
     clear c10
     (first | rw [c10b0] | (simp only [i64_w, i32_w]; rw [c10b0]) | skip)
     have H' := Aside0.mk H
     clear H
     go_wp2_with (first | ((with_reducible refine gate_callee (f := 47) rfl ?_); refine goesL_ (some 17) rfl rfl Try.func47 (by kernel_rfl) rfl #[.int .i64 a1, .int .i64 a2] rfl (by (try simp only [List.map_toArray, List.map_cons, List.map_nil]); first | done | rfl | (simp only [List.length_drop, List.length_take]; rfl)) ?_; (with_reducible refine (spec_huGiven.calls a1 a2 true _ A6.out).mono ?_); rintro e w' ⟨rfl, ⟨nd, rfl⟩⟩; refine ⟨_, rfl, ?_⟩) | (go_at_call 48; (with_reducible refine (spec_huGood.calls k _ _ l0 a1 a2 true _ ?side1 ?side2 A8.out).mono ?_); (case side1 => repeat (first | exact (Kd.C_below HR0.out (by repeat (first | (with_reducible first | exact HB.out | apply below_alloc | apply pw_below_drewN | apply below_drew1) | exact HB.out))) | (with_reducible refine Kd.C_alloc ?_ _) | (with_reducible refine Kd.C_drewN ?_ _) | (with_reducible refine Kd.C_drew ?_))); (case side2 => exact HC0.out); rintro e w' ⟨rfl, ⟨nd, rfl⟩⟩))
     go_meet
     case rel => exact ⟨_, (true), (by first | rfl | (simp; done) | (simp [*]; done)), H', ⟨by first | omega | exact Nat.le_refl _⟩, ⟨by repeat (first | (with_reducible first | exact HB.out | apply below_alloc | apply pw_below_drewN | apply below_drew1) | exact HB.out)⟩⟩
    ·rw [if_neg c10] at H
     have c10b0 : decide (40 < (l3.length : Int)) = false := decide_eq_false c10
     have c10b1 : decide (40 < l3.length) = false := decide_eq_false (by omega)
     clear c10
     (first | rw [c10b0] | (simp only [i64_w, i32_w]; rw [c10b0]) | skip)
     replace H := Option.bind_eq_some_iff.mp H
     obtain ⟨t753, A110, H⟩ := H
     replace H : (spec_ClimbHurwitz.j0 k l0 a1 l3 (!t753)) = some (r1, r2) := H
     have A11 := Aside0.mk A110
     clear A110
     have H' := Aside0.mk H
     clear H
     go_wp2_with (first | ((with_reducible refine gate_callee (f := 47) rfl ?_); refine goesL_ (some 17) rfl rfl Try.func47 (by kernel_rfl) rfl #[.int .i64 a1, .int .i64 a2] rfl (by (try simp only [List.map_toArray, List.map_cons, List.map_nil]); first | done | rfl | (simp only [List.length_drop, List.length_take]; rfl)) ?_; (with_reducible refine (spec_huGiven.calls a1 a2 true _ A6.out).mono ?_); rintro e w' ⟨rfl, ⟨nd, rfl⟩⟩; refine ⟨_, rfl, ?_⟩) | (go_at_call 48; (with_reducible refine (spec_huGood.calls k _ _ l0 a1 a2 true _ ?side1 ?side2 A8.out).mono ?_); (case side1 => repeat (first | exact (Kd.C_below HR0.out (by repeat (first | (with_reducible first | exact HB.out | apply below_alloc | apply pw_below_drewN | apply below_drew1) | exact HB.out))) | (with_reducible refine Kd.C_alloc ?_ _) | (with_reducible refine Kd.C_drewN ?_ _) | (with_reducible refine Kd.C_drew ?_))); (case side2 => exact HC0.out); rintro e w' ⟨rfl, ⟨nd, rfl⟩⟩) | (go_at_call 87; (with_reducible refine (spec_l1All.calls k _ _ l3 0 (wrap64 ((l0.length : Int) - 1)) t753 _ ?side1 ?side2 A11.out).mono ?_); (case side1 => repeat (first | exact (Kd.C_below HR3.out (by repeat (first | (with_reducible first | exact HB.out | apply below_alloc | apply pw_below_drewN | apply below_drew1) | exact HB.out))) | (with_reducible refine Kd.C_alloc ?_ _) | (with_reducible refine Kd.C_drewN ?_ _) | (with_reducible refine Kd.C_drew ?_))); (case side2 => exact HC3.out); rintro e w' ⟨rfl, ⟨nd, rfl⟩⟩))
     go_meet
     case rel => exact ⟨_, (!t753), (by first | rfl | (simp; done) | (simp [*]; done)), H', ⟨by first | omega | exact Nat.le_refl _⟩, ⟨by repeat (first | (with_reducible first | exact HB.out | apply below_alloc | apply pw_below_drewN | apply below_drew1) | exact HB.out)⟩⟩
   ·replace c9 := Bool.eq_false_iff.mpr c9
    subst c9
    have H1 : (spec_ClimbHurwitz.j0 k l0 a1 l3 true) = some (r1, r2) := by rw [if_neg (show ¬ (false = true) by decide)] at H; exact H
    clear H
    have H := H1
    clear H1
    have H' := Aside0.mk H
    clear H
    go_wp2_with (first | ((with_reducible refine gate_callee (f := 47) rfl ?_); refine goesL_ (some 17) rfl rfl Try.func47 (by kernel_rfl) rfl #[.int .i64 a1, .int .i64 a2] rfl (by (try simp only [List.map_toArray, List.map_cons, List.map_nil]); first | done | rfl | (simp only [List.length_drop, List.length_take]; rfl)) ?_; (with_reducible refine (spec_huGiven.calls a1 a2 true _ A6.out).mono ?_); rintro e w' ⟨rfl, ⟨nd, rfl⟩⟩; refine ⟨_, rfl, ?_⟩) | (go_at_call 48; (with_reducible refine (spec_huGood.calls k _ _ l0 a1 a2 false _ ?side1 ?side2 A8.out).mono ?_); (case side1 => repeat (first | exact (Kd.C_below HR0.out (by repeat (first | (with_reducible first | exact HB.out | apply below_alloc | apply pw_below_drewN | apply below_drew1) | exact HB.out))) | (with_reducible refine Kd.C_alloc ?_ _) | (with_reducible refine Kd.C_drewN ?_ _) | (with_reducible refine Kd.C_drew ?_))); (case side2 => exact HC0.out); rintro e w' ⟨rfl, ⟨nd, rfl⟩⟩))
    go_meet
    case rel => exact ⟨_, (true), (by first | rfl | (simp; done) | (simp [*]; done)), H', ⟨by first | omega | exact Nat.le_refl _⟩, ⟨by repeat (first | (with_reducible first | exact HB.out | apply below_alloc | apply pw_below_drewN | apply below_drew1) | exact HB.out)⟩⟩
  ·replace c7 := Bool.eq_false_iff.mpr c7
   subst c7
   have H1 : (spec_ClimbHurwitz.j0 k l0 a1 l3 true) = some (r1, r2) := by rw [if_neg (show ¬ (false = true) by decide)] at H; exact H
   clear H
   have H := H1
   clear H1
   have H' := Aside0.mk H
   clear H
   go_wp2_with (first | ((with_reducible refine gate_callee (f := 47) rfl ?_); refine goesL_ (some 17) rfl rfl Try.func47 (by kernel_rfl) rfl #[.int .i64 a1, .int .i64 a2] rfl (by (try simp only [List.map_toArray, List.map_cons, List.map_nil]); first | done | rfl | (simp only [List.length_drop, List.length_take]; rfl)) ?_; (with_reducible refine (spec_huGiven.calls a1 a2 false _ A6.out).mono ?_); rintro e w' ⟨rfl, ⟨nd, rfl⟩⟩; refine ⟨_, rfl, ?_⟩))
   go_meet
   case rel => exact ⟨_, (true), (by first | rfl | (simp; done) | (simp [*]; done)), H', ⟨by first | omega | exact Nat.le_refl _⟩, ⟨by repeat (first | (with_reducible first | exact HB.out | apply below_alloc | apply pw_below_drewN | apply below_drew1) | exact HB.out)⟩⟩
 case rest =>
  clear HC5
  try clear c1
  try clear p2
  try clear c3
  try clear c4
  try clear p6
  try clear c7
  try clear c9
  try clear c10
  try clear c10b0
  try clear c10b1
  obtain ⟨kq, x38_4, rfl, HA, HJ4, HB⟩ := hcut
  cases kq with
  | zero => exact absurd HA.out (by simp [spec_ClimbHurwitz.j0])
  | succ kj4 =>
   have H := HA.out
   clear HA
   simp only [spec_ClimbHurwitz.j0] at H
   by_cases c12 : x38_4 = true
   ·subst c12
    have H1 : (some (([] : List Int), false)) = some (r1, r2) := by rw [if_pos rfl] at H; exact H
    clear H
    have H := H1
    clear H1
    simp only [Option.some.injEq, Prod.mk.injEq] at H
    obtain ⟨rfl, rfl⟩ := H
    go_wp2
    go_ret2
    exact ⟨_, by first | rfl | (simp [errW_none, errW_some] <;> rfl) | (simp [*, errW_none, errW_some] <;> rfl), by first | exact Kd.R_nil _ _ _ _ _ | exact Kd.N_nil _ _ _ _ _ | exact Kd.V_nil _ _ _ _ _ | exact Kd.Q_nil _ _ _ _ _ | exact Kd.S_nil _ _ _ _ _, by repeat (first | (with_reducible first | exact HB.out | apply below_alloc | apply pw_below_drewN | apply below_drew1) | exact HB.out)⟩
   ·replace c12 := Bool.eq_false_iff.mpr c12
    subst c12
    have H1 : ((spec_l1Own.f l0).bind fun t754 => (spec_ClimbHurwitz.l0 kj4 a1 t754 l3 (l3.length : Int) 0)) = some (r1, r2) := by rw [if_neg (show ¬ (false = true) by decide)] at H; exact H
    clear H
    have H := H1
    clear H1
    replace H := Option.bind_eq_some_iff.mp H
    obtain ⟨t754, A130, H⟩ := H
    replace H : (spec_ClimbHurwitz.l0 kj4 a1 t754 l3 (l3.length : Int) 0) = some (r1, r2) := H
    have A13 := Aside0.mk A130
    clear A130
    have H' := Aside0.mk H
    clear H
    go_wp2_with (first | ((with_reducible refine gate_callee (f := 55) rfl ?_); refine goesL_ (some 40) rfl rfl Try.func55 (by kernel_rfl) rfl #[.slice A0 l0.length c0] rfl (by (try simp only [List.map_toArray, List.map_cons, List.map_nil]); first | done | rfl | (simp only [List.length_drop, List.length_take]; rfl)) ?_; (with_reducible refine (spec_l1Own.calls _ _ l0 t754 _ ?side1 ?side2 A13.out).mono ?_); (case side1 => repeat (first | exact (Kd.C_below HR0.out HB.out) | (with_reducible refine Kd.C_alloc ?_ _) | (with_reducible refine Kd.C_drewN ?_ _) | (with_reducible refine Kd.C_drew ?_))); (case side2 => exact HC0.out); rintro e w14 ⟨v755, rfl, ho0, hb⟩; refine ⟨_, rfl, ?_⟩; have n0_ := Aside0.mk (Kd.R_lower ho0 (below_size (by repeat (first | (with_reducible first | exact HB.out | apply below_alloc | apply pw_below_drewN | apply below_drew1) | exact HB.out)))); have n1_ := Aside0.mk (below_step (by repeat (first | (with_reducible first | exact HB.out | apply below_alloc | apply pw_below_drewN | apply below_drew1) | exact HB.out)) hb); clear HB; have HO756 := n0_; have HB := n1_; clear n0_ n1_; (try clear hb); (try clear hb2); (try clear hk); (try clear hi); (try clear ho0)))
    go_loopg [10, 43] kj4 (fun kq v10 v43 w' => ∃ (x10_2 : List Int) (x43_2 : Int), v43 = .int .i64 x43_2 ∧ Aside0 (spec_ClimbHurwitz.l0 kq a1 x10_2 l3 (l3.length : Int) x43_2 = some (r1, r2)) ∧ Aside0 (kq ≤ kj4) ∧ Aside0 (Kd.R (Kd.int .i64) 3 w' w.heap.size (fun _ => True) v10 x10_2) ∧ Aside0 (Below w.heap.size w w'))
    case atStart => exact ⟨(t754), (0), (by first | rfl | (simp; done) | (simp [*]; done)), H', ⟨Nat.le_refl _⟩, ⟨by (with_reducible repeat (first | apply Kd.R_alloc | apply Kd.R_drewN | apply Kd.R_drew)); exact HO756.out⟩, ⟨by repeat (first | (with_reducible first | exact HB.out | apply below_alloc | apply pw_below_drewN | apply below_drew1) | exact HB.out)⟩⟩
    case round =>
     clear H'
     try clear c1
     try clear p2
     try clear c3
     try clear c4
     try clear c5
     try clear p6
     try clear c7
     try clear c9
     try clear c10
     try clear c10b0
     try clear c10b1
     try clear c12
     try clear p2
     try clear p6
     obtain ⟨x10_2, x43_2, rfl, HA, HK2, HO_10, HB⟩ := hrel
     cases gk with
     | zero => exact absurd HA.out (by simp [spec_ClimbHurwitz.l0])
     | succ k2 =>
      have H := HA.out
      clear HA
      simp only [spec_ClimbHurwitz.l0] at H
      by_cases c15 : x43_2 < (l3.length : Int)
      ·rw [if_pos c15] at H
       have c15b0 : decide (x43_2 < (l3.length : Int)) = true := decide_eq_true c15
       clear c15
       by_cases c16 : 0 ≤ x43_2
       ·rw [if_pos c16] at H
        have c16b0 : decide (0 ≤ x43_2) = true := decide_eq_true c16
        clear c16
        by_cases c17 : x43_2 < (l3.length : Int)
        ·rw [if_pos c17] at H
         have c17b0 : decide (x43_2 < (l3.length : Int)) = true := decide_eq_true c17
         clear c17
         replace H := Option.bind_eq_some_iff.mp H
         obtain ⟨⟨t758, t759⟩, A180, H⟩ := H
         replace H : (if t759 = true then (spec_ClimbHurwitz.l0 k2 a1 t758 l3 (l3.length : Int) (wrap64 (x43_2 + 1))) else (some (([] : List Int), false))) = some (r1, r2) := H
         have A18 := Aside0.mk A180
         clear A180
         by_cases c19 : t759 = true
         ·subst c19
          have H1 : (spec_ClimbHurwitz.l0 k2 a1 t758 l3 (l3.length : Int) (wrap64 (x43_2 + 1))) = some (r1, r2) := by rw [if_pos rfl] at H; exact H
          clear H
          have H := H1
          clear H1
          have H' := Aside0.mk H
          clear H
          have p757 : 0 ≤ (x43_2 : Int) := of_decide_eq_true (by first | (with_reducible assumption) | assumption)
          have q757 : x43_2 < (l3.length : Int) := of_decide_eq_true (by first | (with_reducible assumption) | assumption)
          obtain ⟨ad757, e757, hx757_0⟩ := Kd.at_int HR3.out x43_2 p757 q757
          cases e757
          replace hx757_0 := (HB.out.cell (World.block_lt_of_cell? w _ hx757_0)).trans hx757_0
          replace p757 := eq_true p757
          replace q757 := eq_true q757
          obtain ⟨Ao20, co20, eo20⟩ := Kd.R_slice HO_10.out
          subst eo20
          go_wp2_with (first | ((with_reducible refine gate_callee (f := 78) rfl ?_); refine goesL_ (some 51) rfl rfl Try.func78 (by kernel_rfl) rfl #[.slice Ao20 x10_2.length co20, .int .i64 a1, .int .i64 (rd l3 x43_2)] rfl (by (try simp only [List.map_toArray, List.map_cons, List.map_nil]); first | done | rfl | (simp only [List.length_drop, List.length_take]; rfl)) ?_; (with_reducible refine (spec_huJump.calls k2 _ _ x10_2 a1 (rd l3 x43_2) t758 true _ ?side1 ?side2 A18.out).mono ?_); (case side1 => repeat (first | exact (Kd.R_reads' HO_10.out).2.2 | (with_reducible refine Kd.C_alloc ?_ _) | (with_reducible refine Kd.C_drewN ?_ _) | (with_reducible refine Kd.C_drew ?_))); (case side2 => exact (Kd.R_reads' HO_10.out).2.1); rintro e w21 ⟨v760, rfl, ho0, hb⟩; refine ⟨_, rfl, ?_⟩; have n0_ := Aside0.mk (Kd.R_elder' (by (with_reducible repeat (first | apply Kd.R_alloc | apply Kd.R_drewN | apply Kd.R_drew)); exact HO_10.out) (Kd.R_base ho0) hb); have n1_ := Aside0.mk (Kd.R_lower (Kd.R_new' ho0 (Kd.R_lt (by (with_reducible repeat (first | apply Kd.R_alloc | apply Kd.R_drewN | apply Kd.R_drew)); exact HO_10.out))) (below_size (by repeat (first | (with_reducible first | exact HB.out | apply below_alloc | apply pw_below_drewN | apply below_drew1) | exact HB.out)))); have n2_ := Aside0.mk (below_step (by repeat (first | (with_reducible first | exact HB.out | apply below_alloc | apply pw_below_drewN | apply below_drew1) | exact HB.out)) hb); clear HO_10; clear HB; have HO_10 := n0_; have HO761 := n1_; have HB := n2_; clear n0_ n1_ n2_; (try clear hb); (try clear hb2); (try clear hk); (try clear hi); (try clear ho0)))
          go_roundg k2
          case measure => have := HJ4.out; have := HK2.out; omega
          case rel => exact ⟨(t758), (wrap64 (x43_2 + 1)), (by first | rfl | (simp; done) | (simp [*]; done)), H', ⟨by have := HJ4.out; have := HK2.out; omega⟩, ⟨by (with_reducible repeat (first | apply Kd.R_alloc | apply Kd.R_drewN | apply Kd.R_drew)); exact Kd.R_mono HO761.out (fun _ hk => trivial)⟩, ⟨by repeat (first | (with_reducible first | exact HB.out | apply below_alloc | apply pw_below_drewN | apply below_drew1) | exact HB.out)⟩⟩
         ·replace c19 := Bool.eq_false_iff.mpr c19
          subst c19
          have H1 : (some (([] : List Int), false)) = some (r1, r2) := by rw [if_neg (show ¬ (false = true) by decide)] at H; exact H
          clear H
          have H := H1
          clear H1
          simp only [Option.some.injEq, Prod.mk.injEq] at H
          obtain ⟨rfl, rfl⟩ := H
          have p757 : 0 ≤ (x43_2 : Int) := of_decide_eq_true (by first | (with_reducible assumption) | assumption)
          have q757 : x43_2 < (l3.length : Int) := of_decide_eq_true (by first | (with_reducible assumption) | assumption)
          obtain ⟨ad757, e757, hx757_0⟩ := Kd.at_int HR3.out x43_2 p757 q757
          cases e757
          replace hx757_0 := (HB.out.cell (World.block_lt_of_cell? w _ hx757_0)).trans hx757_0
          replace p757 := eq_true p757
          replace q757 := eq_true q757
          obtain ⟨Ao22, co22, eo22⟩ := Kd.R_slice HO_10.out
          subst eo22
          go_wp2_with (first | ((with_reducible refine gate_callee (f := 78) rfl ?_); refine goesL_ (some 51) rfl rfl Try.func78 (by kernel_rfl) rfl #[.slice Ao22 x10_2.length co22, .int .i64 a1, .int .i64 (rd l3 x43_2)] rfl (by (try simp only [List.map_toArray, List.map_cons, List.map_nil]); first | done | rfl | (simp only [List.length_drop, List.length_take]; rfl)) ?_; (with_reducible refine (spec_huJump.calls k2 _ _ x10_2 a1 (rd l3 x43_2) t758 false _ ?side1 ?side2 A18.out).mono ?_); (case side1 => repeat (first | exact (Kd.R_reads' HO_10.out).2.2 | (with_reducible refine Kd.C_alloc ?_ _) | (with_reducible refine Kd.C_drewN ?_ _) | (with_reducible refine Kd.C_drew ?_))); (case side2 => exact (Kd.R_reads' HO_10.out).2.1); rintro e w23 ⟨v760, rfl, ho0, hb⟩; refine ⟨_, rfl, ?_⟩; have n0_ := Aside0.mk (Kd.R_elder' (by (with_reducible repeat (first | apply Kd.R_alloc | apply Kd.R_drewN | apply Kd.R_drew)); exact HO_10.out) (Kd.R_base ho0) hb); have n1_ := Aside0.mk (Kd.R_lower (Kd.R_new' ho0 (Kd.R_lt (by (with_reducible repeat (first | apply Kd.R_alloc | apply Kd.R_drewN | apply Kd.R_drew)); exact HO_10.out))) (below_size (by repeat (first | (with_reducible first | exact HB.out | apply below_alloc | apply pw_below_drewN | apply below_drew1) | exact HB.out)))); have n2_ := Aside0.mk (below_step (by repeat (first | (with_reducible first | exact HB.out | apply below_alloc | apply pw_below_drewN | apply below_drew1) | exact HB.out)) hb); clear HO_10; clear HB; have HO_10 := n0_; have HO761 := n1_; have HB := n2_; clear n0_ n1_ n2_; (try clear hb); (try clear hb2); (try clear hk); (try clear hi); (try clear ho0)))
          go_ret2
          exact ⟨_, by first | rfl | (simp [errW_none, errW_some] <;> rfl) | (simp [*, errW_none, errW_some] <;> rfl), by first | exact Kd.R_nil _ _ _ _ _ | exact Kd.N_nil _ _ _ _ _ | exact Kd.V_nil _ _ _ _ _ | exact Kd.Q_nil _ _ _ _ _ | exact Kd.S_nil _ _ _ _ _, by repeat (first | (with_reducible first | exact HB.out | apply below_alloc | apply pw_below_drewN | apply below_drew1) | exact HB.out)⟩
        ·rw [if_neg c17] at H
         exact absurd H (by simp)
       ·rw [if_neg c16] at H
        exact absurd H (by simp)
      ·rw [if_neg c15] at H
       have c15b0 : decide (x43_2 < (l3.length : Int)) = false := decide_eq_false c15
       clear c15
       simp only [Option.some.injEq, Prod.mk.injEq] at H
       obtain ⟨rfl, rfl⟩ := H
       go_wp2
       go_ret2
       exact ⟨_, by first | rfl | (simp [errW_none, errW_some] <;> rfl) | (simp [*, errW_none, errW_some] <;> rfl), by (with_reducible repeat (first | apply Kd.R_alloc | apply Kd.R_drewN | apply Kd.R_drew)); exact HO_10.out, by repeat (first | (with_reducible first | exact HB.out | apply below_alloc | apply pw_below_drewN | apply below_drew1) | exact HB.out)⟩

end Go.Proofs.Ytgpoljimomfbbaa.P
