/- FundamentalsUpTo answers what the reference answers, for all numbers; what it hands back is its own. No condition. -/
import Derived.Test.YtfdjbcbhlfjogaaPackFnExactFundamentalsUpTo1
import Derived.ArgAppend
-- PFspecFundamentalsUpTo
namespace Go.Proofs.Ytfdjbcbhlfjogaa.P
open Go.RowKit Go.Proofs.YtfdjbcbhlfjogaaW.PrintWords Go.Proofs.YtfdjbcbhlfjogaaW.PrintLast
set_option linter.unusedVariables false
set_option linter.unusedSimpArgs false

/-! ### spec_FundamentalsUpTo: function 32 -/
def spec_FundamentalsUpTo.l0 : Nat → Int → List (List Int) → List (List Int) → Int → Int → Option ((List (List Int)) × Bool)
 | 0, _, _, _, _, _ => none
 | k + 1, x1, x12, x25, x26, x27 => if x27 < x26 then (if 0 ≤ x27 then (if x27 < (x25.length : Int) then ((spec_huLast.f k (rd_L1 x25 x27) x1).bind fun t268 => (if t268 = true then (if x12.length < 5864062014805 then (spec_FundamentalsUpTo.l0 k x1 (x12 ++ [rd_L1 x25 x27]) x25 x26 (wrap64 (x27 + 1))) else (none)) else (spec_FundamentalsUpTo.l0 k x1 x12 x25 x26 (wrap64 (x27 + 1))))) else (none)) else (none)) else (some (x12, true))
def spec_FundamentalsUpTo.f (k : Nat) (a0 : Int) (a1 : Int) (a2 : Int) (a3 : Int) : Option ((List (List Int)) × Bool) := (spec_SolutionsUpTo.f k a0 a1 a2 a3).bind fun bt263 => (if bt263.2 = true then (spec_FundamentalsUpTo.l0 k a1 ([] : List (List Int)) bt263.1 (bt263.1.length : Int) 0) else (some (([] : List (List Int)), false)))
theorem spec_FundamentalsUpTo.mono_l : ∀ k, (∀ y0 y1 y2 y3 y4, LeO (spec_FundamentalsUpTo.l0 k y0 y1 y2 y3 y4) (spec_FundamentalsUpTo.l0 (k + 1) y0 y1 y2 y3 y4))
 | 0 => fun _ _ _ _ _ r h => by simp [spec_FundamentalsUpTo.l0] at h
 | k + 1 => by
  have ih0 := spec_FundamentalsUpTo.mono_l k
  ·intro y0 y1 y2 y3 y4
   unfold spec_FundamentalsUpTo.l0
   repeat' first
   | (with_reducible exact ih0 _ _ _ _ _)
   | (with_reducible exact spec_SolutionsUpTo.mono _ _ _ _ _)
   | (with_reducible exact spec_huLast.mono _ _ _)
   | (with_reducible exact LeO.refl _)
   | (with_reducible exact LeO.none _)
   | (with_reducible refine LeO.ite ?_ ?_)
   | (with_reducible refine LeO.bind ?_ (fun _ => ?_))
   | exact ih0 _ _ _ _ _
   | exact spec_SolutionsUpTo.mono _ _ _ _ _
   | exact spec_huLast.mono _ _ _
   | exact LeO.none _
   | refine LeO.ite ?_ ?_
   | refine LeO.bind ?_ (fun _ => ?_)
theorem spec_FundamentalsUpTo.mono : ∀ a0 a1 a2 a3 k, LeO (spec_FundamentalsUpTo.f k a0 a1 a2 a3) (spec_FundamentalsUpTo.f (k + 1) a0 a1 a2 a3) := by
 intro a0 a1 a2 a3 k
 have ih0 := spec_FundamentalsUpTo.mono_l k
 unfold spec_FundamentalsUpTo.f
 repeat' first
   | (with_reducible exact ih0 _ _ _ _ _)
   | (with_reducible exact spec_SolutionsUpTo.mono _ _ _ _ _)
   | (with_reducible exact spec_huLast.mono _ _ _)
   | (with_reducible exact LeO.refl _)
   | (with_reducible exact LeO.none _)
   | (with_reducible refine LeO.ite ?_ ?_)
   | (with_reducible refine LeO.bind ?_ (fun _ => ?_))
   | exact ih0 _ _ _ _ _
   | exact spec_SolutionsUpTo.mono _ _ _ _ _
   | exact spec_huLast.mono _ _ _
   | exact LeO.none _
   | refine LeO.ite ?_ ?_
   | refine LeO.bind ?_ (fun _ => ?_)
set_option maxHeartbeats 8000000 in
set_option maxRecDepth 100000 in
theorem spec_FundamentalsUpTo.calls (k : Nat) (a0 : Int) (a1 : Int) (a2 : Int) (a3 : Int) (r1 : List (List Int)) (r2 : Bool) (w : World) (h : spec_FundamentalsUpTo.f k a0 a1 a2 a3 = some (r1, r2)) :
  Calls Try.prog 32 #[.int .i64 a0, .int .i64 a1, .int .i64 a2, .int .i64 a3] w fun e w' => ∃ v0_ : Value, e = .returned (.tuple #[v0_, .bool r2]) ∧ Kd.N (Kd.slice 3 (Kd.int .i64)) 22 w' w.heap.size (fun k_ => (w.heap.size ≤ k_)) v0_ r1 ∧ Below w.heap.size w w' := by
 have HB := Aside0.mk (Below.refl w.heap.size w)
 have H : ((spec_SolutionsUpTo.f k a0 a1 a2 a3).bind fun bt263 => (if bt263.2 = true then (spec_FundamentalsUpTo.l0 k a1 ([] : List (List Int)) bt263.1 (bt263.1.length : Int) 0) else (some (([] : List (List Int)), false)))) = some (r1, r2) := h
 clear h
 replace H := Option.bind_eq_some_iff.mp H
 obtain ⟨⟨t263, t266⟩, A50, H⟩ := H
 replace H : (if t266 = true then (spec_FundamentalsUpTo.l0 k a1 ([] : List (List Int)) t263 (t263.length : Int) 0) else (some (([] : List (List Int)), false))) = some (r1, r2) := H
 have A5 := Aside0.mk A50
 clear A50
 by_cases c6 : t266 = true
 ·subst c6
  have H1 : (spec_FundamentalsUpTo.l0 k a1 ([] : List (List Int)) t263 (t263.length : Int) 0) = some (r1, r2) := by rw [if_pos rfl] at H; exact H
  clear H
  have H := H1
  clear H1
  have H' := Aside0.mk H
  clear H
  go_enter Try.func32, Try.ntmps32
  go_wp2_with (first | ((with_reducible refine gate_callee (f := 27) rfl ?_); refine goesL_ (some 20) rfl rfl Try.func27 (by kernel_rfl) rfl #[.int .i64 a0, .int .i64 a1, .int .i64 a2, .int .i64 a3] rfl (by (try simp only [List.map_toArray, List.map_cons, List.map_nil]); first | done | rfl | (simp only [List.length_drop, List.length_take]; rfl)) ?_; (with_reducible refine (spec_SolutionsUpTo.calls k a0 a1 a2 a3 t263 true _ A5.out).mono ?_); rintro e w7 ⟨v264, rfl, ho0, hb⟩; refine ⟨_, rfl, ?_⟩; have n0_ := Aside0.mk (Kd.N_lower (Kd.N_mono (ok' := fun k_ => (w.heap.size ≤ k_)) ho0 (fun k_ hk_ => (Nat.le_trans (below_size (by repeat (first | (with_reducible first | exact HB.out | apply below_alloc | apply pw_below_drewN | apply below_drew1) | exact HB.out))) hk_))) (below_size (by repeat (first | (with_reducible first | exact HB.out | apply below_alloc | apply pw_below_drewN | apply below_drew1) | exact HB.out)))); have n1_ := Aside0.mk (below_step (by repeat (first | (with_reducible first | exact HB.out | apply below_alloc | apply pw_below_drewN | apply below_drew1) | exact HB.out)) hb); clear HB; have HO265 := n0_; have HB := n1_; clear n0_ n1_; (try clear hb); (try clear hb2); (try clear hk); (try clear hi); (try clear ho0); obtain ⟨Ao8, co8, eo8⟩ := Kd.N_slice HO265.out; subst eo8))
  go_loopg [12, 27] k (fun kq v12 v27 w' => ∃ (x12_1 : List (List Int)) (x27_1 : Int), v27 = .int .i64 x27_1 ∧ Aside0 (spec_FundamentalsUpTo.l0 kq a1 x12_1 t263 (t263.length : Int) x27_1 = some (r1, r2)) ∧ Aside0 (kq ≤ k) ∧ Aside0 (Kd.N (Kd.slice 3 (Kd.int .i64)) 22 w' w.heap.size (fun k_ => (w.heap.size ≤ k_) ∧ some k_ ≠ ((.slice Ao8 t263.length co8) : Value).ownBlock) v12 x12_1) ∧ Aside0 (Kd.N (Kd.slice 3 (Kd.int .i64)) 22 w' w.heap.size (fun k_ => (w.heap.size ≤ k_) ∧ some k_ ≠ (v12 : Value).ownBlock) (.slice Ao8 t263.length co8) t263) ∧ Aside0 (Below w.heap.size w w'))
  case atStart => exact ⟨(([] : List (List Int))), (0), (by first | rfl | (simp; done) | (simp [*]; done)), H', ⟨Nat.le_refl _⟩, ⟨by first | exact Kd.S_nil _ _ _ _ _ | exact Kd.N_nil _ _ _ _ _ | exact Kd.V_nil _ _ _ _ _ | exact Kd.Q_nil _ _ _ _ _ | exact Kd.R_nil _ _ _ _ _⟩, ⟨by (with_reducible repeat (first | apply Kd.N_alloc | apply Kd.N_drewN | apply Kd.N_drew)); exact Kd.N_mono HO265.out (fun _ hk => ⟨hk, (by simp [Value.ownBlock])⟩)⟩, ⟨by repeat (first | (with_reducible first | exact HB.out | apply below_alloc | apply pw_below_drewN | apply below_drew1) | exact HB.out)⟩⟩
  case round =>
   clear H'
   try clear c2
   try clear p2
   try clear c3
   try clear c6
   obtain ⟨x12_1, x27_1, rfl, HA, HK1, HO_12, HO_25, HB⟩ := hrel
   cases gk with
   | zero => exact absurd HA.out (by simp [spec_FundamentalsUpTo.l0])
   | succ k1 =>
    have H := HA.out
    clear HA
    simp only [spec_FundamentalsUpTo.l0] at H
    by_cases c9 : x27_1 < (t263.length : Int)
    ·rw [if_pos c9] at H
     have c9b0 : decide (x27_1 < (t263.length : Int)) = true := decide_eq_true c9
     clear c9
     by_cases c10 : 0 ≤ x27_1
     ·rw [if_pos c10] at H
      have c10b0 : decide (0 ≤ x27_1) = true := decide_eq_true c10
      clear c10
      by_cases c11 : x27_1 < (t263.length : Int)
      ·rw [if_pos c11] at H
       have c11b0 : decide (x27_1 < (t263.length : Int)) = true := decide_eq_true c11
       clear c11
       replace H := Option.bind_eq_some_iff.mp H
       obtain ⟨t268, A120, H⟩ := H
       replace H : (if t268 = true then (if x12_1.length < 5864062014805 then (spec_FundamentalsUpTo.l0 k1 a1 (x12_1 ++ [rd_L1 t263 x27_1]) t263 (t263.length : Int) (wrap64 (x27_1 + 1))) else (none)) else (spec_FundamentalsUpTo.l0 k1 a1 x12_1 t263 (t263.length : Int) (wrap64 (x27_1 + 1)))) = some (r1, r2) := H
       have A12 := Aside0.mk A120
       clear A120
       by_cases c13 : t268 = true
       ·subst c13
        have H1 : (if x12_1.length < 5864062014805 then (spec_FundamentalsUpTo.l0 k1 a1 (x12_1 ++ [rd_L1 t263 x27_1]) t263 (t263.length : Int) (wrap64 (x27_1 + 1))) else (none)) = some (r1, r2) := by rw [if_pos rfl] at H; exact H
        clear H
        have H := H1
        clear H1
        by_cases c14 : x12_1.length < 5864062014805
        ·rw [if_pos c14] at H
         have LMc14 := Aside0.mk c14
         clear c14
         obtain ⟨y269, hy269⟩ : ∃ y_ : List (List Int), y_ = (x12_1 ++ [rd_L1 t263 x27_1]) := ⟨_, rfl⟩
         replace H : (spec_FundamentalsUpTo.l0 k1 a1 y269 t263 (t263.length : Int) (wrap64 (x27_1 + 1))) = some (r1, r2) := by first | (rw [hy269]; with_reducible exact H) | (have H2_ := (Option.bind_some _ _).symm.trans H; rw [hy269]; with_reducible exact H2_) | (have H2_ := (Option.bind_some _ _).symm.trans H; with_reducible exact H2_) | with_reducible exact H | (rw [hy269]; exact H) | exact H
         have Ny269 := Aside0.mk hy269
         clear hy269
         have H' := Aside0.mk H
         clear H
         have p267 : 0 ≤ (x27_1 : Int) := of_decide_eq_true (by first | (with_reducible assumption) | assumption)
         have q267 : x27_1 < (t263.length : Int) := of_decide_eq_true (by first | (with_reducible assumption) | assumption)
         obtain ⟨ad267, A267_0, c267_0, e267, hx267_0, hl267_0, hi267_0⟩ := at_L1 (Kd.N_reads' HO_25.out).2.2 x27_1 p267 q267
         cases e267
         obtain ⟨ce267, hce267, hMe267, hcc267⟩ := Kd.N_get HO_25.out [] x27_1 p267 (by first | exact q267 | exact of_decide_eq_true (by first | (with_reducible assumption) | assumption) | (have e_ := (Kd.N_reads' HO_25.out).1; omega))
         obtain ⟨ua267_0, uc267_0, rfl, ul267_0, ge267_0⟩ := Kd.FK_slice_open hMe267
         have hv267_0 := hcc267 0 _ rfl
         rw [Nat.add_zero, show ((Kd.slice 3 (Kd.int .i64))).sz = 1 from rfl, Nat.mul_one] at hv267_0
         replace hv267_0 := Option.some.inj (hv267_0.symm.trans hx267_0)
         injection hv267_0 with hva_ hvn_ hvc_
         rw [hva_] at ge267_0
         rw [hvc_] at ul267_0
         have HL267_0 := Aside0.mk (show Kd.V (Kd.int .i64) 3 _ w.heap.size _ _ (rd_L1 t263 x27_1) from Kd.V_mk ul267_0 ge267_0)
         clear hva_ hvn_ hvc_ ge267_0 ul267_0
         clear hcc267 hce267
         have HR267_0 := Aside0.mk hi267_0
         have HC267_0 := Aside0.mk hl267_0
         clear hi267_0 hl267_0
         replace p267 := eq_true p267
         replace q267 := eq_true q267
         go_wp2_with (first | ((with_reducible refine gate_callee (f := 59) rfl ?_); refine goesL_ (some 33) rfl rfl Try.func59 (by kernel_rfl) rfl #[.slice A267_0 (rd_L1 t263 x27_1).length c267_0, .int .i64 a1] rfl (by (try simp only [List.map_toArray, List.map_cons, List.map_nil]); first | done | rfl | (simp only [List.length_drop, List.length_take]; rfl)) ?_; (with_reducible refine (spec_huLast.calls k1 _ _ (rd_L1 t263 x27_1) a1 true _ ?side1 ?side2 A12.out).mono ?_); (case side1 => repeat (first | exact (by repeat (first | (with_reducible exact HR267_0.out) | (with_reducible refine Kd.C_alloc ?_ _) | (with_reducible refine Kd.C_drewN ?_ _) | (with_reducible refine Kd.C_drew ?_) | exact HR267_0.out)) | (with_reducible refine Kd.C_alloc ?_ _) | (with_reducible refine Kd.C_drewN ?_ _) | (with_reducible refine Kd.C_drew ?_))); (case side2 => exact HC267_0.out); rintro e w15 ⟨rfl, hb⟩; refine ⟨_, rfl, ?_⟩; have n0_ := Aside0.mk (Kd.N_below (by (with_reducible repeat (first | apply Kd.N_alloc | apply Kd.N_drewN | apply Kd.N_drew)); exact HO_12.out) hb); have n1_ := Aside0.mk (Kd.N_below (by (with_reducible repeat (first | apply Kd.N_alloc | apply Kd.N_drewN | apply Kd.N_drew)); exact HO_25.out) hb); have n2_ := Aside0.mk (Kd.V_below (by (with_reducible repeat (first | apply Kd.V_alloc | apply Kd.V_drewN | apply Kd.V_drew)); exact HL267_0.out) hb); have n3_ := Aside0.mk (Kd.C_below (by repeat (first | (with_reducible exact HR267_0.out) | (with_reducible refine Kd.C_alloc ?_ _) | (with_reducible refine Kd.C_drewN ?_ _) | (with_reducible refine Kd.C_drew ?_) | exact HR267_0.out)) hb); have n4_ := Aside0.mk (below_step (by repeat (first | (with_reducible first | exact HB.out | apply below_alloc | apply pw_below_drewN | apply below_drew1) | exact HB.out)) hb); clear HO_12; clear HO_25; clear HL267_0; clear HR267_0; clear HB; have HO_12 := n0_; have HO_25 := n1_; have HL267_0 := n2_; have HR267_0 := n3_; have HB := n4_; clear n0_ n1_ n2_ n3_ n4_; (try clear hb); (try clear hb2); (try clear hk); (try clear hi)) | ((with_reducible refine gate_builtin (b := .append) (xs := #[.tmp 34, .tmp 36]) rfl ?_); at_builtin; refine Kd.N_append (Kd.slice 3 (Kd.int .i64)) (w0 := w) w.heap.size rfl (.tmp 34) (.tmp 36) 35 22 (.slice none 0 0) 24 rfl Try.underlying35 info22 rfl (by decide) (by omega) u12 x12_1 (rd_L1 t263 x27_1) [.slice A267_0 (rd_L1 t263 x27_1).length c267_0] (fun k_ => (w.heap.size ≤ k_) ∧ some k_ ≠ (.slice (some ad267) t263.length co8 : Value).ownBlock) (fun k_ => ((fun k_ => (w.heap.size ≤ k_) ∧ some k_ ≠ (.slice (some ad267) t263.length co8 : Value).ownBlock)) k_ ∧ some k_ ≠ (u12 : Value).ownBlock) rfl rfl ?aP (fun _ hk => hk) ?aF ?aO ?aB ?aS ?aL ?_; (case aP => exact (Kd.FK_slice_mk (Kd.V_reads' (Kd.V_mono (ok' := (fun k_ => ((fun k_ => (w.heap.size ≤ k_) ∧ some k_ ≠ (.slice (some ad267) t263.length co8 : Value).ownBlock)) k_ ∧ some k_ ≠ (u12 : Value).ownBlock)) (HL267_0.out) (fun k_ hk => ⟨⟨hk.1.1, hk.2⟩, hk.1.2⟩))).2.1 (Kd.V_F (Kd.V_mono (ok' := (fun k_ => ((fun k_ => (w.heap.size ≤ k_) ∧ some k_ ≠ (.slice (some ad267) t263.length co8 : Value).ownBlock)) k_ ∧ some k_ ≠ (u12 : Value).ownBlock)) (HL267_0.out) (fun k_ hk => ⟨⟨hk.1.1, hk.2⟩, hk.1.2⟩))))); (case aB => exact (by repeat (first | (with_reducible first | exact HB.out | apply below_alloc | apply pw_below_drewN | apply below_drew1) | exact HB.out))); (case aF => exact (fun k_ hk => ⟨(Nat.le_trans (below_size (by repeat (first | (with_reducible first | exact HB.out | apply below_alloc | apply pw_below_drewN | apply below_drew1) | exact HB.out))) hk), Kd.fresh' (Kd.N_lt (by (with_reducible repeat (first | apply Kd.N_alloc | apply Kd.N_drewN | apply Kd.N_drew)); exact HO_25.out)) k_ hk⟩)); (case aO => exact (by (with_reducible repeat (first | apply Kd.N_alloc | apply Kd.N_drewN | apply Kd.N_drew)); exact HO_12.out)); (case aS => exact (below_size (by repeat (first | (with_reducible first | exact HB.out | apply below_alloc | apply pw_below_drewN | apply below_drew1) | exact HB.out)))); (case aL => have := LMc14.out; omega); intro v270 w16 ho hb hg hat; rw [← Ny269.out] at ho; have n0_ := Aside0.mk (Kd.N_afterv (ok := (fun k_ => (w.heap.size ≤ k_))) (by (with_reducible repeat (first | apply Kd.N_alloc | apply Kd.N_drewN | apply Kd.N_drew)); exact HO_25.out) hg hat); have n1_ := Aside0.mk (Kd.V_afterv (ok := (fun k_ => (w.heap.size ≤ k_) ∧ some k_ ≠ (.slice (some ad267) t263.length co8 : Value).ownBlock)) (by (with_reducible repeat (first | apply Kd.V_alloc | apply Kd.V_drewN | apply Kd.V_drew)); exact Kd.V_mono HL267_0.out (fun _ hk => ⟨⟨hk.1.1, hk.2⟩, hk.1.2⟩)) hg hat); have n2_ := Aside0.mk (hb); have n3_ := Aside0.mk (ho); clear HO_25; clear HL267_0; clear HB; clear HO_12; have HO_25 := n0_; have HL267_0 := n1_; have HB := n2_; have HO271 := n3_; clear n0_ n1_ n2_ n3_; clear ho hb hg hat))
         go_roundg k1
         case measure => have := HK1.out; omega
         case rel => exact ⟨(y269), (wrap64 (x27_1 + 1)), (by first | rfl | (simp; done) | (simp [*]; done)), H', ⟨by have := HK1.out; omega⟩, ⟨by (with_reducible repeat (first | apply Kd.N_alloc | apply Kd.N_drewN | apply Kd.N_drew)); exact HO271.out⟩, ⟨by (with_reducible repeat (first | apply Kd.N_alloc | apply Kd.N_drewN | apply Kd.N_drew)); exact HO_25.out⟩, ⟨by repeat (first | (with_reducible first | exact HB.out | apply below_alloc | apply pw_below_drewN | apply below_drew1) | exact HB.out)⟩⟩
        ·rw [if_neg c14] at H
         exact absurd H (by simp)
       ·replace c13 := Bool.eq_false_iff.mpr c13
        subst c13
        have H1 : (spec_FundamentalsUpTo.l0 k1 a1 x12_1 t263 (t263.length : Int) (wrap64 (x27_1 + 1))) = some (r1, r2) := by rw [if_neg (show ¬ (false = true) by decide)] at H; exact H
        clear H
        have H := H1
        clear H1
        have H' := Aside0.mk H
        clear H
        have p267 : 0 ≤ (x27_1 : Int) := of_decide_eq_true (by first | (with_reducible assumption) | assumption)
        have q267 : x27_1 < (t263.length : Int) := of_decide_eq_true (by first | (with_reducible assumption) | assumption)
        obtain ⟨ad267, A267_0, c267_0, e267, hx267_0, hl267_0, hi267_0⟩ := at_L1 (Kd.N_reads' HO_25.out).2.2 x27_1 p267 q267
        cases e267
        obtain ⟨ce267, hce267, hMe267, hcc267⟩ := Kd.N_get HO_25.out [] x27_1 p267 (by first | exact q267 | exact of_decide_eq_true (by first | (with_reducible assumption) | assumption) | (have e_ := (Kd.N_reads' HO_25.out).1; omega))
        obtain ⟨ua267_0, uc267_0, rfl, ul267_0, ge267_0⟩ := Kd.FK_slice_open hMe267
        have hv267_0 := hcc267 0 _ rfl
        rw [Nat.add_zero, show ((Kd.slice 3 (Kd.int .i64))).sz = 1 from rfl, Nat.mul_one] at hv267_0
        replace hv267_0 := Option.some.inj (hv267_0.symm.trans hx267_0)
        injection hv267_0 with hva_ hvn_ hvc_
        rw [hva_] at ge267_0
        rw [hvc_] at ul267_0
        have HL267_0 := Aside0.mk (show Kd.V (Kd.int .i64) 3 _ w.heap.size _ _ (rd_L1 t263 x27_1) from Kd.V_mk ul267_0 ge267_0)
        clear hva_ hvn_ hvc_ ge267_0 ul267_0
        clear hcc267 hce267
        have HR267_0 := Aside0.mk hi267_0
        have HC267_0 := Aside0.mk hl267_0
        clear hi267_0 hl267_0
        replace p267 := eq_true p267
        replace q267 := eq_true q267
        go_wp2_with (first | ((with_reducible refine gate_callee (f := 59) rfl ?_); refine goesL_ (some 33) rfl rfl Try.func59 (by kernel_rfl) rfl #[.slice A267_0 (rd_L1 t263 x27_1).length c267_0, .int .i64 a1] rfl (by (try simp only [List.map_toArray, List.map_cons, List.map_nil]); first | done | rfl | (simp only [List.length_drop, List.length_take]; rfl)) ?_; (with_reducible refine (spec_huLast.calls k1 _ _ (rd_L1 t263 x27_1) a1 false _ ?side1 ?side2 A12.out).mono ?_); (case side1 => repeat (first | exact (by repeat (first | (with_reducible exact HR267_0.out) | (with_reducible refine Kd.C_alloc ?_ _) | (with_reducible refine Kd.C_drewN ?_ _) | (with_reducible refine Kd.C_drew ?_) | exact HR267_0.out)) | (with_reducible refine Kd.C_alloc ?_ _) | (with_reducible refine Kd.C_drewN ?_ _) | (with_reducible refine Kd.C_drew ?_))); (case side2 => exact HC267_0.out); rintro e w17 ⟨rfl, hb⟩; refine ⟨_, rfl, ?_⟩; have n0_ := Aside0.mk (Kd.N_below (by (with_reducible repeat (first | apply Kd.N_alloc | apply Kd.N_drewN | apply Kd.N_drew)); exact HO_12.out) hb); have n1_ := Aside0.mk (Kd.N_below (by (with_reducible repeat (first | apply Kd.N_alloc | apply Kd.N_drewN | apply Kd.N_drew)); exact HO_25.out) hb); have n2_ := Aside0.mk (Kd.V_below (by (with_reducible repeat (first | apply Kd.V_alloc | apply Kd.V_drewN | apply Kd.V_drew)); exact HL267_0.out) hb); have n3_ := Aside0.mk (Kd.C_below (by repeat (first | (with_reducible exact HR267_0.out) | (with_reducible refine Kd.C_alloc ?_ _) | (with_reducible refine Kd.C_drewN ?_ _) | (with_reducible refine Kd.C_drew ?_) | exact HR267_0.out)) hb); have n4_ := Aside0.mk (below_step (by repeat (first | (with_reducible first | exact HB.out | apply below_alloc | apply pw_below_drewN | apply below_drew1) | exact HB.out)) hb); clear HO_12; clear HO_25; clear HL267_0; clear HR267_0; clear HB; have HO_12 := n0_; have HO_25 := n1_; have HL267_0 := n2_; have HR267_0 := n3_; have HB := n4_; clear n0_ n1_ n2_ n3_ n4_; (try clear hb); (try clear hb2); (try clear hk); (try clear hi)))
        go_roundg k1
        case measure => have := HK1.out; omega
        case rel => exact ⟨(x12_1), (wrap64 (x27_1 + 1)), (by first | rfl | (simp; done) | (simp [*]; done)), H', ⟨by have := HK1.out; omega⟩, ⟨by (with_reducible repeat (first | apply Kd.N_alloc | apply Kd.N_drewN | apply Kd.N_drew)); exact HO_12.out⟩, ⟨by (with_reducible repeat (first | apply Kd.N_alloc | apply Kd.N_drewN | apply Kd.N_drew)); exact HO_25.out⟩, ⟨by repeat (first | (with_reducible first | exact HB.out | apply below_alloc | apply pw_below_drewN | apply below_drew1) | exact HB.out)⟩⟩
      ·rw [if_neg c11] at H
       exact absurd H (by simp)
     ·rw [if_neg c10] at H
      exact absurd H (by simp)
    ·rw [if_neg c9] at H
     have c9b0 : decide (x27_1 < (t263.length : Int)) = false := decide_eq_false c9
     clear c9
     simp only [Option.some.injEq, Prod.mk.injEq] at H
     obtain ⟨rfl, rfl⟩ := H
     go_wp2
     go_ret2
     exact ⟨_, by first | rfl | (simp [errW_none, errW_some] <;> rfl) | (simp [*, errW_none, errW_some] <;> rfl), by (with_reducible repeat (first | apply Kd.N_alloc | apply Kd.N_drewN | apply Kd.N_drew)); exact Kd.N_mono HO_12.out (fun _ hk => hk.1), by repeat (first | (with_reducible first | exact HB.out | apply below_alloc | apply pw_below_drewN | apply below_drew1) | exact HB.out)⟩
 ·replace c6 := Bool.eq_false_iff.mpr c6
  subst c6
  have H1 : (some (([] : List (List Int)), false)) = some (r1, r2) := by rw [if_neg (show ¬ (false = true) by decide)] at H; exact H
  clear H
  have H := H1
  clear H1
  simp only [Option.some.injEq, Prod.mk.injEq] at H
  obtain ⟨rfl, rfl⟩ := H
  go_enter Try.func32, Try.ntmps32
  go_wp2_with (first | ((with_reducible refine gate_callee (f := 27) rfl ?_); refine goesL_ (some 20) rfl rfl Try.func27 (by kernel_rfl) rfl #[.int .i64 a0, .int .i64 a1, .int .i64 a2, .int .i64 a3] rfl (by (try simp only [List.map_toArray, List.map_cons, List.map_nil]); first | done | rfl | (simp only [List.length_drop, List.length_take]; rfl)) ?_; (with_reducible refine (spec_SolutionsUpTo.calls k a0 a1 a2 a3 t263 false _ A5.out).mono ?_); rintro e w18 ⟨v264, rfl, ho0, hb⟩; refine ⟨_, rfl, ?_⟩; have n0_ := Aside0.mk (Kd.N_lower (Kd.N_mono (ok' := fun k_ => (w.heap.size ≤ k_)) ho0 (fun k_ hk_ => (Nat.le_trans (below_size (by repeat (first | (with_reducible first | exact HB.out | apply below_alloc | apply pw_below_drewN | apply below_drew1) | exact HB.out))) hk_))) (below_size (by repeat (first | (with_reducible first | exact HB.out | apply below_alloc | apply pw_below_drewN | apply below_drew1) | exact HB.out)))); have n1_ := Aside0.mk (below_step (by repeat (first | (with_reducible first | exact HB.out | apply below_alloc | apply pw_below_drewN | apply below_drew1) | exact HB.out)) hb); clear HB; have HO265 := n0_; have HB := n1_; clear n0_ n1_; (try clear hb); (try clear hb2); (try clear hk); (try clear hi); (try clear ho0)))
  go_ret2
  exact ⟨_, by first | rfl | (simp [errW_none, errW_some] <;> rfl) | (simp [*, errW_none, errW_some] <;> rfl), by first | exact Kd.S_nil _ _ _ _ _ | exact Kd.N_nil _ _ _ _ _ | exact Kd.V_nil _ _ _ _ _ | exact Kd.Q_nil _ _ _ _ _ | exact Kd.R_nil _ _ _ _ _, by repeat (first | (with_reducible first | exact HB.out | apply below_alloc | apply pw_below_drewN | apply below_drew1) | exact HB.out)⟩

end Go.Proofs.Ytfdjbcbhlfjogaa.P

-- UrowsSS
namespace Go.Proofs.Ytfdjbcbhlfjogaa.P
set_option linter.unusedVariables false
set_option linter.unusedSimpArgs false
open Go.RowKit Go.Proofs.YtfdjbcbhlfjogaaW.PrintWords Go.Proofs.YtfdjbcbhlfjogaaW.PrintLast

/-- Two values that lead to one block are no two rows of ours. -/
def Apart (u v : Value) : Prop := ∀ k, u.ownBlock = some k → v.ownBlock ≠ some k
theorem Apart.symm {u v : Value} (h : Apart u v) : Apart v u := fun k hv hu => h k hu hv
/-- The values of a row of rows. -/
structure RowVals (w : World) (base : Nat) (ok : Nat → Prop) (vs : List Value) (L : List (List Int)) : Prop where
  len : vs.length = L.length
  row : ∀ (j : Nat) (u : Value) (x : List Int), vs[j]? = some u → L[j]? = some x → Kd.R (Kd.int .i64) 3 w base ok u x
  apart : vs.Pairwise Apart
theorem S_vals {w : World} {base : Nat} {ok : Nat → Prop} {v : Value} {L : List (List Int)} (h : Kd.S KII 22 w base ok v L) :
    ∃ vs, (∀ k, v.ownBlock = some k → ok k) ∧ w.ownsRow base 22 1 v L.length vs ∧ RowVals w base (fun k => ok k ∧ some k ≠ v.ownBlock) vs L := by
  obtain ⟨f, h0, inner, ho, hl, hr⟩ := h
  rw [List.length_zipIdx] at ho hl
  have hl' : inner.length = L.length := by rw [hl]; exact Nat.mul_one _
  have hrow : ∀ (j : Nat) (u : Value) (x : List Int), inner[j]? = some u → L[j]? = some x → Kd.R (Kd.int .i64) 3 w base (fun k => (ok k ∧ some k ≠ v.ownBlock) ∧ f k = j) u x := by
    intro j u x hu hx
    obtain ⟨u', he, hR⟩ := hr j (x, j) (Kd.zip_at hx)
    have hj : j < inner.length := (List.getElem?_eq_some_iff.1 hu).1
    have h1 : (inner.drop (j * (Kd.tag f KII).sz)).take (Kd.tag f KII).sz = [inner[j]] := by
      show (inner.drop (j * 1)).take 1 = _
      rw [Nat.mul_one, List.drop_eq_getElem_cons hj]
      rfl
    rw [h1] at he
    have h2 : inner[j] = u := by rw [List.getElem?_eq_getElem hj] at hu; exact Option.some.inj hu
    have h3 : u' = u := by rw [← h2]; exact (List.cons.inj he).1.symm
    subst h3
    exact hR
  refine ⟨inner, h0, ho, hl', fun j u x hu hx => Kd.R_mono (hrow j u x hu hx) (fun k hk => hk.1), ?_⟩
  rw [List.pairwise_iff_getElem]
  intro i j hi hj hij k hik hjk
  have hxi := hrow i _ _ (List.getElem?_eq_getElem hi) (List.getElem?_eq_getElem (show i < L.length by omega))
  have hxj := hrow j _ _ (List.getElem?_eq_getElem hj) (List.getElem?_eq_getElem (show j < L.length by omega))
  have e1 := (hxi.1 k hik).2
  have e2 := (hxj.1 k hjk).2
  omega
end Go.Proofs.Ytfdjbcbhlfjogaa.P

-- UrowsVals
namespace Go.Proofs.Ytfdjbcbhlfjogaa.P
set_option linter.unusedVariables false
set_option linter.unusedSimpArgs false
open Go.RowKit Go.Proofs.YtfdjbcbhlfjogaaW.PrintWords Go.Proofs.YtfdjbcbhlfjogaaW.PrintLast
theorem RowVals.own {w : World} {base : Nat} {ok : Nat → Prop} {vs : List Value} {L : List (List Int)} (h : RowVals w base ok vs L) {u : Value} (hu : u ∈ vs) {k : Nat} (hk : u.ownBlock = some k) : ok k ∧ base ≤ k ∧ k < w.heap.size := by
  obtain ⟨j, hj, rfl⟩ := List.getElem_of_mem hu
  have hL : j < L.length := by have := h.len; omega
  have hr := Kd.R_bound (h.row j vs[j] L[j] (List.getElem?_eq_getElem hj) (List.getElem?_eq_getElem hL))
  have := hr.1 k hk
  exact ⟨this.1, this.2.1, this.2.2.1⟩
/-- Rows in a later world. -/
theorem RowVals.step {w w1 : World} {base : Nat} {ok ok' : Nat → Prop} {vs : List Value} {L : List (List Int)} (h : RowVals w base ok vs L) (hm : ∀ k, ok k → k < w.heap.size → w1.heap[k]? = w.heap[k]?) (ho : ∀ k, ok k → k < w.heap.size → ok' k) : RowVals w1 base ok' vs L where
  len := h.len
  row := fun j u x hu hx => by
    have hr := h.row j u x hu hx
    exact Kd.R_mono (Kd.R_step (Kd.R_bound hr) (fun k hk hlt => hm k hk.1 hlt)) (fun k hk => ho k hk.1 hk.2.2.1)
  apart := h.apart
end Go.Proofs.Ytfdjbcbhlfjogaa.P

-- UrowsRest
namespace Go.Proofs.Ytfdjbcbhlfjogaa.P
set_option linter.unusedVariables false
set_option linter.unusedSimpArgs false
open Go.RowKit Go.Proofs.YtfdjbcbhlfjogaaW.PrintWords Go.Proofs.YtfdjbcbhlfjogaaW.PrintLast

/-- A block that is none of those that are left. -/
def Free (g : Nat) (ns : List Value) (k : Nat) : Prop := k ≠ g ∧ ∀ u ∈ ns, u.ownBlock ≠ some k
theorem Free.tail {g : Nat} {n : Value} {ns : List Value} {k : Nat} (h : Free g (n :: ns) k) : Free g ns k := ⟨h.1, fun u hu => h.2 u (List.mem_cons_of_mem _ hu)⟩
/-- What is left of a row of rows behind its first off rows. -/
structure Rest (w : World) (base g off : Nat) (ns : List Value) (bs : List (List Int)) : Prop where
  lt : ns ≠ [] → g < w.heap.size
  cell : ∀ (j : Nat) (u : Value), ns[j]? = some u → w.cell? ⟨g, off + j, none⟩ = some u
  rows : RowVals w base (fun k => k ≠ g ∧ k < w.heap.size ∧ ∃ u ∈ ns, u.ownBlock = some k) ns bs
theorem Rest.step {w w1 : World} {base g off : Nat} {ns : List Value} {bs : List (List Int)} (h : Rest w base g off ns bs) (hs : w.heap.size ≤ w1.heap.size) (hm : ∀ k, ¬ Free g ns k → k < w.heap.size → w1.heap[k]? = w.heap[k]?) : Rest w1 base g off ns bs where
  lt := fun hne => by have := h.lt hne; omega
  cell := fun j u hu => by
    rw [← h.cell j u hu]
    unfold World.cell?
    have hne : ns ≠ [] := by rintro rfl; simp at hu
    rw [hm g (fun hf => hf.1 rfl) (h.lt hne)]
  rows := h.rows.step (fun k hk hlt => hm k (fun hf => by obtain ⟨_, _, u, hu, e⟩ := hk; exact hf.2 u hu e) hlt) (fun k hk hlt => ⟨hk.1, by omega, hk.2.2⟩)
theorem Rest.below {w w1 : World} {base g off : Nat} {ns : List Value} {bs : List (List Int)} (h : Rest w base g off ns bs) (hb : Below w.heap.size w w1) : Rest w1 base g off ns bs :=
  h.step hb.size (fun k _ hk => hb.block k hk)
theorem Rest.tail {w : World} {base g off : Nat} {n : Value} {ns : List Value} {b : List Int} {bs : List (List Int)} (h : Rest w base g off (n :: ns) (b :: bs)) : Rest w base g (off + 1) ns bs where
  lt := fun _ => h.lt (by simp)
  cell := fun j u hu => by
    have := h.cell (j + 1) u (by simpa using hu)
    rw [show off + 1 + j = off + (j + 1) from by omega]
    exact this
  rows := {
    len := by have := h.rows.len; simpa using this
    row := fun j u x hu hx => by
      have hr := h.rows.row (j + 1) u x (by simpa using hu) (by simpa using hx)
      have hr2 := Kd.R_bound (Kd.R_tight rfl hr)
      refine Kd.R_mono hr2 (fun k hk => ?_)
      have := hr.1 k hk.1.symm
      exact ⟨this.1, this.2.1, u, List.mem_of_getElem? hu, hk.1.symm⟩
    apart := (List.pairwise_cons.1 h.rows.apart).2 }
theorem Rest.head {w : World} {base g off : Nat} {n : Value} {ns : List Value} {b : List Int} {bs : List (List Int)} (h : Rest w base g off (n :: ns) (b :: bs)) :
    ∃ A c, n = .slice A b.length c ∧ b.length ≤ c ∧ w.cell? ⟨g, off, none⟩ = some (.slice A b.length c) ∧ Kd.R (Kd.int .i64) 3 w base (fun k => some k = n.ownBlock) n b ∧ (∀ k, some k = n.ownBlock → Free g ns k ∧ k < w.heap.size) := by
  have hr := h.rows.row 0 n b rfl rfl
  have hr2 := Kd.R_tight rfl hr
  obtain ⟨A, c, e⟩ := Kd.R_slice hr
  refine ⟨A, c, e, ?_, ?_, hr2, fun k hk => ?_⟩
  · rw [e] at hr
    exact (Kd.R_reads' hr).2.1
  · rw [← e]
    have := h.cell 0 n rfl
    simpa using this
  · have h1 := hr.1 k hk.symm
    refine ⟨⟨h1.1, fun u hu e2 => ?_⟩, h1.2.1⟩
    exact (List.pairwise_cons.1 h.rows.apart).1 u hu k hk.symm e2
/-- What a call has made, to be walked. -/
theorem rest_of {w : World} {base B : Nat} {v : Value} {bs : List (List Int)} (h : Kd.S KII 22 w B (fun _ => True) v bs) (hb : base ≤ B) :
    ∃ A g c ns, v = .slice A bs.length c ∧ (bs ≠ [] → ∃ ad : Addr, A = some ad ∧ ad = ⟨g, 0, none⟩) ∧ Rest w base g 0 ns bs ∧ B ≤ g ∧ (∀ u ∈ ns, ∀ k, u.ownBlock = some k → B ≤ k) := by
  obtain ⟨vs, h0, hown, hv⟩ := S_vals h
  obtain ⟨hlen, hcase⟩ := hown
  have hge : ∀ u ∈ vs, ∀ k, u.ownBlock = some k → B ≤ k := fun u hu k hk => (hv.own hu hk).2.1
  rcases hcase with ⟨ev, hn⟩ | ⟨g, cap, cur, ev, hg, hb2, hc, hm, hcs, ht⟩
  · have e0 : bs = [] := List.eq_nil_of_length_eq_zero hn
    subst e0
    have e1 : vs = [] := List.eq_nil_of_length_eq_zero (by simpa using hlen)
    subst e1
    subst ev
    exact ⟨none, B, 0, [], rfl, fun h => absurd rfl h, ⟨fun h => absurd rfl h, fun j u hu => by simp at hu, ⟨rfl, fun j u x hu => by simp at hu, List.Pairwise.nil⟩⟩, Nat.le_refl _, fun u hu => by simp at hu⟩
  · subst ev
    have hgl : g < w.heap.size := by
      rcases Nat.lt_or_ge g w.heap.size with h1 | h1
      · exact h1
      · rw [Array.getElem?_eq_none h1] at hb2
        simp at hb2
    refine ⟨some ⟨g, 0, none⟩, g, cap, vs, rfl, fun _ => ⟨_, rfl, rfl⟩, ⟨fun _ => hgl, fun j u hu => ?_, ?_⟩, hg, hge⟩
    · have hj := (List.getElem?_eq_some_iff.1 hu).1
      have h1 : cur[j]? = some u := by
        have h2 : (cur.toList.take (bs.length * 1))[j]? = vs[j]? := by rw [ht]
        have hjb : j < bs.length * 1 := by omega
        rw [List.getElem?_take_of_lt hjb] at h2
        rw [← hu]
        simpa using h2
      simp [World.cell?, hb2, h1]
    · refine { len := hv.len, row := fun j u x hu hx => ?_, apart := hv.apart }
      have hr := hv.row j u x hu hx
      have hr2 := Kd.R_bound (Kd.R_tight rfl hr)
      refine Kd.R_lower (Kd.R_mono hr2 (fun k hk => ?_)) hb
      have h1 := hr.1 k hk.1.symm
      refine ⟨fun e => h1.2 (by rw [e]; rfl), hk.2.2.1, u, List.mem_of_getElem? hu, hk.1.symm⟩
end Go.Proofs.Ytfdjbcbhlfjogaa.P

-- PFimplwithin
namespace Go.Proofs.Ytfdjbcbhlfjogaa.P
open Go.RowKit Go.Proofs.YtfdjbcbhlfjogaaW.PrintWords Go.Proofs.YtfdjbcbhlfjogaaW.PrintLast
set_option linter.unusedVariables false
set_option linter.unusedSimpArgs false

/-! ### impl_within: function 57 -/
def impl_within.f (a0 : Int) (a1 : Int) (a2 : Int) : Option (Bool) := if a0 ≥ a1 then (some (decide (a0 ≤ a2))) else (some false)
set_option maxHeartbeats 8000000 in
set_option maxRecDepth 100000 in
theorem impl_within.calls (a0 : Int) (a1 : Int) (a2 : Int) (r : Bool) (w : World) (h : impl_within.f a0 a1 a2 = some r) :
  Calls Try.prog 57 #[.int .i64 a0, .int .i64 a1, .int .i64 a2] w fun e w' => e = .returned (.bool r) ∧ Drawn0 w w' := by
 have H : (if a0 ≥ a1 then (some (decide (a0 ≤ a2))) else (some false)) = some r := h
 clear h
 by_cases c4 : a0 ≥ a1
 ·rw [if_pos c4] at H
  have c4b0 : decide (a1 ≤ a0) = true := decide_eq_true c4
  clear c4
  obtain rfl := Option.some.inj H
  go_enter Try.func57, Try.ntmps57
  go_wp2
  go_ret
  exact ⟨by first | rfl | (simp; done) | (simp [*]; done), by repeat (first | exact Drawn0.refl _ | apply Drawn0.step)⟩
 ·rw [if_neg c4] at H
  have c4b0 : decide (a1 ≤ a0) = false := decide_eq_false c4
  clear c4
  obtain rfl := Option.some.inj H
  go_enter Try.func57, Try.ntmps57
  go_wp2
  go_ret
  exact ⟨by first | rfl | (simp; done) | (simp [*]; done), by repeat (first | exact Drawn0.refl _ | apply Drawn0.step)⟩

end Go.Proofs.Ytfdjbcbhlfjogaa.P

-- PFimplotherRoot
namespace Go.Proofs.Ytfdjbcbhlfjogaa.P
open Go.RowKit Go.Proofs.YtfdjbcbhlfjogaaW.PrintWords Go.Proofs.YtfdjbcbhlfjogaaW.PrintLast
set_option linter.unusedVariables false
set_option linter.unusedSimpArgs false

/-! ### impl_otherRoot: function 58 -/
def impl_otherRoot.l0 : Nat → List Int → Int → Int → List Int → Int → Int → Option (Int)
 | 0, _, _, _, _, _, _ => none
 | k + 1, x0, x2, x7, x11, x12, x13 => if x13 < x12 then (if 0 ≤ x13 then (if x13 < (x11.length : Int) then (if x13 = x2 then (impl_otherRoot.l0 k x0 x2 x7 x11 x12 (wrap64 (x13 + 1))) else (impl_otherRoot.l0 k x0 x2 (wrap64 (x7 * (rd x11 x13))) x11 x12 (wrap64 (x13 + 1)))) else (none)) else (none)) else (if 0 ≤ x2 then (if x2 < (x0.length : Int) then (some (wrap64 (x7 - (rd x0 x2)))) else (none)) else (none))
def impl_otherRoot.f (k : Nat) (l0 : List Int) (a1 : Int) (a2 : Int) : Option (Int) := impl_otherRoot.l0 k l0 a2 a1 l0 (l0.length : Int) 0
theorem impl_otherRoot.mono_l : ∀ k, (∀ y0 y1 y2 y3 y4 y5, LeO (impl_otherRoot.l0 k y0 y1 y2 y3 y4 y5) (impl_otherRoot.l0 (k + 1) y0 y1 y2 y3 y4 y5))
 | 0 => fun _ _ _ _ _ _ r h => by simp [impl_otherRoot.l0] at h
 | k + 1 => by
  have ih0 := impl_otherRoot.mono_l k
  ·intro y0 y1 y2 y3 y4 y5
   unfold impl_otherRoot.l0
   repeat' first
   | (with_reducible exact ih0 _ _ _ _ _ _)
   | (with_reducible exact LeO.refl _)
   | (with_reducible exact LeO.none _)
   | (with_reducible refine LeO.ite ?_ ?_)
   | (with_reducible refine LeO.bind ?_ (fun _ => ?_))
   | exact ih0 _ _ _ _ _ _
   | exact LeO.none _
   | refine LeO.ite ?_ ?_
   | refine LeO.bind ?_ (fun _ => ?_)
theorem impl_otherRoot.mono : ∀ a0 a1 a2 k, LeO (impl_otherRoot.f k a0 a1 a2) (impl_otherRoot.f (k + 1) a0 a1 a2) := by
 intro a0 a1 a2 k
 have ih0 := impl_otherRoot.mono_l k
 unfold impl_otherRoot.f
 repeat' first
   | (with_reducible exact ih0 _ _ _ _ _ _)
   | (with_reducible exact LeO.refl _)
   | (with_reducible exact LeO.none _)
   | (with_reducible refine LeO.ite ?_ ?_)
   | (with_reducible refine LeO.bind ?_ (fun _ => ?_))
   | exact ih0 _ _ _ _ _ _
   | exact LeO.none _
   | refine LeO.ite ?_ ?_
   | refine LeO.bind ?_ (fun _ => ?_)
set_option maxHeartbeats 8000000 in
set_option maxRecDepth 100000 in
theorem impl_otherRoot.calls (k : Nat) (A0 : Option Addr) (c0 : Nat) (l0 : List Int) (a1 : Int) (a2 : Int) (r : Int) (w : World) (hr0 : Kd.C (Kd.int .i64) w A0 l0.length l0) (hc0 : l0.length ≤ c0) (h : impl_otherRoot.f k l0 a1 a2 = some r) :
  Calls Try.prog 58 #[.slice A0 l0.length c0, .int .i64 a1, .int .i64 a2] w fun e w' => e = .returned (.int .i64 r) ∧ Drawn0 w w' := by
 have HR0 := Aside0.mk hr0
 have HC0 := Aside0.mk hc0
 clear hr0 hc0
 have H : (impl_otherRoot.l0 k l0 a2 a1 l0 (l0.length : Int) 0) = some r := h
 clear h
 have H' := Aside0.mk H
 clear H
 go_enter Try.func58, Try.ntmps58
 go_wp2
 go_loopg [7, 13] k (fun kq v7 v13 w' => ∃ (x7_1 : Int) (x13_1 : Int), v7 = .int .i64 x7_1 ∧ v13 = .int .i64 x13_1 ∧ Aside0 (impl_otherRoot.l0 kq l0 a2 x7_1 l0 (l0.length : Int) x13_1 = some r) ∧ Aside0 (kq ≤ k) ∧ Drawn0 w w')
 case atStart => exact ⟨(a1), (0), (by first | rfl | (simp; done) | (simp [*]; done)), (by first | rfl | (simp; done) | (simp [*]; done)), H', ⟨Nat.le_refl _⟩, by repeat (first | exact Drawn0.refl _ | apply Drawn0.step)⟩
 case round =>
  clear H'
  try clear p2
  obtain ⟨x7_1, x13_1, rfl, rfl, HA, HK1, ⟨m1, rfl⟩⟩ := hrel
  cases gk with
  | zero => exact absurd HA.out (by simp [impl_otherRoot.l0])
  | succ k1 =>
   have H := HA.out
   clear HA
   simp only [impl_otherRoot.l0] at H
   by_cases c4 : x13_1 < (l0.length : Int)
   ·rw [if_pos c4] at H
    have c4b0 : decide (x13_1 < (l0.length : Int)) = true := decide_eq_true c4
    clear c4
    by_cases c5 : 0 ≤ x13_1
    ·rw [if_pos c5] at H
     have c5b0 : decide (0 ≤ x13_1) = true := decide_eq_true c5
     clear c5
     by_cases c6 : x13_1 < (l0.length : Int)
     ·rw [if_pos c6] at H
      have c6b0 : decide (x13_1 < (l0.length : Int)) = true := decide_eq_true c6
      clear c6
      by_cases c7 : x13_1 = a2
      ·rw [if_pos c7] at H
       have c7b0 : (x13_1 == a2) = true := beq_iff_eq.mpr c7
       have c7b1 : (x13_1 != a2) = false := bne_eq_false_iff_eq.mpr c7
       clear c7
       have H' := Aside0.mk H
       clear H
       have p167 : 0 ≤ (x13_1 : Int) := of_decide_eq_true (by first | (with_reducible assumption) | assumption)
       have q167 : x13_1 < (l0.length : Int) := of_decide_eq_true (by first | (with_reducible assumption) | assumption)
       obtain ⟨ad167, e167, hx167_0⟩ := Kd.at_int HR0.out x13_1 p167 q167
       cases e167
       replace p167 := eq_true p167
       replace q167 := eq_true q167
       go_wp2
       go_roundg k1
       case measure => have := HK1.out; omega
       case rel => exact ⟨(x7_1), (wrap64 (x13_1 + 1)), (by first | rfl | (simp; done) | (simp [*]; done)), (by first | rfl | (simp; done) | (simp [*]; done)), H', ⟨by have := HK1.out; omega⟩, by repeat (first | exact Drawn0.refl _ | apply Drawn0.step)⟩
      ·rw [if_neg c7] at H
       have c7b0 : (x13_1 == a2) = false := beq_eq_false_iff_ne.mpr c7
       have c7b1 : (x13_1 != a2) = true := bne_iff_ne.mpr c7
       have H' := Aside0.mk H
       clear H
       have p167 : 0 ≤ (x13_1 : Int) := of_decide_eq_true (by first | (with_reducible assumption) | assumption)
       have q167 : x13_1 < (l0.length : Int) := of_decide_eq_true (by first | (with_reducible assumption) | assumption)
       obtain ⟨ad167, e167, hx167_0⟩ := Kd.at_int HR0.out x13_1 p167 q167
       cases e167
       replace p167 := eq_true p167
       replace q167 := eq_true q167
       go_wp2
       go_roundg k1
       case measure => have := HK1.out; omega
       case rel => exact ⟨(wrap64 (x7_1 * (rd l0 x13_1))), (wrap64 (x13_1 + 1)), (by first | rfl | (simp; done) | (simp [*]; done)), (by first | rfl | (simp; done) | (simp [*]; done)), H', ⟨by have := HK1.out; omega⟩, by repeat (first | exact Drawn0.refl _ | apply Drawn0.step)⟩
     ·rw [if_neg c6] at H
      exact absurd H (by simp)
    ·rw [if_neg c5] at H
     exact absurd H (by simp)
   ·rw [if_neg c4] at H
    have c4b0 : decide (x13_1 < (l0.length : Int)) = false := decide_eq_false c4
    clear c4
    by_cases c8 : 0 ≤ a2
    ·rw [if_pos c8] at H
     have c8b0 : decide (0 ≤ a2) = true := decide_eq_true c8
     clear c8
     by_cases c9 : a2 < (l0.length : Int)
     ·rw [if_pos c9] at H
      have c9b0 : decide (a2 < (l0.length : Int)) = true := decide_eq_true c9
      clear c9
      obtain rfl := Option.some.inj H
      have p168 : 0 ≤ (a2 : Int) := of_decide_eq_true (by first | (with_reducible assumption) | assumption)
      have q168 : a2 < (l0.length : Int) := of_decide_eq_true (by first | (with_reducible assumption) | assumption)
      obtain ⟨ad168, e168, hx168_0⟩ := Kd.at_int HR0.out a2 p168 q168
      cases e168
      replace p168 := eq_true p168
      replace q168 := eq_true q168
      go_wp2
      go_ret
      exact ⟨by first | rfl | (simp; done) | (simp [*]; done), by repeat (first | exact Drawn0.refl _ | apply Drawn0.step)⟩
     ·rw [if_neg c9] at H
      exact absurd H (by simp)
    ·rw [if_neg c8] at H
     exact absurd H (by simp)

end Go.Proofs.Ytfdjbcbhlfjogaa.P

-- PFimplisFundamental
namespace Go.Proofs.Ytfdjbcbhlfjogaa.P
open Go.RowKit Go.Proofs.YtfdjbcbhlfjogaaW.PrintWords Go.Proofs.YtfdjbcbhlfjogaaW.PrintLast
set_option linter.unusedVariables false
set_option linter.unusedSimpArgs false

/-! ### impl_isFundamental: function 60 -/
def impl_isFundamental.f (k : Nat) (l0 : List Int) (a1 : Int) : Option (Bool) := (impl_otherRoot.f k l0 a1 0).bind fun t192 => (if 0 < (l0.length : Int) then ((impl_within.f t192 1 (wrap64 ((rd l0 0) - 1))).bind fun t194 => (some (!t194))) else (none))
theorem impl_isFundamental.mono : ∀ a0 a1 k, LeO (impl_isFundamental.f k a0 a1) (impl_isFundamental.f (k + 1) a0 a1) := by
 intro a0 a1 k
 unfold impl_isFundamental.f
 repeat' first
   | (with_reducible exact impl_otherRoot.mono _ _ _ _)
   | (with_reducible exact LeO.refl _)
   | (with_reducible exact LeO.none _)
   | (with_reducible refine LeO.ite ?_ ?_)
   | (with_reducible refine LeO.bind ?_ (fun _ => ?_))
   | exact impl_otherRoot.mono _ _ _ _
   | exact LeO.none _
   | refine LeO.ite ?_ ?_
   | refine LeO.bind ?_ (fun _ => ?_)
set_option maxHeartbeats 8000000 in
set_option maxRecDepth 100000 in
theorem impl_isFundamental.calls (k : Nat) (A0 : Option Addr) (c0 : Nat) (l0 : List Int) (a1 : Int) (r : Bool) (w : World) (hr0 : Kd.C (Kd.int .i64) w A0 l0.length l0) (hc0 : l0.length ≤ c0) (h : impl_isFundamental.f k l0 a1 = some r) :
  Calls Try.prog 60 #[.slice A0 l0.length c0, .int .i64 a1] w fun e w' => e = .returned (.bool r) ∧ Drawn0 w w' := by
 have HR0 := Aside0.mk hr0
 have HC0 := Aside0.mk hc0
 clear hr0 hc0
 have H : ((impl_otherRoot.f k l0 a1 0).bind fun t192 => (if 0 < (l0.length : Int) then ((impl_within.f t192 1 (wrap64 ((rd l0 0) - 1))).bind fun t194 => (some (!t194))) else (none))) = some r := h
 clear h
 replace H := Option.bind_eq_some_iff.mp H
 obtain ⟨t192, A30, H⟩ := H
 replace H : (if 0 < (l0.length : Int) then ((impl_within.f t192 1 (wrap64 ((rd l0 0) - 1))).bind fun t194 => (some (!t194))) else (none)) = some r := H
 have A3 := Aside0.mk A30
 clear A30
 by_cases c4 : 0 < (l0.length : Int)
 ·rw [if_pos c4] at H
  have c4b0 : decide (0 < (l0.length : Int)) = true := decide_eq_true c4
  have c4b1 : decide (0 < l0.length) = true := decide_eq_true (by omega)
  clear c4
  replace H := Option.bind_eq_some_iff.mp H
  obtain ⟨t194, A50, H⟩ := H
  replace H : (some (!t194)) = some r := H
  have A5 := Aside0.mk A50
  clear A50
  obtain rfl := Option.some.inj H
  have p193 : 0 ≤ (0 : Int) := (by omega); have q193 : 0 < (l0.length : Int) := of_decide_eq_true (by first | (with_reducible assumption) | assumption); obtain ⟨ad193, e193, hx193_0⟩ := Kd.at_int HR0.out 0 p193 q193; cases e193; have qi193 : (0 < l0.length) = True := eq_true (by omega); (try rw [show ((0 : Int)).toNat = 0 from rfl] at hx193_0); (try rw [Addr.add_zero'] at hx193_0); replace p193 := eq_true p193; replace q193 := eq_true q193
  go_enter Try.func60, Try.ntmps60
  go_wp2_with (first | (go_at_call 58; (with_reducible refine (impl_otherRoot.calls k _ _ l0 a1 0 t192 _ ?side1 ?side2 A3.out).mono ?_); (case side1 => repeat (first | exact HR0.out | (with_reducible refine Kd.C_alloc ?_ _) | (with_reducible refine Kd.C_drewN ?_ _) | (with_reducible refine Kd.C_drew ?_))); (case side2 => exact HC0.out); rintro e w' ⟨rfl, ⟨nd, rfl⟩⟩; (try first | exact ⟨rfl, _, World.drewN_drewN _ _ _⟩ | exact ⟨rfl, _, Eq.trans (World.drewN_drewN _ _ _) (congrArg (World.drewN _) (Nat.add_assoc _ _ _))⟩)) | (go_at_call 57; (with_reducible refine (impl_within.calls t192 1 (wrap64 ((rd l0 0) - 1)) t194 _ A5.out).mono ?_); rintro e w' ⟨rfl, ⟨nd, rfl⟩⟩; (try first | exact ⟨rfl, _, World.drewN_drewN _ _ _⟩ | exact ⟨rfl, _, Eq.trans (World.drewN_drewN _ _ _) (congrArg (World.drewN _) (Nat.add_assoc _ _ _))⟩)))
  repeat (go_quiet (first | (go_at_call 58; (with_reducible refine (impl_otherRoot.calls k _ _ l0 a1 0 t192 _ ?side1 ?side2 A3.out).mono ?_); (case side1 => repeat (first | exact HR0.out | (with_reducible refine Kd.C_alloc ?_ _) | (with_reducible refine Kd.C_drewN ?_ _) | (with_reducible refine Kd.C_drew ?_))); (case side2 => exact HC0.out); rintro e w' ⟨rfl, ⟨nd, rfl⟩⟩; (try first | exact ⟨rfl, _, World.drewN_drewN _ _ _⟩ | exact ⟨rfl, _, Eq.trans (World.drewN_drewN _ _ _) (congrArg (World.drewN _) (Nat.add_assoc _ _ _))⟩)) | (go_at_call 57; (with_reducible refine (impl_within.calls t192 1 (wrap64 ((rd l0 0) - 1)) t194 _ A5.out).mono ?_); rintro e w' ⟨rfl, ⟨nd, rfl⟩⟩; (try first | exact ⟨rfl, _, World.drewN_drewN _ _ _⟩ | exact ⟨rfl, _, Eq.trans (World.drewN_drewN _ _ _) (congrArg (World.drewN _) (Nat.add_assoc _ _ _))⟩))); try go_wp2_with (first | (go_at_call 58; (with_reducible refine (impl_otherRoot.calls k _ _ l0 a1 0 t192 _ ?side1 ?side2 A3.out).mono ?_); (case side1 => repeat (first | exact HR0.out | (with_reducible refine Kd.C_alloc ?_ _) | (with_reducible refine Kd.C_drewN ?_ _) | (with_reducible refine Kd.C_drew ?_))); (case side2 => exact HC0.out); rintro e w' ⟨rfl, ⟨nd, rfl⟩⟩; (try first | exact ⟨rfl, _, World.drewN_drewN _ _ _⟩ | exact ⟨rfl, _, Eq.trans (World.drewN_drewN _ _ _) (congrArg (World.drewN _) (Nat.add_assoc _ _ _))⟩)) | (go_at_call 57; (with_reducible refine (impl_within.calls t192 1 (wrap64 ((rd l0 0) - 1)) t194 _ A5.out).mono ?_); rintro e w' ⟨rfl, ⟨nd, rfl⟩⟩; (try first | exact ⟨rfl, _, World.drewN_drewN _ _ _⟩ | exact ⟨rfl, _, Eq.trans (World.drewN_drewN _ _ _) (congrArg (World.drewN _) (Nat.add_assoc _ _ _))⟩))))
  go_ret
  exact ⟨by first | rfl | (simp; done) | (simp [*]; done), by repeat (first | exact Drawn0.refl _ | apply Drawn0.step)⟩
 ·rw [if_neg c4] at H
  exact absurd H (by simp)

end Go.Proofs.Ytfdjbcbhlfjogaa.P

-- PFimplareGiven
namespace Go.Proofs.Ytfdjbcbhlfjogaa.P
open Go.RowKit Go.Proofs.YtfdjbcbhlfjogaaW.PrintWords Go.Proofs.YtfdjbcbhlfjogaaW.PrintLast
set_option linter.unusedVariables false
set_option linter.unusedSimpArgs false

/-! ### impl_areGiven: function 52 -/
def impl_areGiven.f (a0 : Int) (a1 : Int) : Option (Bool) := (impl_within.f a0 1 20).bind fun t121 => (if t121 = true then ((impl_within.f a1 (-50) 50).bind fun t122 => (some t122)) else (some false))
set_option maxHeartbeats 8000000 in
set_option maxRecDepth 100000 in
theorem impl_areGiven.calls (a0 : Int) (a1 : Int) (r : Bool) (w : World) (h : impl_areGiven.f a0 a1 = some r) :
  Calls Try.prog 52 #[.int .i64 a0, .int .i64 a1] w fun e w' => e = .returned (.bool r) ∧ Drawn0 w w' := by
 have H : ((impl_within.f a0 1 20).bind fun t121 => (if t121 = true then ((impl_within.f a1 (-50) 50).bind fun t122 => (some t122)) else (some false))) = some r := h
 clear h
 replace H := Option.bind_eq_some_iff.mp H
 obtain ⟨t121, A30, H⟩ := H
 replace H : (if t121 = true then ((impl_within.f a1 (-50) 50).bind fun t122 => (some t122)) else (some false)) = some r := H
 have A3 := Aside0.mk A30
 clear A30
 by_cases c4 : t121 = true
 ·subst c4
  have H1 : ((impl_within.f a1 (-50) 50).bind fun t122 => (some t122)) = some r := by rw [if_pos rfl] at H; exact H
  clear H
  have H := H1
  clear H1
  replace H := Option.bind_eq_some_iff.mp H
  obtain ⟨t122, A50, H⟩ := H
  replace H : (some t122) = some r := H
  have A5 := Aside0.mk A50
  clear A50
  obtain rfl := Option.some.inj H
  go_enter Try.func52, Try.ntmps52
  go_wp2_with (first | ((with_reducible refine gate_callee (f := 57) rfl ?_); refine goesL_ (some 6) rfl rfl Try.func57 (by kernel_rfl) rfl #[.int .i64 a0, .int .i64 1, .int .i64 20] rfl (by (try simp only [List.map_toArray, List.map_cons, List.map_nil]); first | done | rfl | (simp only [List.length_drop, List.length_take]; rfl)) ?_; (with_reducible refine (impl_within.calls a0 1 20 true _ A3.out).mono ?_); rintro e w' ⟨rfl, ⟨nd, rfl⟩⟩; refine ⟨_, rfl, ?_⟩) | (go_at_call 57; (with_reducible refine (impl_within.calls a1 (-50) 50 t122 _ A5.out).mono ?_); rintro e w' ⟨rfl, ⟨nd, rfl⟩⟩))
  go_ret
  exact ⟨by first | rfl | (simp; done) | (simp [*]; done), by repeat (first | exact Drawn0.refl _ | apply Drawn0.step)⟩
 ·replace c4 := Bool.eq_false_iff.mpr c4
  subst c4
  have H1 : (some false) = some r := by rw [if_neg (show ¬ (false = true) by decide)] at H; exact H
  clear H
  have H := H1
  clear H1
  obtain rfl := Option.some.inj H
  go_enter Try.func52, Try.ntmps52
  go_wp2_with (first | ((with_reducible refine gate_callee (f := 57) rfl ?_); refine goesL_ (some 6) rfl rfl Try.func57 (by kernel_rfl) rfl #[.int .i64 a0, .int .i64 1, .int .i64 20] rfl (by (try simp only [List.map_toArray, List.map_cons, List.map_nil]); first | done | rfl | (simp only [List.length_drop, List.length_take]; rfl)) ?_; (with_reducible refine (impl_within.calls a0 1 20 false _ A3.out).mono ?_); rintro e w' ⟨rfl, ⟨nd, rfl⟩⟩; refine ⟨_, rfl, ?_⟩))
  go_ret
  exact ⟨by first | rfl | (simp; done) | (simp [*]; done), by repeat (first | exact Drawn0.refl _ | apply Drawn0.step)⟩

end Go.Proofs.Ytfdjbcbhlfjogaa.P

-- PFimplareTried
namespace Go.Proofs.Ytfdjbcbhlfjogaa.P
open Go.RowKit Go.Proofs.YtfdjbcbhlfjogaaW.PrintWords Go.Proofs.YtfdjbcbhlfjogaaW.PrintLast
set_option linter.unusedVariables false
set_option linter.unusedSimpArgs false

/-! ### impl_areTried: function 63 -/
def impl_areTried.f (a0 : Int) (a1 : Int) (a2 : Int) : Option (Bool) := (impl_within.f a0 3 4).bind fun t240 => (if t240 = true then ((impl_within.f a1 (-50) 50).bind fun t241 => (if t241 = true then ((impl_within.f a2 1 40).bind fun t242 => (some t242)) else (some false))) else (some false))
set_option maxHeartbeats 8000000 in
set_option maxRecDepth 100000 in
theorem impl_areTried.calls (a0 : Int) (a1 : Int) (a2 : Int) (r : Bool) (w : World) (h : impl_areTried.f a0 a1 a2 = some r) :
  Calls Try.prog 63 #[.int .i64 a0, .int .i64 a1, .int .i64 a2] w fun e w' => e = .returned (.bool r) ∧ Drawn0 w w' := by
 have H : ((impl_within.f a0 3 4).bind fun t240 => (if t240 = true then ((impl_within.f a1 (-50) 50).bind fun t241 => (if t241 = true then ((impl_within.f a2 1 40).bind fun t242 => (some t242)) else (some false))) else (some false))) = some r := h
 clear h
 replace H := Option.bind_eq_some_iff.mp H
 obtain ⟨t240, A40, H⟩ := H
 replace H : (if t240 = true then ((impl_within.f a1 (-50) 50).bind fun t241 => (if t241 = true then ((impl_within.f a2 1 40).bind fun t242 => (some t242)) else (some false))) else (some false)) = some r := H
 have A4 := Aside0.mk A40
 clear A40
 by_cases c5 : t240 = true
 ·subst c5
  have H1 : ((impl_within.f a1 (-50) 50).bind fun t241 => (if t241 = true then ((impl_within.f a2 1 40).bind fun t242 => (some t242)) else (some false))) = some r := by rw [if_pos rfl] at H; exact H
  clear H
  have H := H1
  clear H1
  replace H := Option.bind_eq_some_iff.mp H
  obtain ⟨t241, A60, H⟩ := H
  replace H : (if t241 = true then ((impl_within.f a2 1 40).bind fun t242 => (some t242)) else (some false)) = some r := H
  have A6 := Aside0.mk A60
  clear A60
  by_cases c7 : t241 = true
  ·subst c7
   have H1 : ((impl_within.f a2 1 40).bind fun t242 => (some t242)) = some r := by rw [if_pos rfl] at H; exact H
   clear H
   have H := H1
   clear H1
   replace H := Option.bind_eq_some_iff.mp H
   obtain ⟨t242, A80, H⟩ := H
   replace H : (some t242) = some r := H
   have A8 := Aside0.mk A80
   clear A80
   obtain rfl := Option.some.inj H
   go_enter Try.func63, Try.ntmps63
   go_wp2_with (first | ((with_reducible refine gate_callee (f := 57) rfl ?_); refine goesL_ (some 8) rfl rfl Try.func57 (by kernel_rfl) rfl #[.int .i64 a0, .int .i64 3, .int .i64 4] rfl (by (try simp only [List.map_toArray, List.map_cons, List.map_nil]); first | done | rfl | (simp only [List.length_drop, List.length_take]; rfl)) ?_; (with_reducible refine (impl_within.calls a0 3 4 true _ A4.out).mono ?_); rintro e w' ⟨rfl, ⟨nd, rfl⟩⟩; refine ⟨_, rfl, ?_⟩) | (go_at_call 57; (with_reducible refine (impl_within.calls a1 (-50) 50 true _ A6.out).mono ?_); rintro e w' ⟨rfl, ⟨nd, rfl⟩⟩) | (go_at_call 57; (with_reducible refine (impl_within.calls a2 1 40 t242 _ A8.out).mono ?_); rintro e w' ⟨rfl, ⟨nd, rfl⟩⟩))
   go_ret
   exact ⟨by first | rfl | (simp; done) | (simp [*]; done), by repeat (first | exact Drawn0.refl _ | apply Drawn0.step)⟩
  ·replace c7 := Bool.eq_false_iff.mpr c7
   subst c7
   have H1 : (some false) = some r := by rw [if_neg (show ¬ (false = true) by decide)] at H; exact H
   clear H
   have H := H1
   clear H1
   obtain rfl := Option.some.inj H
   go_enter Try.func63, Try.ntmps63
   go_wp2_with (first | ((with_reducible refine gate_callee (f := 57) rfl ?_); refine goesL_ (some 8) rfl rfl Try.func57 (by kernel_rfl) rfl #[.int .i64 a0, .int .i64 3, .int .i64 4] rfl (by (try simp only [List.map_toArray, List.map_cons, List.map_nil]); first | done | rfl | (simp only [List.length_drop, List.length_take]; rfl)) ?_; (with_reducible refine (impl_within.calls a0 3 4 true _ A4.out).mono ?_); rintro e w' ⟨rfl, ⟨nd, rfl⟩⟩; refine ⟨_, rfl, ?_⟩) | (go_at_call 57; (with_reducible refine (impl_within.calls a1 (-50) 50 false _ A6.out).mono ?_); rintro e w' ⟨rfl, ⟨nd, rfl⟩⟩))
   go_ret
   exact ⟨by first | rfl | (simp; done) | (simp [*]; done), by repeat (first | exact Drawn0.refl _ | apply Drawn0.step)⟩
 ·replace c5 := Bool.eq_false_iff.mpr c5
  subst c5
  have H1 : (some false) = some r := by rw [if_neg (show ¬ (false = true) by decide)] at H; exact H
  clear H
  have H := H1
  clear H1
  obtain rfl := Option.some.inj H
  go_enter Try.func63, Try.ntmps63
  go_wp2_with (first | ((with_reducible refine gate_callee (f := 57) rfl ?_); refine goesL_ (some 8) rfl rfl Try.func57 (by kernel_rfl) rfl #[.int .i64 a0, .int .i64 3, .int .i64 4] rfl (by (try simp only [List.map_toArray, List.map_cons, List.map_nil]); first | done | rfl | (simp only [List.length_drop, List.length_take]; rfl)) ?_; (with_reducible refine (impl_within.calls a0 3 4 false _ A4.out).mono ?_); rintro e w' ⟨rfl, ⟨nd, rfl⟩⟩; refine ⟨_, rfl, ?_⟩))
  go_ret
  exact ⟨by first | rfl | (simp; done) | (simp [*]; done), by repeat (first | exact Drawn0.refl _ | apply Drawn0.step)⟩

end Go.Proofs.Ytfdjbcbhlfjogaa.P

-- Ufalling
namespace Go.Proofs.Ytfdjbcbhlfjogaa.P
open Go Go.RowKit Go.Proofs.YtfdjbcbhlfjogaaW.PrintWords Go.Proofs.YtfdjbcbhlfjogaaW.PrintLast
set_option linter.unusedVariables false
set_option linter.unusedSimpArgs false

/-- What is left as it was, but for some blocks. -/
structure Fr (W w' : World) (ok : Nat → Prop) : Prop where
  os : w'.os = W.os
  tape : w'.tape = W.tape
  output : w'.output = W.output
  size : W.heap.size ≤ w'.heap.size
  block : ∀ k, k < W.heap.size → ¬ ok k → w'.heap[k]? = W.heap[k]?
theorem Fr.refl (W : World) (ok : Nat → Prop) : Fr W W ok := ⟨rfl, rfl, rfl, Nat.le_refl _, fun _ _ _ => rfl⟩
theorem Fr.trans {W W1 W2 : World} {ok ok1 : Nat → Prop} (h : Fr W W1 ok) (h1 : Fr W1 W2 ok1) (ho : ∀ k, k < W.heap.size → ok1 k → ok k) : Fr W W2 ok :=
  ⟨h1.os.trans h.os, h1.tape.trans h.tape, h1.output.trans h.output, Nat.le_trans h.size h1.size, fun k hk hn => (h1.block k (Nat.lt_of_lt_of_le hk h.size) (fun e => hn (ho k hk e))).trans (h.block k hk hn)⟩
theorem Fr.below {W w' : World} {ok : Nat → Prop} {B : Nat} (h : Fr W w' ok) (hB : ∀ k, k < B → k < W.heap.size ∧ ¬ ok k) : Below B W w' :=
  ⟨h.os, h.tape, h.output, h.size, fun k hk => h.block k (hB k hk).1 (hB k hk).2⟩
theorem Fr.of_below {W w' : World} (h : Below W.heap.size W w') (ok : Nat → Prop) : Fr W w' ok := ⟨h.os, h.tape, h.output, h.size, fun k hk _ => h.block k hk⟩

/-- A list of falling: no block, or a block of numbers whose first ones it is. -/
def Lst (W : World) (v : Value) (x : List Int) : Prop :=
  (v = .slice none 0 0 ∧ x = []) ∨ ∃ g cap cur, v = .slice (some ⟨g, 0, none⟩) x.length cap ∧ W.heap[g]? = some (.cells cur 3 (0, 0)) ∧ x.length ≤ cap ∧ cap ≤ maxLen ∧ cur.size = cap ∧ cur.toList.take x.length = x.map (Value.int .i64)
theorem Lst.slice {W : World} {v : Value} {x : List Int} (h : Lst W v x) : ∃ A c, v = .slice A x.length c ∧ x.length ≤ c := by
  rcases h with ⟨rfl, rfl⟩ | ⟨g, cap, cur, rfl, _, h, _⟩
  · exact ⟨none, 0, rfl, Nat.le_refl _⟩
  · exact ⟨_, _, rfl, h⟩
theorem Lst.lt {W : World} {v : Value} {x : List Int} (h : Lst W v x) : ∀ k, v.ownBlock = some k → k < W.heap.size := by
  intro k hk
  rcases h with ⟨rfl, rfl⟩ | ⟨g, cap, cur, rfl, hg, _⟩
  · simp [Value.ownBlock] at hk
  · simp only [Value.ownBlock, Option.some.injEq] at hk
    subst hk
    exact (Array.getElem?_eq_some_iff.1 hg).1
theorem Lst.move {W W1 : World} {v : Value} {x : List Int} (h : Lst W v x) (hm : ∀ k, v.ownBlock = some k → W1.heap[k]? = W.heap[k]?) : Lst W1 v x := by
  rcases h with ⟨rfl, rfl⟩ | ⟨g, cap, cur, rfl, hg, h⟩
  · exact .inl ⟨rfl, rfl⟩
  · exact .inr ⟨g, cap, cur, rfl, (hm g rfl).trans hg, h⟩
theorem Lst.own {W : World} {v : Value} {x : List Int} (h : Lst W v x) : W.ownsRow 0 3 1 v x.length (x.map (Value.int .i64)) := by
  refine ⟨by simp, ?_⟩
  rcases h with ⟨rfl, rfl⟩ | ⟨g, cap, cur, rfl, hg, h1, h2, h3, h4⟩
  · exact .inl ⟨rfl, rfl⟩
  · exact .inr ⟨g, cap, cur, rfl, Nat.zero_le _, hg, h1, h2, by omega, by rw [Nat.mul_one]; exact h4⟩
theorem Lst.of_own {W : World} {base : Nat} {v : Value} {x : List Int} (h : W.ownsRow base 3 1 v x.length (x.map (Value.int .i64))) : Lst W v x := by
  obtain ⟨_, ⟨rfl, h⟩ | ⟨g, cap, cur, rfl, _, hg, h1, h2, h3, h4⟩⟩ := h
  · exact .inl ⟨rfl, List.eq_nil_of_length_eq_zero h⟩
  · exact .inr ⟨g, cap, cur, rfl, hg, h1, h2, by omega, by rw [Nat.mul_one] at h4; exact h4⟩
theorem Lst.R {W : World} {v : Value} {x : List Int} (h : Lst W v x) : Kd.R (Kd.int .i64) 3 W 0 (fun _ => True) v x := by
  refine Kd.R_of_own (enc := Value.int .i64) (h1 := fun _ => rfl) ?_ (fun _ _ => trivial)
  exact h.own
/-- The elder list again, behind what was put behind it in its own block. -/
theorem Lst.cut {W : World} {g cap : Nat} {x : List Int} {n : Int} (h : Lst W (.slice (some ⟨g, 0, none⟩) (x.length + 1) cap) (x ++ [n])) : Lst W (.slice (some ⟨g, 0, none⟩) x.length cap) x := by
  rcases h with ⟨h, _⟩ | ⟨g', cap', cur, he, hg, h1, h2, h3, h4⟩
  · simp at h
  · simp only [List.length_append, List.length_singleton] at he h1 h4
    injection he with e1 e2 e3
    injection e1 with e1
    injection e1 with e1
    subst e1
    subst e3
    refine .inr ⟨g, cap, cur, rfl, hg, by omega, h2, h3, ?_⟩
    have h5 := congrArg (List.take x.length) h4
    rw [List.take_take, Nat.min_eq_left (by omega)] at h5
    rw [h5, List.map_append, List.take_left' (by simp)]
theorem heap_setRow_other (w : World) (g k : Nat) (cs : Array Value) (h : k ≠ g) : (w.setRow g cs).heap[k]? = w.heap[k]? := by
  simp only [World.setRow, Array.getElem?_modify]
  rw [if_neg (fun e => h e.symm)]
/-- A number put behind a list. -/
theorem lst_append (W : World) (t ty : TypeId) (i : TypeInfo) (ht : Try.prog.underlying t = some (.slice 3)) (hi : Try.prog.info? 3 = some i) (hz : i.zero = some (.int .i64 0)) (hsz : i.size = 1) (hby : i.bytes = 8) (v : Value) (x : List Int) (n : Int) (h : Lst W v x) (hl : x.length ≤ 1000000) :
    ∃ v1 w1, (Builtin.append_ #[t, t] ty #[v, .slice (some ⟨W.heap.size, 0, none⟩) 1 1]).run Try.prog (W.alloc (.cells #[.int .i64 n] 3)) = .ok v1 w1 ∧ Lst w1 v1 (x ++ [n]) ∧ Fr W w1 (fun k => v.ownBlock = some k ∧ v1.ownBlock = some k) ∧ (∀ k, v1.ownBlock = some k → v.ownBlock = some k ∨ W.heap.size ≤ k) ∧ (∀ w2, Lst w2 v1 (x ++ [n]) → (∀ k, v.ownBlock = some k → v1.ownBlock ≠ some k → w2.heap[k]? = W.heap[k]?) → Lst w2 v x) := by
  have hnews := cell_one_new W (.int .i64 n) 3
  have hmap : (x ++ [n]).map (Value.int .i64) = x.map (Value.int .i64) ++ [.int .i64 n] := by simp
  have hlen : (x ++ [n]).length = x.length + 1 := by simp
  have h0 := h
  rcases h with ⟨rfl, rfl⟩ | ⟨g, cap, cur, rfl, hg, h1, h2, h3, h4⟩
  · obtain ⟨v1, w1, hr, hown, hgr, _⟩ := run_append_own (P := Try.prog) (W.alloc (.cells #[.int .i64 n] 3)) W.heap.size t ty 3 i (.int .i64 0) 1 8 ht hi hz hsz hby rfl (by decide) (.slice none 0 0) 0 [] (World.ownsRow_nil _ _ _ _) ⟨W.heap.size, 0, none⟩ 1 1 [.int .i64 n] rfl hnews (by simp [Value.oneCell']) (by simp [maxLen]) (by omega) (by simp)
    refine ⟨v1, w1, hr, Lst.of_own (base := W.heap.size) hown, ⟨hgr.os, hgr.tape, hgr.output, Nat.le_trans (by simp) hgr.size, fun k hk _ => (hgr.block k (by simp; omega) (by simp [Value.ownBlock])).trans (heap_alloc_old W _ hk)⟩, fun k hk => .inr (hown.lt k hk).1, fun w2 _ _ => .inl ⟨rfl, rfl⟩⟩
  · have hgl : g < W.heap.size := (Array.getElem?_eq_some_iff.1 hg).1
    have hga : (W.alloc (.cells #[.int .i64 n] 3)).heap[g]? = some (.cells cur 3 (0, 0)) := (heap_alloc_old W _ hgl).trans hg
    by_cases hroom : x.length + 1 ≤ cap
    · have hr := run_append_room (P := Try.prog) (W.alloc (.cells #[.int .i64 n] 3)) t ty 3 i ht hi g x.length cap cur hga ⟨W.heap.size, 0, none⟩ 1 1 [.int .i64 n] (by rw [hsz]; rfl) hnews (by simp [Value.oneCell']) hroom (by rw [hsz]; simp; omega)
      rw [hsz, Nat.mul_one, h4] at hr
      refine ⟨_, _, hr, ?_, ⟨rfl, rfl, rfl, by simp, fun k hk hn => ?_⟩, fun k hk => .inl hk, fun w2 hL _ => ?_⟩
      · refine .inr ⟨g, cap, _, by rw [hlen], setRow_heap _ g cur _ _ _ hga, by omega, h2, ?_, ?_⟩
        · simp; omega
        · rw [hlen, hmap]
          simp only [List.append_assoc]
          rw [← List.append_assoc, List.take_left' (by simp)]
      · rw [heap_setRow_other _ _ _ _ (fun e => hn ⟨by rw [e]; rfl, by rw [e]; rfl⟩)]
        exact heap_alloc_old W _ hk
      · exact hL.cut
    · have hcells : ∀ (j : Nat) (u : Value), (x.map (Value.int .i64))[j]? = some u → (W.alloc (.cells #[.int .i64 n] 3)).cell? ((⟨g, 0, none⟩ : Addr).add j) = some u := by
        have ho : (W.alloc (.cells #[.int .i64 n] 3)).ownsRow 0 3 1 (.slice (some ⟨g, 0, none⟩) x.length cap) x.length (x.map (Value.int .i64)) := h0.own.alloc _
        exact ho.cells rfl
      obtain ⟨v1, w1, hr, hown, hgr⟩ := run_append_arg_grows (P := Try.prog) (W.alloc (.cells #[.int .i64 n] 3)) t ty 3 i (.int .i64 0) 1 8 ht hi hz hsz hby rfl (by decide) ⟨g, 0, none⟩ x.length cap (x.map (Value.int .i64)) (by simp) hcells ⟨W.heap.size, 0, none⟩ 1 1 [.int .i64 n] rfl hnews (by omega) (by simp [maxLen]; omega) (by omega)
      have hge : ∀ k, v1.ownBlock = some k → W.heap.size ≤ k := fun k hk => by have := (hown.lt k hk).1; simp at this; omega
      refine ⟨v1, w1, hr, Lst.of_own (base := (W.alloc (.cells #[.int .i64 n] 3)).heap.size) (by rw [hlen, hmap]; exact hown), ⟨hgr.os, hgr.tape, hgr.output, Nat.le_trans (by simp) hgr.size, fun k hk _ => (hgr.block k (by simp; omega) (by simp)).trans (heap_alloc_old W _ hk)⟩, fun k hk => .inr (hge k hk), fun w2 _ hb => h0.move (fun k hk => hb k hk (fun e => ?_))⟩
      have h5 := hge k e
      have h6 := h0.lt k hk
      omega
section
variable {ops : Array Oper} {rest : List Oper} {o : Oper} {a : Act} {Q : Exit → Act → World → Prop}
/-- The same, as a step of the walk. -/
theorem wpList_lst_append {W : World} (hgd : o.guard = none) (s y : Operand) (t : TypeId) (ho : o.op = .call { callee := .builtin .append, args := #[s, y], argTypes := #[t, t] })
    (ht : Try.prog.underlying t = some (.slice 3)) (hinfo : (Try.prog.info? 3).map (fun i => (i.zero, i.size, i.bytes)) = some (some (.int .i64 0), 1, 8)) (v : Value) (x : List Int) (n : Int) (hs : a.eval s = v) (hy : a.eval y = .slice (some ⟨W.heap.size, 0, none⟩) 1 1) (hL : Lst W v x) (hl : x.length ≤ 1000000)
    (h : ∀ v1 w1, Lst w1 v1 (x ++ [n]) → Fr W w1 (fun k => v.ownBlock = some k ∧ v1.ownBlock = some k) → (∀ k, v1.ownBlock = some k → v.ownBlock = some k ∨ W.heap.size ≤ k) → (∀ w2, Lst w2 v1 (x ++ [n]) → (∀ k, v.ownBlock = some k → v1.ownBlock ≠ some k → w2.heap[k]? = W.heap[k]?) → Lst w2 v x) → wpList Try.prog ops Q rest (a.put o.dst v1) w1) :
    wpList Try.prog ops Q (o :: rest) a (W.alloc (.cells #[.int .i64 n] 3)) := by
  refine wpList_plain hgd fun K hK => ?_
  obtain ⟨i, hi, hzz⟩ := Option.map_eq_some_iff.1 hinfo
  simp only [Prod.mk.injEq] at hzz
  obtain ⟨hz0, hz1, hz2⟩ := hzz
  obtain ⟨v1, w1, hr, h2, h3, h4, h5⟩ := lst_append W t o.type i ht hi hz0 hz1 hz2 v x n hL hl
  unfold Oper.wp execOp
  simp only [ho, resolve, invoke, builtin, Sem.run_bind, Sem.run_pure, Result.andThen_ok, List.map_toArray, List.map_cons, List.map_nil, hs, hy, hr]
  exact hK _ _ (h v1 w1 h2 h3 h4 h5)
end

/-- A fold over 1, 2, .. -/
def fallL {σ : Type} (f : σ → Int → Option σ) : Nat → Int → σ → Option σ
  | 0, _, s => some s
  | j + 1, n, s => (f s n).bind fun s1 => fallL f j (n + 1) s1
/-- All lists that do not rise, in order, each handed to step. -/
def fallS {σ : Type} (step : σ → List Int → Option σ) : Nat → List Int → Int → σ → Option σ
  | 0, x, _, s => step s x
  | p + 1, x, m, s => fallL (fun s n => fallS step p (x ++ [n]) n s) m.toNat 1 s
theorem fallL_mono {σ : Type} (f g : σ → Int → Option σ) (h : ∀ s n, LeO (f s n) (g s n)) : ∀ j n s, LeO (fallL f j n s) (fallL g j n s)
  | 0, n, s => LeO.refl _
  | j + 1, n, s => LeO.bind (h s n) (fun s1 => fallL_mono f g h j (n + 1) s1)
theorem fallS_mono {σ : Type} (f g : σ → List Int → Option σ) (h : ∀ s x, LeO (f s x) (g s x)) : ∀ p x m s, LeO (fallS f p x m s) (fallS g p x m s)
  | 0, x, m, s => h s x
  | p + 1, x, m, s => fallL_mono _ _ (fun s n => fallS_mono f g h p (x ++ [n]) n s) _ _ _

/-- What is known of a visitor: its state, told in the world (I), in blocks that are ok; what it does with a list (step). -/
structure Vis {σ : Type} (g : Nat) (lb : Array Value) (I : σ → World → (Nat → Prop) → Prop) (step : σ → List Int → Option σ) : Prop where
  mono : ∀ s W ok ok', I s W ok → (∀ k, ok k → ok' k) → I s W ok'
  bound : ∀ s W ok, I s W ok → I s W (fun k => ok k ∧ k < W.heap.size)
  move : ∀ s W W1 ok, I s W ok → (∀ k, ok k → k < W.heap.size → W1.heap[k]? = W.heap[k]?) → W.heap.size ≤ W1.heap.size → I s W1 ok
  visit : ∀ s s' W A c x ok, I s W ok → step s x = some s' → Kd.C (Kd.int .i64) W A x.length x → x.length ≤ c → x.length ≤ 1000000 → Calls Try.prog g (#[.slice A x.length c] ++ lb) W fun e w' => e = .returned (.tuple #[]) ∧ I s' w' (fun k => ok k ∨ W.heap.size ≤ k) ∧ Fr W w' ok
end Go.Proofs.Ytfdjbcbhlfjogaa.P

-- GallWithin
namespace Go.Proofs.Ytfdjbcbhlfjogaa.P
open Go.RowKit Go.Proofs.YtfdjbcbhlfjogaaW.PrintWords Go.Proofs.YtfdjbcbhlfjogaaW.PrintLast
set_option linter.unusedVariables false
set_option linter.unusedSimpArgs false

def inB (lo hi x : Int) : Bool := decide (lo ≤ x) && decide (x ≤ hi)
def impl_allWithin.f (l0 : List Int) (a1 a2 : Int) : Option Bool := some (l0.all (inB a1 a2))

theorem impl_within.given (n lo hi : Int) (w : World) : Calls Try.prog 57 #[.int .i64 n, .int .i64 lo, .int .i64 hi] w fun e w' => e = .returned (.bool (inB lo hi n)) ∧ w = w' := by
  unfold inB
  by_cases h1 : lo ≤ n <;> by_cases h2 : n ≤ hi
  all_goals
    go_enter Try.func57, Try.ntmps57
    go_wp2
    go_ret
    exact ⟨by simp [h1, h2], rfl⟩

/-- The closure of allWithin. -/
theorem allWithin_closure (n lo hi : Int) (B1 B2 : Nat) (w : World) (h1 : w.cell? ⟨B1, 0, none⟩ = some (.int .i64 lo)) (h2 : w.cell? ⟨B2, 0, none⟩ = some (.int .i64 hi)) :
    Calls Try.prog 84 #[.int .i64 n, .pointer (some ⟨B1, 0, none⟩), .pointer (some ⟨B2, 0, none⟩)] w fun e w' => e = .returned (.bool (!inB lo hi n)) ∧ w = w' := by
  go_enter Try.func84, Try.ntmps84
  go_wp2_with (go_at_call 57; refine (impl_within.given _ _ _ _).mono ?_; rintro e w' ⟨rfl, rfl⟩)
  go_ret
  exact ⟨rfl, rfl⟩

theorem inB_take_succ (l : List Int) (lo hi : Int) (k : Nat) (h : k < l.length) : (l.take (k + 1)).all (inB lo hi) = ((l.take k).all (inB lo hi) && inB lo hi (rd l k)) := by
  rw [List.take_succ_eq_append_getElem h, List.all_append]
  simp [rd, List.getD_eq_getElem?_getD, h]

/-- What IndexFunc tells of all numbers. -/
def Hits (l : List Int) (lo hi i : Int) : Prop := decide (0 ≤ i) = !l.all (inB lo hi)
theorem hits_none (l : List Int) (lo hi : Int) (h : (l.take l.length).all (inB lo hi) = true) : Hits l lo hi (-1) := by
  rw [List.take_length] at h
  unfold Hits
  rw [h]
  rfl
theorem hits_at (l : List Int) (lo hi : Int) (k : Nat) (h : k < l.length) (hq : inB lo hi (rd l k) = false) : Hits l lo hi k := by
  unfold Hits
  rw [decide_eq_true (by omega : 0 ≤ (k : Int)), eq_comm, Bool.not_eq_true']
  rw [List.all_eq_false]
  refine ⟨l[k], List.getElem_mem h, ?_⟩
  simp [rd, List.getD_eq_getElem?_getD, h] at hq
  simp [hq]

set_option maxHeartbeats 1000000 in
theorem allWithin_index (A0 : Option Addr) (c0 : Nat) (l0 : List Int) (lo hi : Int) (B1 B2 : Nat) (w : World) (hr0 : Kd.C (Kd.int .i64) w A0 l0.length l0) (hl : l0.length ≤ 9223372036854775807)
    (h1 : w.cell? ⟨B1, 0, none⟩ = some (.int .i64 lo)) (h2 : w.cell? ⟨B2, 0, none⟩ = some (.int .i64 hi)) :
    Calls Try.prog 90 #[.slice A0 l0.length c0, .func (.func 84) #[] #[.pointer (some ⟨B1, 0, none⟩), .pointer (some ⟨B2, 0, none⟩)]] w
      fun e w' => (∃ i : Int, e = .returned (.int .i64 i) ∧ Hits l0 lo hi i) ∧ Drawn0 w w' := by
  have HR := Aside0.mk hr0
  clear hr0
  go_enter Try.func90, Try.ntmps90
  go_wp2
  go_loopg [5, 8] l0.length (fun gg _ s8 wr => ∃ kk : Nat, kk ≤ l0.length ∧ l0.length - kk ≤ gg ∧ s8 = .int .i64 kk ∧ w = wr ∧ Aside0 ((l0.take kk).all (inB lo hi) = true))
  case atStart => exact ⟨0, Nat.zero_le _, by omega, rfl, rfl, ⟨by simp⟩⟩
  case round =>
    obtain ⟨kk, hkk, hg, rfl, rfl, HA⟩ := hrel
    by_cases hlt : kk < l0.length
    · have hltz : (kk : Int) < (l0.length : Int) := by omega
      obtain ⟨ad, e1, hx⟩ := Kd.at_int HR.out (kk : Int) (by omega) (by omega)
      cases e1
      rw [Int.toNat_natCast] at hx
      have hcall := allWithin_closure (rd l0 (kk : Int)) lo hi B1 B2 w h1 h2
      have HS := Aside0.mk (inB_take_succ l0 lo hi kk hlt)
      cases hq : inB lo hi (rd l0 (kk : Int)) with
      | true =>
        rw [hq] at hcall
        have HQ := Aside0.mk hq
        clear hq h1 h2
        go_wp2_with (go_at_call 84; refine hcall.mono ?_; rintro e w' ⟨rfl, rfl⟩)
        go_roundg (l0.length - (kk + 1))
        case measure => omega
        case rel => exact ⟨kk + 1, by omega, by omega, by go_num, rfl, ⟨by rw [HS.out, HA.out, HQ.out]; rfl⟩⟩
      | false =>
        rw [hq] at hcall
        have HQ := Aside0.mk hq
        clear hq h1 h2
        go_wp2_with (go_at_call 84; refine hcall.mono ?_; rintro e w' ⟨rfl, rfl⟩)
        go_ret
        refine ⟨⟨_, rfl, ?_⟩, Drawn0.refl _⟩
        exact hits_at l0 lo hi kk hlt HQ.out
    · have hltz : ¬ (kk : Int) < (l0.length : Int) := by omega
      have hk : kk = l0.length := by omega
      subst hk
      go_wp2
      go_ret
      refine ⟨⟨_, rfl, ?_⟩, Drawn0.refl _⟩
      exact hits_none l0 lo hi HA.out

theorem allWithin_contains (A0 : Option Addr) (c0 : Nat) (l0 : List Int) (lo hi : Int) (B1 B2 : Nat) (w : World) (hr0 : Kd.C (Kd.int .i64) w A0 l0.length l0) (hl : l0.length ≤ 9223372036854775807)
    (h1 : w.cell? ⟨B1, 0, none⟩ = some (.int .i64 lo)) (h2 : w.cell? ⟨B2, 0, none⟩ = some (.int .i64 hi)) :
    Calls Try.prog 83 #[.slice A0 l0.length c0, .func (.func 84) #[] #[.pointer (some ⟨B1, 0, none⟩), .pointer (some ⟨B2, 0, none⟩)]] w
      fun e w' => e = .returned (.bool (!l0.all (inB lo hi))) ∧ Drawn0 w w' := by
  have hC := allWithin_index A0 c0 l0 lo hi B1 B2 w hr0 hl h1 h2
  clear hr0 h1 h2
  go_enter Try.func83, Try.ntmps83
  go_wp2_with (go_at_call 90; refine hC.mono ?_; rintro e w' ⟨⟨i, rfl, hi_⟩, ⟨n, rfl⟩⟩; have HI := Aside0.mk hi_; clear hi_)
  go_ret
  refine ⟨?_, ⟨⟨n, rfl⟩⟩⟩
  exact congrArg (fun b => Ending.returned (.bool b)) HI.out

theorem reads_max {A : Option Addr} {n : Nat} {xs : List Int} {w : World} (h : Kd.C (Kd.int .i64) w A n xs) : n ≤ 9223372036854775807 := (Kd.reads_of_C (enc := Value.int .i64) (d := (0 : Int)) (h1 := fun _ => rfl) h).2.1

theorem impl_allWithin.calls (A0 : Option Addr) (c0 : Nat) (l0 : List Int) (a1 : Int) (a2 : Int) (r : Bool) (w : World) (hr0 : Kd.C (Kd.int .i64) w A0 l0.length l0) (hc0 : l0.length ≤ c0) (h : impl_allWithin.f l0 a1 a2 = some r) :
    Calls Try.prog 71 #[.slice A0 l0.length c0, .int .i64 a1, .int .i64 a2] w fun e w' => e = .returned (.bool r) ∧ Below w.heap.size w w' := by
  obtain rfl : l0.all (inB a1 a2) = r := Option.some.inj h
  have hl := reads_max hr0
  have hb1 : Below w.heap.size w (w.alloc (.cells #[.int .i64 a1] 3)) := below_alloc (Below.refl _ _) _
  have hb2 : Below w.heap.size w ((w.alloc (.cells #[.int .i64 a1] 3)).alloc (.cells #[.int .i64 a2] 3)) := below_alloc hb1 _
  have hC := allWithin_contains A0 c0 l0 a1 a2 w.heap.size (w.heap.size + 1) ((w.alloc (.cells #[.int .i64 a1] 3)).alloc (.cells #[.int .i64 a2] 3)) (Kd.C_below hr0 hb2) hl (by simp) (by simp)
  have HB := Aside0.mk hb2
  clear hr0 hb1 hb2 h
  go_enter Try.func71, Try.ntmps71
  go_wp2_with (go_at_call 83; refine hC.mono ?_; rintro e w' ⟨rfl, ⟨n, rfl⟩⟩)
  go_ret
  exact ⟨by simp, pw_below_drewN HB.out n⟩

end Go.Proofs.Ytfdjbcbhlfjogaa.P

-- PFimplisHurwitz
namespace Go.Proofs.Ytfdjbcbhlfjogaa.P
open Go.RowKit Go.Proofs.YtfdjbcbhlfjogaaW.PrintWords Go.Proofs.YtfdjbcbhlfjogaaW.PrintLast
set_option linter.unusedVariables false
set_option linter.unusedSimpArgs false

/-! ### impl_isHurwitz: function 53 -/
mutual
def impl_isHurwitz.j0 : Nat → List Int → Int → Int → Bool → Option (Bool)
 | 0, _, _, _, _ => none
 | k + 1, x0, x1, x2, x19 => if x19 = true then (some false) else (impl_isHurwitz.l0 k x0 x2 0 x1 x0 (x0.length : Int) 0)
def impl_isHurwitz.l0 : Nat → List Int → Int → Int → Int → List Int → Int → Int → Option (Bool)
 | 0, _, _, _, _, _, _, _ => none
 | k + 1, x0, x2, x7, x8, x21, x22, x23 => if x23 < x22 then (if 0 ≤ x23 then (if x23 < (x21.length : Int) then (if x23 > 0 then (if 0 ≤ (wrap64 (x23 - 1)) then (if (wrap64 (x23 - 1)) < (x0.length : Int) then (if (rd x0 (wrap64 (x23 - 1))) < (rd x21 x23) then (some false) else (impl_isHurwitz.l0 k x0 x2 (wrap64 (x7 + (wrap64 ((rd x21 x23) * (rd x21 x23))))) (mn (wrap64 (x8 * (rd x21 x23))) 100000000000) x21 x22 (wrap64 (x23 + 1)))) else (none)) else (none)) else (impl_isHurwitz.l0 k x0 x2 (wrap64 (x7 + (wrap64 ((rd x21 x23) * (rd x21 x23))))) (mn (wrap64 (x8 * (rd x21 x23))) 100000000000) x21 x22 (wrap64 (x23 + 1)))) else (none)) else (none)) else (some (x7 == (wrap64 (x8 + x2))))
end
def impl_isHurwitz.f (k : Nat) (l0 : List Int) (a1 : Int) (a2 : Int) : Option (Bool) := (impl_within.f (l0.length : Int) 3 4).bind fun t123 => (if t123 = true then ((impl_allWithin.f l0 1 100000).bind fun t124 => (impl_isHurwitz.j0 k l0 a1 a2 (!t124))) else (impl_isHurwitz.j0 k l0 a1 a2 true))
theorem impl_isHurwitz.mono_l : ∀ k, (∀ y0 y1 y2 y3, LeO (impl_isHurwitz.j0 k y0 y1 y2 y3) (impl_isHurwitz.j0 (k + 1) y0 y1 y2 y3)) ∧ (∀ y0 y1 y2 y3 y4 y5 y6, LeO (impl_isHurwitz.l0 k y0 y1 y2 y3 y4 y5 y6) (impl_isHurwitz.l0 (k + 1) y0 y1 y2 y3 y4 y5 y6))
 | 0 => ⟨fun _ _ _ _ r h => by simp [impl_isHurwitz.j0] at h, fun _ _ _ _ _ _ _ r h => by simp [impl_isHurwitz.l0] at h⟩
 | k + 1 => by
  obtain ⟨ih0, ih1⟩ := impl_isHurwitz.mono_l k
  refine ⟨?_, ?_⟩
  ·intro y0 y1 y2 y3
   unfold impl_isHurwitz.j0
   repeat' first
   | (with_reducible exact ih0 _ _ _ _)
   | (with_reducible exact ih1 _ _ _ _ _ _ _)
   | (with_reducible exact LeO.refl _)
   | (with_reducible exact LeO.none _)
   | (with_reducible refine LeO.ite ?_ ?_)
   | (with_reducible refine LeO.bind ?_ (fun _ => ?_))
   | exact ih0 _ _ _ _
   | exact ih1 _ _ _ _ _ _ _
   | exact LeO.none _
   | refine LeO.ite ?_ ?_
   | refine LeO.bind ?_ (fun _ => ?_)
  ·intro y0 y1 y2 y3 y4 y5 y6
   unfold impl_isHurwitz.l0
   repeat' first
   | (with_reducible exact ih0 _ _ _ _)
   | (with_reducible exact ih1 _ _ _ _ _ _ _)
   | (with_reducible exact LeO.refl _)
   | (with_reducible exact LeO.none _)
   | (with_reducible refine LeO.ite ?_ ?_)
   | (with_reducible refine LeO.bind ?_ (fun _ => ?_))
   | exact ih0 _ _ _ _
   | exact ih1 _ _ _ _ _ _ _
   | exact LeO.none _
   | refine LeO.ite ?_ ?_
   | refine LeO.bind ?_ (fun _ => ?_)
theorem impl_isHurwitz.mono : ∀ a0 a1 a2 k, LeO (impl_isHurwitz.f k a0 a1 a2) (impl_isHurwitz.f (k + 1) a0 a1 a2) := by
 intro a0 a1 a2 k
 obtain ⟨ih0, ih1⟩ := impl_isHurwitz.mono_l k
 unfold impl_isHurwitz.f
 repeat' first
   | (with_reducible exact ih0 _ _ _ _)
   | (with_reducible exact ih1 _ _ _ _ _ _ _)
   | (with_reducible exact LeO.refl _)
   | (with_reducible exact LeO.none _)
   | (with_reducible refine LeO.ite ?_ ?_)
   | (with_reducible refine LeO.bind ?_ (fun _ => ?_))
   | exact ih0 _ _ _ _
   | exact ih1 _ _ _ _ _ _ _
   | exact LeO.none _
   | refine LeO.ite ?_ ?_
   | refine LeO.bind ?_ (fun _ => ?_)
set_option maxHeartbeats 8000000 in
set_option maxRecDepth 100000 in
theorem impl_isHurwitz.calls (k : Nat) (A0 : Option Addr) (c0 : Nat) (l0 : List Int) (a1 : Int) (a2 : Int) (r : Bool) (w : World) (hr0 : Kd.C (Kd.int .i64) w A0 l0.length l0) (hc0 : l0.length ≤ c0) (h : impl_isHurwitz.f k l0 a1 a2 = some r) :
  Calls Try.prog 53 #[.slice A0 l0.length c0, .int .i64 a1, .int .i64 a2] w fun e w' => e = .returned (.bool r) ∧ Below w.heap.size w w' := by
 have HR0 := Aside0.mk hr0
 have HC0 := Aside0.mk hc0
 clear hr0 hc0
 have HB := Aside0.mk (Below.refl w.heap.size w)
 have H : ((impl_within.f (l0.length : Int) 3 4).bind fun t123 => (if t123 = true then ((impl_allWithin.f l0 1 100000).bind fun t124 => (impl_isHurwitz.j0 k l0 a1 a2 (!t124))) else (impl_isHurwitz.j0 k l0 a1 a2 true))) = some r := h
 clear h
 have HC4 := Aside0.mk H
 clear H
 go_enter Try.func53, Try.ntmps53
 go_upto_region 1 with (fail)
 go_cut [19] (fun v19 wc => ∃ (kq : Nat) (x19_3 : Bool), v19 = .bool x19_3 ∧ Aside0 (impl_isHurwitz.j0 kq l0 a1 a2 x19_3 = some r) ∧ Aside0 (kq ≤ k) ∧ Aside0 (Below w.heap.size w wc))
 case first =>
  have H := HC4.out
  clear HC4
  replace H := Option.bind_eq_some_iff.mp H
  obtain ⟨t123, A50, H⟩ := H
  replace H : (if t123 = true then ((impl_allWithin.f l0 1 100000).bind fun t124 => (impl_isHurwitz.j0 k l0 a1 a2 (!t124))) else (impl_isHurwitz.j0 k l0 a1 a2 true)) = some r := H
  have A5 := Aside0.mk A50
  clear A50
  by_cases c6 : t123 = true
  ·subst c6
   have H1 : ((impl_allWithin.f l0 1 100000).bind fun t124 => (impl_isHurwitz.j0 k l0 a1 a2 (!t124))) = some r := by rw [if_pos rfl] at H; exact H
   clear H
   have H := H1
   clear H1
   replace H := Option.bind_eq_some_iff.mp H
   obtain ⟨t124, A70, H⟩ := H
   replace H : (impl_isHurwitz.j0 k l0 a1 a2 (!t124)) = some r := H
   have A7 := Aside0.mk A70
   clear A70
   have H' := Aside0.mk H
   clear H
   go_wp2_with (first | ((with_reducible refine gate_callee (f := 57) rfl ?_); refine goesL_ (some 13) rfl rfl Try.func57 (by kernel_rfl) rfl #[.int .i64 (l0.length : Int), .int .i64 3, .int .i64 4] rfl (by (try simp only [List.map_toArray, List.map_cons, List.map_nil]); first | done | rfl | (simp only [List.length_drop, List.length_take]; rfl)) ?_; (with_reducible refine (impl_within.calls (l0.length : Int) 3 4 true _ A5.out).mono ?_); rintro e w' ⟨rfl, ⟨nd, rfl⟩⟩; refine ⟨_, rfl, ?_⟩) | (go_at_call 71; (with_reducible refine (impl_allWithin.calls _ _ l0 1 100000 t124 _ ?side1 ?side2 A7.out).mono ?_); (case side1 => repeat (first | exact (Kd.C_below HR0.out (by repeat (first | (with_reducible first | exact HB.out | apply below_alloc | apply pw_below_drewN | apply below_drew1) | exact HB.out))) | (with_reducible refine Kd.C_alloc ?_ _) | (with_reducible refine Kd.C_drewN ?_ _) | (with_reducible refine Kd.C_drew ?_))); (case side2 => exact HC0.out); rintro e w8 ⟨rfl, hb⟩; have n0_ := Aside0.mk (below_step (by repeat (first | (with_reducible first | exact HB.out | apply below_alloc | apply pw_below_drewN | apply below_drew1) | exact HB.out)) hb); clear HB; have HB := n0_; clear n0_; (try clear hb); (try clear hb2); (try clear hk); (try clear hi)))
   go_meet
   case rel => exact ⟨_, (!t124), (by first | rfl | (simp; done) | (simp [*]; done)), H', ⟨by first | omega | exact Nat.le_refl _⟩, ⟨by repeat (first | (with_reducible first | exact HB.out | apply below_alloc | apply pw_below_drewN | apply below_drew1) | exact HB.out)⟩⟩
  ·replace c6 := Bool.eq_false_iff.mpr c6
   subst c6
   have H1 : (impl_isHurwitz.j0 k l0 a1 a2 true) = some r := by rw [if_neg (show ¬ (false = true) by decide)] at H; exact H
   clear H
   have H := H1
   clear H1
   have H' := Aside0.mk H
   clear H
   go_wp2_with (first | ((with_reducible refine gate_callee (f := 57) rfl ?_); refine goesL_ (some 13) rfl rfl Try.func57 (by kernel_rfl) rfl #[.int .i64 (l0.length : Int), .int .i64 3, .int .i64 4] rfl (by (try simp only [List.map_toArray, List.map_cons, List.map_nil]); first | done | rfl | (simp only [List.length_drop, List.length_take]; rfl)) ?_; (with_reducible refine (impl_within.calls (l0.length : Int) 3 4 false _ A5.out).mono ?_); rintro e w' ⟨rfl, ⟨nd, rfl⟩⟩; refine ⟨_, rfl, ?_⟩))
   go_meet
   case rel => exact ⟨_, (true), (by first | rfl | (simp; done) | (simp [*]; done)), H', ⟨by first | omega | exact Nat.le_refl _⟩, ⟨by repeat (first | (with_reducible first | exact HB.out | apply below_alloc | apply pw_below_drewN | apply below_drew1) | exact HB.out)⟩⟩
 case rest =>
  clear HC4
  try clear p2
  try clear c5
  try clear c6
  obtain ⟨kq, x19_3, rfl, HA, HJ3, HB⟩ := hcut
  cases kq with
  | zero => exact absurd HA.out (by simp [impl_isHurwitz.j0])
  | succ kj3 =>
   have H := HA.out
   clear HA
   simp only [impl_isHurwitz.j0] at H
   by_cases c9 : x19_3 = true
   ·subst c9
    have H1 : (some false) = some r := by rw [if_pos rfl] at H; exact H
    clear H
    have H := H1
    clear H1
    obtain rfl := Option.some.inj H
    go_wp2
    go_ret
    exact ⟨by first | rfl | (simp [errW_none, errW_some] <;> rfl) | (simp [*, errW_none, errW_some] <;> rfl), by repeat (first | (with_reducible first | exact HB.out | apply below_alloc | apply pw_below_drewN | apply below_drew1) | exact HB.out)⟩
   ·replace c9 := Bool.eq_false_iff.mpr c9
    subst c9
    have H1 : (impl_isHurwitz.l0 kj3 l0 a2 0 a1 l0 (l0.length : Int) 0) = some r := by rw [if_neg (show ¬ (false = true) by decide)] at H; exact H
    clear H
    have H := H1
    clear H1
    have H' := Aside0.mk H
    clear H
    go_wp2
    go_loopg [7, 8, 23] kj3 (fun kq v7 v8 v23 w' => ∃ (x7_2 : Int) (x8_2 : Int) (x23_2 : Int), v7 = .int .i64 x7_2 ∧ v8 = .int .i64 x8_2 ∧ v23 = .int .i64 x23_2 ∧ Aside0 (impl_isHurwitz.l0 kq l0 a2 x7_2 x8_2 l0 (l0.length : Int) x23_2 = some r) ∧ Aside0 (kq ≤ kj3) ∧ Aside0 (Below w.heap.size w w'))
    case atStart => exact ⟨(0), (a1), (0), (by first | rfl | (simp; done) | (simp [*]; done)), (by first | rfl | (simp; done) | (simp [*]; done)), (by first | rfl | (simp; done) | (simp [*]; done)), H', ⟨Nat.le_refl _⟩, ⟨by repeat (first | (with_reducible first | exact HB.out | apply below_alloc | apply pw_below_drewN | apply below_drew1) | exact HB.out)⟩⟩
    case round =>
     clear H'
     try clear p2
     try clear c5
     try clear c6
     try clear c9
     try clear p2
     obtain ⟨x7_2, x8_2, x23_2, rfl, rfl, rfl, HA, HK2, HB⟩ := hrel
     cases gk with
     | zero => exact absurd HA.out (by simp [impl_isHurwitz.l0])
     | succ k2 =>
      have H := HA.out
      clear HA
      simp only [impl_isHurwitz.l0] at H
      by_cases c10 : x23_2 < (l0.length : Int)
      ·rw [if_pos c10] at H
       have c10b0 : decide (x23_2 < (l0.length : Int)) = true := decide_eq_true c10
       clear c10
       by_cases c11 : 0 ≤ x23_2
       ·rw [if_pos c11] at H
        have c11b0 : decide (0 ≤ x23_2) = true := decide_eq_true c11
        clear c11
        by_cases c12 : x23_2 < (l0.length : Int)
        ·rw [if_pos c12] at H
         have c12b0 : decide (x23_2 < (l0.length : Int)) = true := decide_eq_true c12
         clear c12
         by_cases c13 : x23_2 > 0
         ·rw [if_pos c13] at H
          have c13b0 : decide (0 < x23_2) = true := decide_eq_true c13
          clear c13
          obtain ⟨ji14, hji14⟩ : ∃ j_ : Int, (wrap64 (x23_2 - 1)) = j_ := ⟨_, rfl⟩
          replace H : (if 0 ≤ (ji14) then (if (ji14) < (l0.length : Int) then (if (rd l0 (ji14)) < (rd l0 x23_2) then (some false) else (impl_isHurwitz.l0 k2 l0 a2 (wrap64 (x7_2 + (wrap64 ((rd l0 x23_2) * (rd l0 x23_2))))) (mn (wrap64 (x8_2 * (rd l0 x23_2))) 100000000000) l0 (l0.length : Int) (wrap64 (x23_2 + 1)))) else (none)) else (none)) = some r := by first | (rw [hji14] at H; exact H) | (simp only [hji14] at H ⊢; exact H)
          have hji14w : (IntKind.i64.wrap (x23_2 - 1)) = ji14 := (i64_w _).trans hji14
          by_cases c15 : 0 ≤ (ji14)
          ·rw [if_pos c15] at H
           have c15b0 : decide (0 ≤ (ji14)) = true := decide_eq_true c15
           clear c15
           by_cases c16 : (ji14) < (l0.length : Int)
           ·rw [if_pos c16] at H
            have c16b0 : decide ((ji14) < (l0.length : Int)) = true := decide_eq_true c16
            clear c16
            by_cases c17 : (rd l0 (ji14)) < (rd l0 x23_2)
            ·rw [if_pos c17] at H
             have c17b0 : decide ((rd l0 (ji14)) < (rd l0 x23_2)) = true := decide_eq_true c17
             clear c17
             obtain rfl := Option.some.inj H
             have p125 : 0 ≤ (x23_2 : Int) := of_decide_eq_true (by first | (with_reducible assumption) | assumption)
             have q125 : x23_2 < (l0.length : Int) := of_decide_eq_true (by first | (with_reducible assumption) | assumption)
             obtain ⟨ad125, e125, hx125_0⟩ := Kd.at_int HR0.out x23_2 p125 q125
             cases e125
             replace hx125_0 := (HB.out.cell (World.block_lt_of_cell? w _ hx125_0)).trans hx125_0
             replace p125 := eq_true p125
             replace q125 := eq_true q125
             have p126 : 0 ≤ ((ji14) : Int) := of_decide_eq_true (by first | (with_reducible assumption) | assumption)
             have q126 : (ji14) < (l0.length : Int) := of_decide_eq_true (by first | (with_reducible assumption) | assumption)
             obtain ⟨ad126, e126, hx126_0⟩ := Kd.at_int HR0.out (ji14) p126 q126
             obtain rfl : ad125 = ad126 := (by injection e126)
             replace hx126_0 := (HB.out.cell (World.block_lt_of_cell? w _ hx126_0)).trans hx126_0
             replace p126 := eq_true p126
             replace q126 := eq_true q126
             go_wp2
             go_ret
             exact ⟨by first | rfl | (simp [errW_none, errW_some] <;> rfl) | (simp only [← hji14]; first | rfl | (simp [errW_none, errW_some] <;> rfl)) | (simp [*, errW_none, errW_some] <;> rfl), by repeat (first | (with_reducible first | exact HB.out | apply below_alloc | apply pw_below_drewN | apply below_drew1) | exact HB.out)⟩
            ·rw [if_neg c17] at H
             have c17b0 : decide ((rd l0 (ji14)) < (rd l0 x23_2)) = false := decide_eq_false c17
             clear c17
             obtain ⟨ji18, hji18⟩ : ∃ j_ : Int, (mn (wrap64 (x8_2 * (rd l0 x23_2))) 100000000000) = j_ := ⟨_, rfl⟩
             replace H : (impl_isHurwitz.l0 k2 l0 a2 (wrap64 (x7_2 + (wrap64 ((rd l0 x23_2) * (rd l0 x23_2))))) ji18 l0 (l0.length : Int) (wrap64 (x23_2 + 1))) = some r := by first | (rw [hji18] at H; exact H) | (simp only [hji18] at H ⊢; exact H)
             have hji18_ : (if 100000000000 < (wrap64 (x8_2 * (rd l0 x23_2))) then 100000000000 else (wrap64 (x8_2 * (rd l0 x23_2)))) = ji18 := hji18
             have H' := Aside0.mk H
             clear H
             have p125 : 0 ≤ (x23_2 : Int) := of_decide_eq_true (by first | (with_reducible assumption) | assumption)
             have q125 : x23_2 < (l0.length : Int) := of_decide_eq_true (by first | (with_reducible assumption) | assumption)
             obtain ⟨ad125, e125, hx125_0⟩ := Kd.at_int HR0.out x23_2 p125 q125
             cases e125
             replace hx125_0 := (HB.out.cell (World.block_lt_of_cell? w _ hx125_0)).trans hx125_0
             replace p125 := eq_true p125
             replace q125 := eq_true q125
             have p126 : 0 ≤ ((ji14) : Int) := of_decide_eq_true (by first | (with_reducible assumption) | assumption)
             have q126 : (ji14) < (l0.length : Int) := of_decide_eq_true (by first | (with_reducible assumption) | assumption)
             obtain ⟨ad126, e126, hx126_0⟩ := Kd.at_int HR0.out (ji14) p126 q126
             obtain rfl : ad125 = ad126 := (by injection e126)
             replace hx126_0 := (HB.out.cell (World.block_lt_of_cell? w _ hx126_0)).trans hx126_0
             replace p126 := eq_true p126
             replace q126 := eq_true q126
             go_wp2
             go_roundg k2
             case measure => have := HJ3.out; have := HK2.out; omega
             case rel => exact ⟨(wrap64 (x7_2 + (wrap64 ((rd l0 x23_2) * (rd l0 x23_2))))), (ji18), (wrap64 (x23_2 + 1)), (by first | rfl | (simp; done) | (simp [*]; done)), (by first | rfl | (simp; done) | (simp only [← hji18] <;> (first | rfl | simp)) | (simp [*]; done)), (by first | rfl | (simp; done) | (simp [*]; done)), H', ⟨by have := HJ3.out; have := HK2.out; omega⟩, ⟨by repeat (first | (with_reducible first | exact HB.out | apply below_alloc | apply pw_below_drewN | apply below_drew1) | exact HB.out)⟩⟩
           ·rw [if_neg c16] at H
            exact absurd H (by simp)
          ·rw [if_neg c15] at H
           exact absurd H (by simp)
         ·rw [if_neg c13] at H
          have c13b0 : decide (0 < x23_2) = false := decide_eq_false c13
          clear c13
          obtain ⟨ji19, hji19⟩ : ∃ j_ : Int, (mn (wrap64 (x8_2 * (rd l0 x23_2))) 100000000000) = j_ := ⟨_, rfl⟩
          replace H : (impl_isHurwitz.l0 k2 l0 a2 (wrap64 (x7_2 + (wrap64 ((rd l0 x23_2) * (rd l0 x23_2))))) ji19 l0 (l0.length : Int) (wrap64 (x23_2 + 1))) = some r := by first | (rw [hji19] at H; exact H) | (simp only [hji19] at H ⊢; exact H)
          have hji19_ : (if 100000000000 < (wrap64 (x8_2 * (rd l0 x23_2))) then 100000000000 else (wrap64 (x8_2 * (rd l0 x23_2)))) = ji19 := hji19
          have H' := Aside0.mk H
          clear H
          have p125 : 0 ≤ (x23_2 : Int) := of_decide_eq_true (by first | (with_reducible assumption) | assumption)
          have q125 : x23_2 < (l0.length : Int) := of_decide_eq_true (by first | (with_reducible assumption) | assumption)
          obtain ⟨ad125, e125, hx125_0⟩ := Kd.at_int HR0.out x23_2 p125 q125
          cases e125
          replace hx125_0 := (HB.out.cell (World.block_lt_of_cell? w _ hx125_0)).trans hx125_0
          replace p125 := eq_true p125
          replace q125 := eq_true q125
          go_wp2
          go_roundg k2
          case measure => have := HJ3.out; have := HK2.out; omega
          case rel => exact ⟨(wrap64 (x7_2 + (wrap64 ((rd l0 x23_2) * (rd l0 x23_2))))), (ji19), (wrap64 (x23_2 + 1)), (by first | rfl | (simp; done) | (simp [*]; done)), (by first | rfl | (simp; done) | (simp only [← hji19] <;> (first | rfl | simp)) | (simp [*]; done)), (by first | rfl | (simp; done) | (simp [*]; done)), H', ⟨by have := HJ3.out; have := HK2.out; omega⟩, ⟨by repeat (first | (with_reducible first | exact HB.out | apply below_alloc | apply pw_below_drewN | apply below_drew1) | exact HB.out)⟩⟩
        ·rw [if_neg c12] at H
         exact absurd H (by simp)
       ·rw [if_neg c11] at H
        exact absurd H (by simp)
      ·rw [if_neg c10] at H
       have c10b0 : decide (x23_2 < (l0.length : Int)) = false := decide_eq_false c10
       clear c10
       obtain rfl := Option.some.inj H
       go_wp2
       go_ret
       exact ⟨by first | rfl | (simp [errW_none, errW_some] <;> rfl) | (simp [*, errW_none, errW_some] <;> rfl), by repeat (first | (with_reducible first | exact HB.out | apply below_alloc | apply pw_below_drewN | apply below_drew1) | exact HB.out)⟩

end Go.Proofs.Ytfdjbcbhlfjogaa.P

-- Uall
namespace Go.Proofs.Ytfdjbcbhlfjogaa.P
set_option linter.unusedVariables false
set_option linter.unusedSimpArgs false
open Go.RowKit Go.Proofs.YtfdjbcbhlfjogaaW.PrintWords Go.Proofs.YtfdjbcbhlfjogaaW.PrintLast

theorem l1In_inB (x lo hi : Int) : spec_l1In.f x lo hi = some (inB lo hi x) := by
  unfold spec_l1In.f inB
  by_cases h : lo ≤ x <;> simp [h]
theorem l1All_upto (l : List Int) (lo hi : Int) (hn : l.length ≤ 4611686018427387904) (d : Nat) : ∀ i : Nat, i + d = l.length → Ev (fun k => spec_l1All.l0 k lo hi l (l.length : Int) (i : Int)) ((l.drop i).all (inB lo hi)) := by
  induction d with
  | zero =>
    intro i hid
    refine Ev.step (f := fun _ => some true) (fun k => by simp only [spec_l1All.l0]; rw [if_neg (by omega)]) ?_
    rw [List.drop_eq_nil_of_le (by omega)]
    exact Ev.is rfl
  | succ d ih =>
    intro i hid
    refine Ev.step (f := fun k => if inB lo hi (rd l (i : Int)) = true then spec_l1All.l0 k lo hi l (l.length : Int) ((i + 1 : Nat) : Int) else some false) (fun k => ?_) ?_
    · simp only [spec_l1All.l0]
      rw [if_pos (by omega), if_pos (by omega), if_pos (by omega), l1In_inB, w64_succ (n := l.length) (by omega) hn]
      rfl
    · rw [rd_drop l i (by omega), List.all_cons]
      cases hB : inB lo hi (rd l (i : Int)) with
      | true =>
        simp only [if_true, Bool.true_and]
        exact ih (i + 1) (by omega)
      | false =>
        simp only [Bool.false_eq_true, if_false, Bool.false_and]
        exact Ev.is rfl
theorem l1All_ev (l : List Int) (lo hi : Int) (hn : l.length ≤ 4611686018427387904) : Ev (fun k => spec_l1All.f k l lo hi) (l.all (inB lo hi)) := by
  unfold spec_l1All.f
  exact l1All_upto l lo hi hn l.length 0 (by omega)
end Go.Proofs.Ytfdjbcbhlfjogaa.P

-- Uhurwitz
namespace Go.Proofs.Ytfdjbcbhlfjogaa.P
set_option linter.unusedVariables false
set_option linter.unusedSimpArgs false
open Go.RowKit Go.Proofs.YtfdjbcbhlfjogaaW.PrintWords Go.Proofs.YtfdjbcbhlfjogaaW.PrintLast Go.Proofs.YtfdjbcbhlfjogaaW.PrintMore

def sqs : List Int → Int
  | [] => 0
  | x :: l => x * x + sqs l
def prd : List Int → Int
  | [] => 1
  | x :: l => x * prd l
def fallsFrom (p : Int) : List Int → Bool
  | [] => true
  | x :: l => decide (x ≤ p) && fallsFrom x l
def falls : List Int → Bool
  | [] => true
  | x :: l => fallsFrom x l
/-- Three or four numbers, none rising, that solve Hurwitz's equation. -/
def huIs (l : List Int) (a b : Int) : Bool := decide (3 ≤ l.length ∧ l.length ≤ 4) && (l.all (inB 1 100000) && (falls l && decide (sqs l = a * prd l + b)))
def huGv (a b : Int) : Bool := inB 1 20 a && inB (-50) 50 b
theorem inB_iff {lo hi x : Int} : inB lo hi x = true ↔ lo ≤ x ∧ x ≤ hi := by simp [inB]
theorem all_iff {l : List Int} {lo hi : Int} : l.all (inB lo hi) = true ↔ ∀ x ∈ l, lo ≤ x ∧ x ≤ hi := by simp [List.all_eq_true, inB]

theorem beq_dec (a b : Int) : (a == b) = decide (a = b) := by by_cases h : a = b <;> simp [h]
theorem within_inB (x lo hi : Int) : impl_within.f x lo hi = some (inB lo hi x) := by
  unfold impl_within.f inB
  by_cases h : lo ≤ x <;> simp [h]
theorem huGiven_is (a b : Int) : spec_huGiven.f a b = some (huGv a b) := by
  unfold spec_huGiven.f huGv
  rw [l1In_inB, l1In_inB]
  cases inB 1 20 a <;> rfl
theorem areGiven_is (a b : Int) : impl_areGiven.f a b = some (huGv a b) := by
  unfold impl_areGiven.f huGv
  rw [within_inB, within_inB]
  cases inB 1 20 a <;> rfl

theorem prd_pos {l : List Int} (h : ∀ x ∈ l, 1 ≤ x) : 1 ≤ prd l := by
  induction l with
  | nil => simp [prd]
  | cons x l ih =>
    have h1 := h x (List.mem_cons_self)
    have h2 := ih (fun y hy => h y (List.mem_cons_of_mem _ hy))
    have h3 := Int.mul_le_mul h1 h2 (by omega) (by omega)
    simp only [prd]
    omega
theorem sqs_bd {l : List Int} (h : ∀ x ∈ l, 1 ≤ x ∧ x ≤ 100000) : 0 ≤ sqs l ∧ sqs l ≤ 10000000000 * (l.length : Int) := by
  induction l with
  | nil => simp [sqs]
  | cons x l ih =>
    have h1 := h x (List.mem_cons_self)
    have h2 := ih (fun y hy => h y (List.mem_cons_of_mem _ hy))
    have h3 : x * x ≤ 100000 * 100000 := Int.mul_le_mul h1.2 h1.2 (by omega) (by omega)
    have h4 : 0 ≤ x * x := Int.mul_nonneg (by omega) (by omega)
    simp only [sqs, List.length_cons]
    omega
theorem drop_all {l : List Int} {P : Int → Prop} (h : ∀ x ∈ l, P x) (i : Nat) : ∀ x ∈ l.drop i, P x := fun x hx => h x (List.mem_of_mem_drop hx)
theorem rd_mem {l : List Int} {i : Nat} (h : i < l.length) : rd l (i : Int) ∈ l := by rw [rd_lt l i h]; exact List.getElem_mem h

theorem sq_bd {x : Int} (hx : 1 ≤ x ∧ x ≤ 100000) : 1 ≤ x * x ∧ x * x ≤ 10000000000 := by
  have h3 : x * x ≤ 100000 * 100000 := Int.mul_le_mul hx.2 hx.2 (by omega) (by omega)
  have h4 : 1 * 1 ≤ x * x := Int.mul_le_mul hx.1 hx.1 (by omega) (by omega)
  omega
theorem huSquares_upto (l : List Int) (hl : ∀ x ∈ l, 1 ≤ x ∧ x ≤ 100000) (hn : l.length ≤ 1000000) (d : Nat) : ∀ (i : Nat) (s : Int), i + d = l.length → 0 ≤ s → s + 10000000000 * (d : Int) ≤ 9000000000000000000 → Ev (fun k => spec_huSquares.l0 k s l (l.length : Int) (i : Int)) (s + sqs (l.drop i)) := by
  induction d with
  | zero =>
    intro i s hid h0 h1
    refine Ev.step (f := fun _ => some s) (fun k => by simp only [spec_huSquares.l0]; rw [if_neg (by omega)]) ?_
    rw [List.drop_eq_nil_of_le (by omega), sqs, Int.add_zero]
    exact Ev.is rfl
  | succ d ih =>
    intro i s hid h0 h1
    have hx := sq_bd (hl _ (rd_mem (l := l) (i := i) (by omega)))
    have w1 : wrap64 (rd l (i : Int) * rd l (i : Int)) = rd l (i : Int) * rd l (i : Int) := w64 (by omega) (by omega)
    have w2 : wrap64 (s + rd l (i : Int) * rd l (i : Int)) = s + rd l (i : Int) * rd l (i : Int) := w64 (by omega) (by omega)
    refine Ev.step (f := fun k => spec_huSquares.l0 k (s + rd l (i : Int) * rd l (i : Int)) l (l.length : Int) ((i + 1 : Nat) : Int)) (fun k => ?_) ?_
    · simp only [spec_huSquares.l0]
      rw [if_pos (by omega), if_pos (by omega), if_pos (by omega), w1, w2, w64_succ (n := l.length) (by omega) (by omega)]
    · rw [rd_drop l i (by omega), sqs, ← Int.add_assoc]
      exact ih (i + 1) _ (by omega) (by omega) (by omega)
theorem huSquares_ev (l : List Int) (hl : ∀ x ∈ l, 1 ≤ x ∧ x ≤ 100000) (hn : l.length ≤ 1000000) : Ev (fun k => spec_huSquares.f k l) (sqs l) := by
  unfold spec_huSquares.f
  have h := huSquares_upto l hl hn l.length 0 0 (by omega) (by omega) (by omega)
  rw [List.drop_zero, Int.zero_add] at h
  exact h

theorem cap_mul {y q C : Int} (h0 : 0 ≤ y) (hq : 1 ≤ q) (hC : 0 ≤ C) : min (min y C * q) C = min (y * q) C := by
  by_cases h : y ≤ C
  · rw [Int.min_eq_left h]
  · have h1 : min y C = C := Int.min_eq_right (by omega)
    rw [h1]
    have h2 : C ≤ C * q := by have := Int.mul_le_mul (Int.le_refl C) hq (by omega) hC; omega
    have h3 : y ≤ y * q := by have := Int.mul_le_mul (Int.le_refl y) hq (by omega) h0; omega
    rw [Int.min_eq_right h2, Int.min_eq_right (by omega)]
theorem least_is (a b : Int) : spec_l1Least.f a b = some (min a b) := by
  unfold spec_l1Least.f
  by_cases h : a < b
  · rw [if_pos h, Int.min_eq_left (by omega)]
  · rw [if_neg h, Int.min_eq_right (by omega)]
theorem mul_bd2 {p x P X : Int} (h1 : 0 ≤ p) (h2 : p ≤ P) (h3 : 1 ≤ x) (h4 : x ≤ X) : 0 ≤ p * x ∧ p * x ≤ P * X ∧ p ≤ p * x := by
  have h5 := Int.mul_le_mul (Int.le_refl p) h3 (by omega) h1
  exact ⟨Int.mul_nonneg h1 (by omega), Int.mul_le_mul h2 h4 (by omega) (by omega), by omega⟩
theorem huProduct_upto (l : List Int) (hl : ∀ x ∈ l, 1 ≤ x ∧ x ≤ 100000) (hn : l.length ≤ 1000000) (d : Nat) : ∀ (i : Nat) (p : Int), i + d = l.length → 0 ≤ p → p ≤ 1000000000000 → Ev (fun k => spec_huProduct.l0 k p l (l.length : Int) (i : Int)) (min (p * prd (l.drop i)) 1000000000000) := by
  induction d with
  | zero =>
    intro i p hid h0 h1
    refine Ev.step (f := fun _ => some p) (fun k => by simp only [spec_huProduct.l0]; rw [if_neg (by omega)]) ?_
    rw [List.drop_eq_nil_of_le (by omega), prd, Int.mul_one, Int.min_eq_left h1]
    exact Ev.is rfl
  | succ d ih =>
    intro i p hid h0 h1
    have hx := hl _ (rd_mem (l := l) (i := i) (by omega))
    have hb := mul_bd2 h0 h1 hx.1 hx.2
    have w1 : wrap64 (p * rd l (i : Int)) = p * rd l (i : Int) := w64 (by omega) (by omega)
    refine Ev.step (f := fun k => spec_huProduct.l0 k (min (p * rd l (i : Int)) 1000000000000) l (l.length : Int) ((i + 1 : Nat) : Int)) (fun k => ?_) ?_
    · simp only [spec_huProduct.l0]
      rw [if_pos (by omega), if_pos (by omega), if_pos (by omega), w1, least_is, w64_succ (n := l.length) (by omega) (by omega)]
      rfl
    · have hq := prd_pos (fun x hx => (drop_all hl (i + 1) x hx).1)
      rw [rd_drop l i (by omega), prd, ← Int.mul_assoc, ← cap_mul (by omega) hq (by omega)]
      exact ih (i + 1) _ (by omega) (by omega) (by omega)
theorem huProduct_ev (l : List Int) (a : Int) (ha : 0 ≤ a ∧ a ≤ 1000000000000) (hl : ∀ x ∈ l, 1 ≤ x ∧ x ≤ 100000) (hn : l.length ≤ 1000000) : Ev (fun k => spec_huProduct.f k l a) (min (a * prd l) 1000000000000) := by
  unfold spec_huProduct.f
  have h := huProduct_upto l hl hn l.length 0 a (by omega) ha.1 ha.2
  rw [List.drop_zero] at h
  exact h

theorem huGood_falls (l : List Int) (a b : Int) (r : Bool) (hn : l.length ≤ 1000000) (hend : Ev (fun k => (spec_huSquares.f k l).bind fun t112 => ((spec_huProduct.f k l a).bind fun t113 => (some (t112 == (wrap64 (t113 + b)))))) r) (d : Nat) : ∀ (i : Nat), 1 ≤ i → i + d = l.length → Ev (fun k => spec_huGood.l0 k l a b (i : Int)) (fallsFrom (rd l ((i - 1 : Nat) : Int)) (l.drop i) && r) := by
  induction d with
  | zero =>
    intro i h1 hid
    refine Ev.step (fun k => by simp only [spec_huGood.l0]; rw [if_neg (by omega)]) ?_
    rw [List.drop_eq_nil_of_le (by omega), fallsFrom, Bool.true_and]
    exact hend
  | succ d ih =>
    intro i h1 hid
    have w1 : wrap64 ((i : Int) - 1) = ((i - 1 : Nat) : Int) := by rw [w64 (by omega) (by omega)]; omega
    refine Ev.step (f := fun k => if rd l (i : Int) > rd l ((i - 1 : Nat) : Int) then some false else spec_huGood.l0 k l a b ((i + 1 : Nat) : Int)) (fun k => ?_) ?_
    · simp only [spec_huGood.l0]
      rw [w1, if_pos (by omega), if_pos (by omega), if_pos (by omega), if_pos (by omega), w64_succ (n := l.length) (by omega) (by omega)]
    · rw [rd_drop l i (by omega), fallsFrom]
      by_cases h : rd l (i : Int) > rd l ((i - 1 : Nat) : Int)
      · simp only [h, if_true]
        rw [decide_eq_false (by omega), Bool.false_and, Bool.false_and]
        exact Ev.is rfl
      · simp only [h, if_false]
        rw [decide_eq_true (by omega), Bool.true_and]
        have h2 := ih (i + 1) (by omega) (by omega)
        rw [Nat.add_sub_cancel] at h2
        exact h2
theorem falls_ge (l : List Int) (h : 1 ≤ l.length) : falls l = fallsFrom (rd l ((1 - 1 : Nat) : Int)) (l.drop 1) := by
  cases l with
  | nil => simp at h
  | cons x l => rfl
theorem huGood_ev (l : List Int) (a b : Int) (h : huGv a b = true) (hn : l.length ≤ 4611686018427387904) : Ev (fun k => spec_huGood.f k l a b) (huIs l a b) := by
  unfold spec_huGood.f huIs
  simp only [huGv, inB_iff, Bool.and_eq_true] at h
  rw [l1In_inB]
  refine Ev.bind0 rfl ?_
  by_cases h3 : 3 ≤ l.length ∧ l.length ≤ 4
  · have h4 : inB 3 4 (l.length : Int) = true := by rw [inB_iff]; omega
    rw [h4, decide_eq_true h3, Bool.true_and]
    simp only [if_true]
    refine Ev.bind (l1All_ev l 1 100000 hn) ?_
    cases hA : l.all (inB 1 100000) with
    | false =>
      simp only [Bool.false_and, Bool.not_false]
      exact Ev.step (f := fun _ => some false) (fun k => by simp only [spec_huGood.j0, if_true]) (Ev.is rfl)
    | true =>
      have hl := all_iff.1 hA
      simp only [Bool.true_and, Bool.not_true]
      refine Ev.step (f := fun k => spec_huGood.l0 k l a b ((1 : Nat) : Int)) (fun k => by simp only [spec_huGood.j0, Bool.false_eq_true, if_false]; rfl) ?_
      rw [falls_ge l (by omega)]
      refine huGood_falls l a b _ (by omega) ?_ (l.length - 1) 1 (by omega) (by omega)
      refine Ev.bind (huSquares_ev l hl (by omega)) (Ev.bind (huProduct_ev l a (by omega) hl (by omega)) (Ev.is ?_))
      have hs := sqs_bd hl
      have hp := prd_pos (fun x hx => (hl x hx).1)
      have hap := mul_bd2 (p := a) (x := prd l) (P := 20) (X := prd l) (by omega) (by omega) hp (by omega)
      generalize a * prd l = q at hap
      have w1 : wrap64 (min q 1000000000000 + b) = min q 1000000000000 + b := w64 (by omega) (by omega)
      rw [w1]
      congr 1
      rw [beq_dec]
      exact decide_eq_decide.2 (by omega)
  · have h4 : inB 3 4 (l.length : Int) = false := by rw [Bool.eq_false_iff]; intro h5; rw [inB_iff] at h5; omega
    rw [h4, decide_eq_false h3, Bool.false_and]
    simp only [Bool.false_eq_true, if_false]
    exact Ev.step (f := fun _ => some false) (fun k => by simp only [spec_huGood.j0, if_true]) (Ev.is rfl)

theorem isHurwitz_upto (l : List Int) (hl : ∀ x ∈ l, 1 ≤ x ∧ x ≤ 100000) (hn : l.length ≤ 4) (b : Int) (hb : -50 ≤ b ∧ b ≤ 50) (d : Nat) : ∀ (i : Nat) (s p : Int), i + d = l.length → 0 ≤ s → s + 10000000000 * (d : Int) ≤ 9000000000000000000 → 0 ≤ p → p ≤ 100000000000 → Ev (fun k => impl_isHurwitz.l0 k l b s p l (l.length : Int) (i : Int)) ((if i = 0 then falls (l.drop i) else fallsFrom (rd l ((i - 1 : Nat) : Int)) (l.drop i)) && decide (s + sqs (l.drop i) = min (p * prd (l.drop i)) 100000000000 + b)) := by
  induction d with
  | zero =>
    intro i s p hid h0 h1 h2 h3
    refine Ev.step (f := fun _ => some (s == wrap64 (p + b))) (fun k => by simp only [impl_isHurwitz.l0]; rw [if_neg (by omega)]) ?_
    rw [List.drop_eq_nil_of_le (by omega), sqs, prd, Int.add_zero, Int.mul_one, Int.min_eq_left h3, w64 (by omega) (by omega)]
    refine Ev.is ?_
    rw [beq_dec]
    simp [falls, fallsFrom]
  | succ d ih =>
    intro i s p hid h0 h1 h2 h3
    have hx := hl _ (rd_mem (l := l) (i := i) (by omega))
    have hs := sq_bd hx
    have hp := mul_bd2 h2 h3 hx.1 hx.2
    have w1 : wrap64 (rd l (i : Int) * rd l (i : Int)) = rd l (i : Int) * rd l (i : Int) := w64 (by omega) (by omega)
    have w2 : wrap64 (s + rd l (i : Int) * rd l (i : Int)) = s + rd l (i : Int) * rd l (i : Int) := w64 (by omega) (by omega)
    have w3 : wrap64 (p * rd l (i : Int)) = p * rd l (i : Int) := w64 (by omega) (by omega)
    have hq := prd_pos (fun x hx => (drop_all hl (i + 1) x hx).1)
    have hmn : mn (p * rd l (i : Int)) 100000000000 = min (p * rd l (i : Int)) 100000000000 := by
      unfold mn
      split <;> omega
    have hnext := ih (i + 1) (s + rd l (i : Int) * rd l (i : Int)) (min (p * rd l (i : Int)) 100000000000) (by omega) (by omega) (by omega) (by omega) (by omega)
    rw [if_neg (by omega), Nat.add_sub_cancel, cap_mul (by omega) hq (by omega), Int.add_assoc, Int.mul_assoc] at hnext
    by_cases hi : i = 0
    · subst hi
      refine Ev.step (f := fun k => impl_isHurwitz.l0 k l b (s + rd l ((0 : Nat) : Int) * rd l ((0 : Nat) : Int)) (min (p * rd l ((0 : Nat) : Int)) 100000000000) l (l.length : Int) ((0 + 1 : Nat) : Int)) (fun k => ?_) ?_
      · simp only [impl_isHurwitz.l0]
        rw [if_pos (by omega), if_pos (by omega), if_pos (by omega), if_neg (by omega), w1, w2, w3, hmn, w64_succ (n := l.length) (by omega) (by omega)]
      · rw [if_pos rfl, rd_drop l 0 (by omega), falls, sqs, prd]
        exact hnext
    · have w4 : wrap64 ((i : Int) - 1) = ((i - 1 : Nat) : Int) := by rw [w64 (by omega) (by omega)]; omega
      refine Ev.step (f := fun k => if rd l ((i - 1 : Nat) : Int) < rd l (i : Int) then some false else impl_isHurwitz.l0 k l b (s + rd l (i : Int) * rd l (i : Int)) (min (p * rd l (i : Int)) 100000000000) l (l.length : Int) ((i + 1 : Nat) : Int)) (fun k => ?_) ?_
      · simp only [impl_isHurwitz.l0]
        rw [if_pos (by omega), if_pos (by omega), if_pos (by omega), if_pos (by omega), w4, if_pos (by omega), if_pos (by omega), w1, w2, w3, hmn, w64_succ (n := l.length) (by omega) (by omega)]
      · rw [if_neg hi, rd_drop l i (by omega), fallsFrom, sqs, prd]
        by_cases h : rd l ((i - 1 : Nat) : Int) < rd l (i : Int)
        · simp only [h, if_true]
          rw [decide_eq_false (by omega), Bool.false_and, Bool.false_and]
          exact Ev.is rfl
        · simp only [h, if_false]
          rw [decide_eq_true (by omega), Bool.true_and]
          exact hnext
theorem isHurwitz_ev (l : List Int) (a b : Int) (h : huGv a b = true) : Ev (fun k => impl_isHurwitz.f k l a b) (huIs l a b) := by
  unfold impl_isHurwitz.f huIs
  simp only [huGv, inB_iff, Bool.and_eq_true] at h
  rw [within_inB]
  refine Ev.bind0 rfl ?_
  by_cases h3 : 3 ≤ l.length ∧ l.length ≤ 4
  · have h4 : inB 3 4 (l.length : Int) = true := by rw [inB_iff]; omega
    rw [h4, decide_eq_true h3, Bool.true_and]
    simp only [if_true]
    refine Ev.bind0 rfl ?_
    cases hA : l.all (inB 1 100000) with
    | false =>
      simp only [Bool.false_and, Bool.not_false]
      exact Ev.step (f := fun _ => some false) (fun k => by simp only [impl_isHurwitz.j0, if_true]) (Ev.is rfl)
    | true =>
      have hl := all_iff.1 hA
      simp only [Bool.true_and, Bool.not_true]
      refine Ev.step (f := fun k => impl_isHurwitz.l0 k l b 0 a l (l.length : Int) ((0 : Nat) : Int)) (fun k => by simp only [impl_isHurwitz.j0, Bool.false_eq_true, if_false]; rfl) ?_
      have hE := isHurwitz_upto l hl (by omega) b h.2 l.length 0 0 a (by omega) (by omega) (by omega) (by omega) (by omega)
      rw [if_pos rfl, List.drop_zero, Int.zero_add] at hE
      have hs := sqs_bd hl
      have hp := prd_pos (fun x hx => (hl x hx).1)
      have hap := mul_bd2 (p := a) (x := prd l) (P := 20) (X := prd l) (by omega) (by omega) hp (by omega)
      have he : decide (sqs l = a * prd l + b) = decide (sqs l = min (a * prd l) 100000000000 + b) := by
        generalize a * prd l = q at hap
        exact decide_eq_decide.2 (by omega)
      rw [he]
      exact hE
  · have h4 : inB 3 4 (l.length : Int) = false := by rw [Bool.eq_false_iff]; intro h5; rw [inB_iff] at h5; omega
    rw [h4, decide_eq_false h3, Bool.false_and]
    simp only [Bool.false_eq_true, if_false]
    exact Ev.step (f := fun _ => some false) (fun k => by simp only [impl_isHurwitz.j0, if_true]) (Ev.is rfl)

/-- What a solution's numbers are. -/
theorem huIs_iff {l : List Int} {a b : Int} : huIs l a b = true ↔ (3 ≤ l.length ∧ l.length ≤ 4) ∧ (∀ x ∈ l, 1 ≤ x ∧ x ≤ 100000) ∧ falls l = true ∧ sqs l = a * prd l + b := by
  simp only [huIs, Bool.and_eq_true, decide_eq_true_eq, all_iff]

/-- The other root. -/
def oth (l : List Int) (a : Int) (i : Nat) : Int := a * prd (l.eraseIdx i) - rd l (i : Int)
def prdBut (i : Nat) : Nat → List Int → Int
  | _, [] => 1
  | j, x :: l => (if j = i then 1 else x) * prdBut i (j + 1) l
theorem prdBut_past (i : Nat) (l : List Int) : ∀ j, i < j → prdBut i j l = prd l := by
  induction l with
  | nil => intro j h; rfl
  | cons x l ih =>
    intro j h
    rw [prdBut, prd, if_neg (by omega), ih (j + 1) (by omega)]
theorem prdBut_erase (l : List Int) : ∀ (j i : Nat), prdBut (j + i) j l = prd (l.eraseIdx i) := by
  induction l with
  | nil => intro j i; rfl
  | cons x l ih =>
    intro j i
    cases i with
    | zero => rw [prdBut, if_pos (by omega), Int.one_mul, List.eraseIdx_cons_zero, prdBut_past _ _ _ (by omega)]
    | succ i => rw [prdBut, if_neg (by omega), List.eraseIdx_cons_succ, prd, show j + (i + 1) = (j + 1) + i by omega, ih (j + 1) i]
theorem prdBut_pos (i : Nat) (l : List Int) (h : ∀ x ∈ l, 1 ≤ x) : ∀ j, 1 ≤ prdBut i j l := by
  induction l with
  | nil => intro j; simp [prdBut]
  | cons x l ih =>
    intro j
    have h1 := h x List.mem_cons_self
    have h2 := ih (fun y hy => h y (List.mem_cons_of_mem _ hy)) (j + 1)
    rw [prdBut]
    split
    · omega
    · have := Int.mul_le_mul h1 h2 (by omega) (by omega)
      omega
theorem otherRoot_upto (l : List Int) (hl : ∀ x ∈ l, 1 ≤ x ∧ x ≤ 100000) (hn : l.length ≤ 1000000) (t : Nat) (ht : t < l.length) (d : Nat) : ∀ (i : Nat) (p : Int), i + d = l.length → 1 ≤ p → p * prdBut t i (l.drop i) ≤ 1000000000000 → Ev (fun k => impl_otherRoot.l0 k l (t : Int) p l (l.length : Int) (i : Int)) (p * prdBut t i (l.drop i) - rd l (t : Int)) := by
  have hr := hl _ (rd_mem ht)
  induction d with
  | zero =>
    intro i p hid h0 h1
    rw [List.drop_eq_nil_of_le (by omega), prdBut, Int.mul_one] at h1 ⊢
    refine Ev.step (f := fun _ => some (p - rd l (t : Int))) (fun k => by simp only [impl_otherRoot.l0]; rw [if_neg (by omega), if_pos (by omega), if_pos (by omega), w64 (by omega) (by omega)]) (Ev.is rfl)
  | succ d ih =>
    intro i p hid h0 h1
    have hx := hl _ (rd_mem (l := l) (i := i) (by omega))
    rw [rd_drop l i (by omega), prdBut] at h1 ⊢
    have hq := prdBut_pos t (l.drop (i + 1)) (fun x hx => (drop_all hl (i + 1) x hx).1) (i + 1)
    by_cases h : i = t
    · subst h
      rw [if_pos rfl, Int.one_mul] at h1 ⊢
      refine Ev.step (f := fun k => impl_otherRoot.l0 k l (i : Int) p l (l.length : Int) ((i + 1 : Nat) : Int)) (fun k => ?_) (ih (i + 1) p (by omega) h0 h1)
      simp only [impl_otherRoot.l0]
      rw [if_pos (by omega), if_pos (by omega), if_pos (by omega), if_pos trivial, w64_succ (n := l.length) (by omega) (by omega)]
    · rw [if_neg h, ← Int.mul_assoc] at h1 ⊢
      have hb := mul_bd2 (p := p) (P := p) (by omega) (by omega) hx.1 hx.2
      have hb2 := mul_bd2 (p := p * rd l (i : Int)) (P := p * rd l (i : Int)) (by omega) (by omega) hq (Int.le_refl _)
      refine Ev.step (f := fun k => impl_otherRoot.l0 k l (t : Int) (p * rd l (i : Int)) l (l.length : Int) ((i + 1 : Nat) : Int)) (fun k => ?_) (ih (i + 1) _ (by omega) (by omega) h1)
      simp only [impl_otherRoot.l0]
      rw [if_pos (by omega), if_pos (by omega), if_pos (by omega), if_neg (by omega), w64 (x := p * rd l (i : Int)) (by omega) (by omega), w64_succ (n := l.length) (by omega) (by omega)]
theorem otherRoot_ev (l : List Int) (a : Int) (i : Nat) (hl : ∀ x ∈ l, 1 ≤ x ∧ x ≤ 100000) (hn : l.length ≤ 1000000) (hi : i < l.length) (ha : 1 ≤ a) (hp : a * prd (l.eraseIdx i) ≤ 1000000000000) : Ev (fun k => impl_otherRoot.f k l a (i : Int)) (oth l a i) := by
  unfold impl_otherRoot.f oth
  have he := prdBut_erase l 0 i
  rw [Nat.zero_add] at he
  have h := otherRoot_upto l hl hn i hi l.length 0 a (by omega) ha (by rw [List.drop_zero, he]; exact hp)
  rw [List.drop_zero, he] at h
  exact h
theorem own_is (l : List Int) (h : l.length < 17592186044416) : spec_l1Own.f l = some l := by
  unfold spec_l1Own.f
  simp [h]
theorem huOther_ev (l : List Int) (a : Int) (i : Nat) (hl : ∀ x ∈ l, 1 ≤ x ∧ x ≤ 100000) (hn : l.length ≤ 1000000) (hi : i < l.length) (ha : 1 ≤ a ∧ a ≤ 1000000000000) (hp : a * prd (l.eraseIdx i) ≤ 1000000000000) : Ev (fun k => spec_huOther.f k l a (i : Int)) (oth l a i) := by
  unfold spec_huOther.f oth
  have w1 : wrap64 ((i : Int) + 1) = ((i + 1 : Nat) : Int) := w64_succ (n := l.length) hi (by omega)
  simp only [w1, Int.toNat_natCast]
  have hr := hl _ (rd_mem hi)
  have c1 : (0 : Int) ≤ (i : Int) := by omega
  have c2 : (i : Int) ≤ (l.length : Int) := by omega
  have c3 : (0 : Int) ≤ ((i + 1 : Nat) : Int) := by omega
  have c4 : ((i + 1 : Nat) : Int) ≤ (l.length : Int) := by omega
  have c5 : (i : Int) < (l.length : Int) := by omega
  simp only [c1, c2, c3, c4, c5, if_true]
  refine Ev.bind0 (own_is _ (by rw [List.length_take]; omega)) ?_
  have hlen : (l.take i).length + (l.drop (i + 1)).length < 17592186044416 := by rw [List.length_take, List.length_drop]; omega
  simp only [hlen, if_true]
  have he : l.take i ++ l.drop (i + 1) = l.eraseIdx i := (List.eraseIdx_eq_take_drop_succ ..).symm
  rw [he]
  have hle : ∀ x ∈ l.eraseIdx i, 1 ≤ x ∧ x ≤ 100000 := fun x hx => hl x (List.mem_of_mem_eraseIdx hx)
  have hq := prd_pos (fun x hx => (hle x hx).1)
  have hb := mul_bd2 (p := a) (P := a) (by omega) (by omega) hq (Int.le_refl _)
  refine Ev.bind (huProduct_ev (l.eraseIdx i) a (by omega) hle (by have := List.length_eraseIdx_le l i; omega)) (Ev.is ?_)
  rw [Int.min_eq_left hp, w64 (by omega) (by omega)]
/-- The product is one number times the others'. -/
theorem prd_erase (l : List Int) (i : Nat) (hi : i < l.length) : prd l = rd l (i : Int) * prd (l.eraseIdx i) := by
  induction l generalizing i with
  | nil => simp at hi
  | cons x l ih =>
    cases i with
    | zero => simp [prd, rd]
    | succ i =>
      have h1 : i < l.length := by simpa using hi
      rw [List.eraseIdx_cons_succ, prd, prd, ih i h1, rd_lt _ _ hi, rd_lt _ _ h1, List.getElem_cons_succ]
      grind
/-- In a solution the others' product is not too great. -/
theorem huIs_bd {l : List Int} {a b : Int} (hg : huGv a b = true) (h : huIs l a b = true) (i : Nat) (hi : i < l.length) : 1 ≤ a ∧ a ≤ 20 ∧ 1 ≤ a * prd (l.eraseIdx i) ∧ a * prd (l.eraseIdx i) ≤ 40000000050 := by
  obtain ⟨h1, h2, h3, h4⟩ := huIs_iff.1 h
  simp only [huGv, inB_iff, Bool.and_eq_true] at hg
  have hs := sqs_bd h2
  have hr := h2 _ (rd_mem hi)
  have hq := prd_pos (l := l.eraseIdx i) (fun x hx => (h2 x (List.mem_of_mem_eraseIdx hx)).1)
  rw [prd_erase l i hi] at h4
  have hb := mul_bd2 (p := a) (P := a) (by omega) (by omega) hq (Int.le_refl _)
  have hb2 := mul_bd2 (p := a * prd (l.eraseIdx i)) (P := a * prd (l.eraseIdx i)) (by omega) (by omega) hr.1 hr.2
  have he : a * (rd l (i : Int) * prd (l.eraseIdx i)) = a * prd (l.eraseIdx i) * rd l (i : Int) := by grind
  rw [he] at h4
  omega
theorem other_both {l : List Int} {a b : Int} (hg : huGv a b = true) (h : huIs l a b = true) (i : Nat) (hi : i < l.length) : Ev (fun k => impl_otherRoot.f k l a (i : Int)) (oth l a i) ∧ Ev (fun k => spec_huOther.f k l a (i : Int)) (oth l a i) := by
  have hb := huIs_bd hg h i hi
  obtain ⟨h1, h2, h3, h4⟩ := huIs_iff.1 h
  exact ⟨otherRoot_ev l a i h2 (by omega) hi (by omega) (by omega), huOther_ev l a i h2 (by omega) hi (by omega) (by omega)⟩
end Go.Proofs.Ytfdjbcbhlfjogaa.P

-- PFimplisSolution
namespace Go.Proofs.Ytfdjbcbhlfjogaa.P
open Go.RowKit Go.Proofs.YtfdjbcbhlfjogaaW.PrintWords Go.Proofs.YtfdjbcbhlfjogaaW.PrintLast
set_option linter.unusedVariables false
set_option linter.unusedSimpArgs false

/-! ### impl_isSolution: function 56 -/
end Go.Proofs.Ytfdjbcbhlfjogaa.P

-- PFimplOtherRootAt
namespace Go.Proofs.Ytfdjbcbhlfjogaa.P
open Go.RowKit Go.Proofs.YtfdjbcbhlfjogaaW.PrintWords Go.Proofs.YtfdjbcbhlfjogaaW.PrintLast
set_option linter.unusedVariables false
set_option linter.unusedSimpArgs false

/-! ### impl_OtherRootAt: function 20 -/
end Go.Proofs.Ytfdjbcbhlfjogaa.P

-- PFspecOtherRootAt
namespace Go.Proofs.Ytfdjbcbhlfjogaa.P
open Go.RowKit Go.Proofs.YtfdjbcbhlfjogaaW.PrintWords Go.Proofs.YtfdjbcbhlfjogaaW.PrintLast
set_option linter.unusedVariables false
set_option linter.unusedSimpArgs false

/-! ### spec_OtherRootAt: function 19 -/
end Go.Proofs.Ytfdjbcbhlfjogaa.P

-- UhuAt
namespace Go.Proofs.Ytfdjbcbhlfjogaa.P
set_option linter.unusedVariables false
set_option linter.unusedSimpArgs false
open Go.RowKit Go.Proofs.YtfdjbcbhlfjogaaW.PrintWords Go.Proofs.YtfdjbcbhlfjogaaW.PrintLast Go.Proofs.YtfdjbcbhlfjogaaW.PrintMore

end Go.Proofs.Ytfdjbcbhlfjogaa.P

-- PFimplIsFundamental
namespace Go.Proofs.Ytfdjbcbhlfjogaa.P
open Go.RowKit Go.Proofs.YtfdjbcbhlfjogaaW.PrintWords Go.Proofs.YtfdjbcbhlfjogaaW.PrintLast
set_option linter.unusedVariables false
set_option linter.unusedSimpArgs false

/-! ### impl_IsFundamental: function 22 -/
end Go.Proofs.Ytfdjbcbhlfjogaa.P

-- PFspecIsFundamental
namespace Go.Proofs.Ytfdjbcbhlfjogaa.P
open Go.RowKit Go.Proofs.YtfdjbcbhlfjogaaW.PrintWords Go.Proofs.YtfdjbcbhlfjogaaW.PrintLast
set_option linter.unusedVariables false
set_option linter.unusedSimpArgs false

/-! ### spec_IsFundamental: function 21 -/
end Go.Proofs.Ytfdjbcbhlfjogaa.P

-- UhuLast
namespace Go.Proofs.Ytfdjbcbhlfjogaa.P
set_option linter.unusedVariables false
set_option linter.unusedSimpArgs false
open Go.RowKit Go.Proofs.YtfdjbcbhlfjogaaW.PrintWords Go.Proofs.YtfdjbcbhlfjogaaW.PrintLast Go.Proofs.YtfdjbcbhlfjogaaW.PrintMore
def lastOf (l : List Int) (a : Int) : Bool := !inB 1 (rd l 0 - 1) (oth l a 0)
theorem last_both {l : List Int} {a b : Int} (hg : huGv a b = true) (h : huIs l a b = true) : Ev (fun k => impl_isFundamental.f k l a) (lastOf l a) ∧ Ev (fun k => spec_huLast.f k l a) (lastOf l a) := by
  obtain ⟨h1, h2, h3, h4⟩ := huIs_iff.1 h
  obtain ⟨e1, e2⟩ := other_both hg h 0 (by omega)
  have hr := h2 _ (rd_mem (l := l) (i := 0) (by omega))
  have c : (0 : Int) < (l.length : Int) := by omega
  have w1 : wrap64 (rd l 0 - 1) = rd l 0 - 1 := w64 (by have : rd l 0 = rd l ((0 : Nat) : Int) := rfl; omega) (by have : rd l 0 = rd l ((0 : Nat) : Int) := rfl; omega)
  unfold impl_isFundamental.f spec_huLast.f lastOf
  simp only [c, if_true, w1]
  constructor
  · refine Ev.bind e1 ?_
    rw [within_inB]
    exact Ev.is rfl
  · refine Ev.bind e2 ?_
    rw [l1In_inB]
    exact Ev.is rfl
end Go.Proofs.Ytfdjbcbhlfjogaa.P
