-- written by mp.py (a program of this session over the kit's printer) out of the translation; Lean checks it
import Derived.Test.YthkmbkibceojlaaP0
import Derived.Test.YthkmbkibceojlaaPFspecmkSort
namespace Go.Proofs.Ythkmbkibceojlaa.P
open Go.RowKit Go.Proofs.YthkmbkibceojlaaW.PrintWords Go.Proofs.YthkmbkibceojlaaW.PrintLast
set_option linter.unusedVariables false
set_option linter.unusedSimpArgs false

/-! ### spec_mkMove: function 71 -/
def spec_mkMove.f (l0 : List Int) (a1 : Int) : Option (List Int × Bool) := if 0 ≤ (Int.tmod (wrap64 (a1 + 1)) 3) then (if (Int.tmod (wrap64 (a1 + 1)) 3) < (l0.length : Int) then (if 0 ≤ (Int.tmod (wrap64 (a1 + 2)) 3) then (if (Int.tmod (wrap64 (a1 + 2)) 3) < (l0.length : Int) then (if (rd l0 (Int.tmod (wrap64 (a1 + 2)) 3)) = 0 then (none) else (if (rd l0 (Int.tmod (wrap64 (a1 + 1)) 3)) > (wrap64 ((1000000000 : Int) / (rd l0 (Int.tmod (wrap64 (a1 + 2)) 3)))) then (some (([] : List Int), false)) else (if 0 ≤ a1 then (if a1 < (l0.length : Int) then (if (wrap64 ((wrap64 ((wrap64 (3 * (rd l0 (Int.tmod (wrap64 (a1 + 1)) 3)))) * (rd l0 (Int.tmod (wrap64 (a1 + 2)) 3)))) - (rd l0 a1))) > 1000000000 then (some (([] : List Int), false)) else ((spec_mkSort.f (rd l0 (Int.tmod (wrap64 (a1 + 1)) 3)) (rd l0 (Int.tmod (wrap64 (a1 + 2)) 3)) (wrap64 ((wrap64 ((wrap64 (3 * (rd l0 (Int.tmod (wrap64 (a1 + 1)) 3)))) * (rd l0 (Int.tmod (wrap64 (a1 + 2)) 3)))) - (rd l0 a1)))).bind fun t310 => (some (t310, true)))) else (none)) else (none)))) else (none)) else (none)) else (none)) else (none)
set_option maxHeartbeats 8000000 in
set_option maxRecDepth 100000 in
theorem spec_mkMove.calls (A0 : Option Addr) (c0 : Nat) (l0 : List Int) (a1 : Int) (r1 : List Int) (r2 : Bool) (w : World) (hr0 : Kd.C (Kd.int .i64) w A0 l0.length l0) (hc0 : l0.length ≤ c0) (h : spec_mkMove.f l0 a1 = some (r1, r2)) :
  Calls Try.prog 71 #[.slice A0 l0.length c0, .int .i64 a1] w fun e w' => ∃ v0_ : Value, e = .returned (.tuple #[v0_, .bool r2]) ∧ Kd.R (Kd.int .i64) 3 w' w.heap.size (fun _ => True) v0_ r1 ∧ Below w.heap.size w w' := by
 have HR0 := Aside0.mk hr0
 have HC0 := Aside0.mk hc0
 clear hr0 hc0
 have HB := Aside0.mk (Below.refl w.heap.size w)
 have H : (if 0 ≤ (Int.tmod (wrap64 (a1 + 1)) 3) then (if (Int.tmod (wrap64 (a1 + 1)) 3) < (l0.length : Int) then (if 0 ≤ (Int.tmod (wrap64 (a1 + 2)) 3) then (if (Int.tmod (wrap64 (a1 + 2)) 3) < (l0.length : Int) then (if (rd l0 (Int.tmod (wrap64 (a1 + 2)) 3)) = 0 then (none) else (if (rd l0 (Int.tmod (wrap64 (a1 + 1)) 3)) > (wrap64 ((1000000000 : Int) / (rd l0 (Int.tmod (wrap64 (a1 + 2)) 3)))) then (some (([] : List Int), false)) else (if 0 ≤ a1 then (if a1 < (l0.length : Int) then (if (wrap64 ((wrap64 ((wrap64 (3 * (rd l0 (Int.tmod (wrap64 (a1 + 1)) 3)))) * (rd l0 (Int.tmod (wrap64 (a1 + 2)) 3)))) - (rd l0 a1))) > 1000000000 then (some (([] : List Int), false)) else ((spec_mkSort.f (rd l0 (Int.tmod (wrap64 (a1 + 1)) 3)) (rd l0 (Int.tmod (wrap64 (a1 + 2)) 3)) (wrap64 ((wrap64 ((wrap64 (3 * (rd l0 (Int.tmod (wrap64 (a1 + 1)) 3)))) * (rd l0 (Int.tmod (wrap64 (a1 + 2)) 3)))) - (rd l0 a1)))).bind fun t310 => (some (t310, true)))) else (none)) else (none)))) else (none)) else (none)) else (none)) else (none)) = some (r1, r2) := h
 clear h
 obtain ⟨ji3, hji3⟩ : ∃ j_ : Int, (Int.tmod (wrap64 (a1 + 1)) 3) = j_ := ⟨_, rfl⟩
 replace H : (if 0 ≤ (ji3) then (if (ji3) < (l0.length : Int) then (if 0 ≤ (Int.tmod (wrap64 (a1 + 2)) 3) then (if (Int.tmod (wrap64 (a1 + 2)) 3) < (l0.length : Int) then (if (rd l0 (Int.tmod (wrap64 (a1 + 2)) 3)) = 0 then (none) else (if (rd l0 (ji3)) > (wrap64 ((1000000000 : Int) / (rd l0 (Int.tmod (wrap64 (a1 + 2)) 3)))) then (some (([] : List Int), false)) else (if 0 ≤ a1 then (if a1 < (l0.length : Int) then (if (wrap64 ((wrap64 ((wrap64 (3 * (rd l0 (ji3)))) * (rd l0 (Int.tmod (wrap64 (a1 + 2)) 3)))) - (rd l0 a1))) > 1000000000 then (some (([] : List Int), false)) else ((spec_mkSort.f (rd l0 (ji3)) (rd l0 (Int.tmod (wrap64 (a1 + 2)) 3)) (wrap64 ((wrap64 ((wrap64 (3 * (rd l0 (ji3)))) * (rd l0 (Int.tmod (wrap64 (a1 + 2)) 3)))) - (rd l0 a1)))).bind fun t310 => (some (t310, true)))) else (none)) else (none)))) else (none)) else (none)) else (none)) else (none)) = some (r1, r2) := by first | (rw [hji3] at H; exact H) | (simp only [hji3] at H ⊢; exact H)
 by_cases c4 : 0 ≤ (ji3)
 ·rw [if_pos c4] at H
  have c4b0 : decide (0 ≤ (ji3)) = true := decide_eq_true c4
  clear c4
  by_cases c5 : (ji3) < (l0.length : Int)
  ·rw [if_pos c5] at H
   have c5b0 : decide ((ji3) < (l0.length : Int)) = true := decide_eq_true c5
   clear c5
   obtain ⟨ji6, hji6⟩ : ∃ j_ : Int, (Int.tmod (wrap64 (a1 + 2)) 3) = j_ := ⟨_, rfl⟩
   replace H : (if 0 ≤ (ji6) then (if (ji6) < (l0.length : Int) then (if (rd l0 (ji6)) = 0 then (none) else (if (rd l0 (ji3)) > (wrap64 ((1000000000 : Int) / (rd l0 (ji6)))) then (some (([] : List Int), false)) else (if 0 ≤ a1 then (if a1 < (l0.length : Int) then (if (wrap64 ((wrap64 ((wrap64 (3 * (rd l0 (ji3)))) * (rd l0 (ji6)))) - (rd l0 a1))) > 1000000000 then (some (([] : List Int), false)) else ((spec_mkSort.f (rd l0 (ji3)) (rd l0 (ji6)) (wrap64 ((wrap64 ((wrap64 (3 * (rd l0 (ji3)))) * (rd l0 (ji6)))) - (rd l0 a1)))).bind fun t310 => (some (t310, true)))) else (none)) else (none)))) else (none)) else (none)) = some (r1, r2) := by first | (rw [hji6] at H; exact H) | (simp only [hji6] at H ⊢; exact H)
   by_cases c7 : 0 ≤ (ji6)
   ·rw [if_pos c7] at H
    have c7b0 : decide (0 ≤ (ji6)) = true := decide_eq_true c7
    clear c7
    by_cases c8 : (ji6) < (l0.length : Int)
    ·rw [if_pos c8] at H
     have c8b0 : decide ((ji6) < (l0.length : Int)) = true := decide_eq_true c8
     clear c8
     by_cases c9 : (rd l0 (ji6)) = 0
     ·rw [if_pos c9] at H
      exact absurd H (by simp)
     ·rw [if_neg c9] at H
      have c9b0 : ((rd l0 (ji6)) == 0) = false := beq_eq_false_iff_ne.mpr c9
      have c9b1 : ((rd l0 (ji6)) != 0) = true := bne_iff_ne.mpr c9
      by_cases c10 : (rd l0 (ji3)) > (wrap64 ((1000000000 : Int) / (rd l0 (ji6))))
      ·rw [if_pos c10] at H
       have c10b0 : decide ((wrap64 ((1000000000 : Int) / (rd l0 (ji6)))) < (rd l0 (ji3))) = true := decide_eq_true c10
       clear c10
       simp only [Option.some.injEq, Prod.mk.injEq] at H
       obtain ⟨rfl, rfl⟩ := H
       have p307 : 0 ≤ ((ji3) : Int) := of_decide_eq_true (by first | (with_reducible assumption) | assumption)
       have q307 : (ji3) < (l0.length : Int) := of_decide_eq_true (by first | (with_reducible assumption) | assumption)
       obtain ⟨ad307, e307, hx307_0⟩ := Kd.at_int HR0.out (ji3) p307 q307
       cases e307
       replace p307 := eq_true p307
       replace q307 := eq_true q307
       have p308 : 0 ≤ ((ji6) : Int) := of_decide_eq_true (by first | (with_reducible assumption) | assumption)
       have q308 : (ji6) < (l0.length : Int) := of_decide_eq_true (by first | (with_reducible assumption) | assumption)
       obtain ⟨ad308, e308, hx308_0⟩ := Kd.at_int HR0.out (ji6) p308 q308
       obtain rfl : ad307 = ad308 := (by injection e308)
       replace p308 := eq_true p308
       replace q308 := eq_true q308
       have htd_ : ∀ b_ : Int, Int.tdiv 1000000000 b_ = 1000000000 / b_ := fun b_ => Int.tdiv_eq_ediv_of_nonneg (by decide)
       go_enter Try.func71, Try.ntmps71
       go_wp2
       repeat (go_quiet (fail); try go_wp2)
       go_ret2
       exact ⟨_, by first | rfl | (simp [errW_none, errW_some] <;> rfl) | (simp only [← hji3, ← hji6]; first | rfl | (simp [errW_none, errW_some] <;> rfl)) | (simp [*, errW_none, errW_some] <;> rfl), by first | exact Kd.R_nil _ _ _ _ _ | exact Kd.N_nil _ _ _ _ _ | exact Kd.V_nil _ _ _ _ _ | exact Kd.Q_nil _ _ _ _ _ | exact Kd.S_nil _ _ _ _ _, by repeat (first | (with_reducible first | exact HB.out | apply below_alloc | apply pw_below_drewN | apply below_drew1) | exact HB.out)⟩
      ·rw [if_neg c10] at H
       have c10b0 : decide ((wrap64 ((1000000000 : Int) / (rd l0 (ji6)))) < (rd l0 (ji3))) = false := decide_eq_false c10
       clear c10
       by_cases c11 : 0 ≤ a1
       ·rw [if_pos c11] at H
        have c11b0 : decide (0 ≤ a1) = true := decide_eq_true c11
        clear c11
        by_cases c12 : a1 < (l0.length : Int)
        ·rw [if_pos c12] at H
         have c12b0 : decide (a1 < (l0.length : Int)) = true := decide_eq_true c12
         clear c12
         by_cases c13 : (wrap64 ((wrap64 ((wrap64 (3 * (rd l0 (ji3)))) * (rd l0 (ji6)))) - (rd l0 a1))) > 1000000000
         ·rw [if_pos c13] at H
          have c13b0 : decide (1000000000 < (wrap64 ((wrap64 ((wrap64 (3 * (rd l0 (ji3)))) * (rd l0 (ji6)))) - (rd l0 a1)))) = true := decide_eq_true c13
          clear c13
          simp only [Option.some.injEq, Prod.mk.injEq] at H
          obtain ⟨rfl, rfl⟩ := H
          have p307 : 0 ≤ ((ji3) : Int) := of_decide_eq_true (by first | (with_reducible assumption) | assumption)
          have q307 : (ji3) < (l0.length : Int) := of_decide_eq_true (by first | (with_reducible assumption) | assumption)
          obtain ⟨ad307, e307, hx307_0⟩ := Kd.at_int HR0.out (ji3) p307 q307
          cases e307
          replace p307 := eq_true p307
          replace q307 := eq_true q307
          have p308 : 0 ≤ ((ji6) : Int) := of_decide_eq_true (by first | (with_reducible assumption) | assumption)
          have q308 : (ji6) < (l0.length : Int) := of_decide_eq_true (by first | (with_reducible assumption) | assumption)
          obtain ⟨ad308, e308, hx308_0⟩ := Kd.at_int HR0.out (ji6) p308 q308
          obtain rfl : ad307 = ad308 := (by injection e308)
          replace p308 := eq_true p308
          replace q308 := eq_true q308
          have p309 : 0 ≤ (a1 : Int) := of_decide_eq_true (by first | (with_reducible assumption) | assumption)
          have q309 : a1 < (l0.length : Int) := of_decide_eq_true (by first | (with_reducible assumption) | assumption)
          obtain ⟨ad309, e309, hx309_0⟩ := Kd.at_int HR0.out a1 p309 q309
          obtain rfl : ad307 = ad309 := (by injection e309)
          replace p309 := eq_true p309
          replace q309 := eq_true q309
          have htd_ : ∀ b_ : Int, Int.tdiv 1000000000 b_ = 1000000000 / b_ := fun b_ => Int.tdiv_eq_ediv_of_nonneg (by decide)
          go_enter Try.func71, Try.ntmps71
          go_wp2
          repeat (go_quiet (fail); try go_wp2)
          go_ret2
          exact ⟨_, by first | rfl | (simp [errW_none, errW_some] <;> rfl) | (simp only [← hji3, ← hji6]; first | rfl | (simp [errW_none, errW_some] <;> rfl)) | (simp [*, errW_none, errW_some] <;> rfl), by first | exact Kd.R_nil _ _ _ _ _ | exact Kd.N_nil _ _ _ _ _ | exact Kd.V_nil _ _ _ _ _ | exact Kd.Q_nil _ _ _ _ _ | exact Kd.S_nil _ _ _ _ _, by repeat (first | (with_reducible first | exact HB.out | apply below_alloc | apply pw_below_drewN | apply below_drew1) | exact HB.out)⟩
         ·rw [if_neg c13] at H
          have c13b0 : decide (1000000000 < (wrap64 ((wrap64 ((wrap64 (3 * (rd l0 (ji3)))) * (rd l0 (ji6)))) - (rd l0 a1)))) = false := decide_eq_false c13
          clear c13
          replace H := Option.bind_eq_some_iff.mp H
          obtain ⟨t310, A140, H⟩ := H
          replace H : (some (t310, true)) = some (r1, r2) := H
          have A14 := Aside0.mk A140
          clear A140
          simp only [Option.some.injEq, Prod.mk.injEq] at H
          obtain ⟨rfl, rfl⟩ := H
          have p307 : 0 ≤ ((ji3) : Int) := of_decide_eq_true (by first | (with_reducible assumption) | assumption)
          have q307 : (ji3) < (l0.length : Int) := of_decide_eq_true (by first | (with_reducible assumption) | assumption)
          obtain ⟨ad307, e307, hx307_0⟩ := Kd.at_int HR0.out (ji3) p307 q307
          cases e307
          replace p307 := eq_true p307
          replace q307 := eq_true q307
          have p308 : 0 ≤ ((ji6) : Int) := of_decide_eq_true (by first | (with_reducible assumption) | assumption)
          have q308 : (ji6) < (l0.length : Int) := of_decide_eq_true (by first | (with_reducible assumption) | assumption)
          obtain ⟨ad308, e308, hx308_0⟩ := Kd.at_int HR0.out (ji6) p308 q308
          obtain rfl : ad307 = ad308 := (by injection e308)
          replace p308 := eq_true p308
          replace q308 := eq_true q308
          have p309 : 0 ≤ (a1 : Int) := of_decide_eq_true (by first | (with_reducible assumption) | assumption)
          have q309 : a1 < (l0.length : Int) := of_decide_eq_true (by first | (with_reducible assumption) | assumption)
          obtain ⟨ad309, e309, hx309_0⟩ := Kd.at_int HR0.out a1 p309 q309
          obtain rfl : ad307 = ad309 := (by injection e309)
          replace p309 := eq_true p309
          replace q309 := eq_true q309
          have htd_ : ∀ b_ : Int, Int.tdiv 1000000000 b_ = 1000000000 / b_ := fun b_ => Int.tdiv_eq_ediv_of_nonneg (by decide)
          go_enter Try.func71, Try.ntmps71
          go_wp2_with (first | (go_at_call 92; (with_reducible refine (spec_mkSort.calls (rd l0 (ji3)) (rd l0 (ji6)) (wrap64 ((wrap64 ((wrap64 (3 * (rd l0 (ji3)))) * (rd l0 (ji6)))) - (rd l0 a1))) t310 _ A14.out).mono ?_); rintro e w15 ⟨v311, rfl, ho0, hb⟩; have n0_ := Aside0.mk (Kd.R_lower ho0 (below_size (by repeat (first | (with_reducible first | exact HB.out | apply below_alloc | apply pw_below_drewN | apply below_drew1) | exact HB.out)))); have n1_ := Aside0.mk (below_step (by repeat (first | (with_reducible first | exact HB.out | apply below_alloc | apply pw_below_drewN | apply below_drew1) | exact HB.out)) hb); clear HB; have HO312 := n0_; have HB := n1_; clear n0_ n1_; (try clear hb); (try clear hb2); (try clear hk); (try clear hi); (try clear ho0)))
          repeat (go_quiet (first | (go_at_call 92; (with_reducible refine (spec_mkSort.calls (rd l0 (ji3)) (rd l0 (ji6)) (wrap64 ((wrap64 ((wrap64 (3 * (rd l0 (ji3)))) * (rd l0 (ji6)))) - (rd l0 a1))) t310 _ A14.out).mono ?_); rintro e w15 ⟨v311, rfl, ho0, hb⟩; have n0_ := Aside0.mk (Kd.R_lower ho0 (below_size (by repeat (first | (with_reducible first | exact HB.out | apply below_alloc | apply pw_below_drewN | apply below_drew1) | exact HB.out)))); have n1_ := Aside0.mk (below_step (by repeat (first | (with_reducible first | exact HB.out | apply below_alloc | apply pw_below_drewN | apply below_drew1) | exact HB.out)) hb); clear HB; have HO312 := n0_; have HB := n1_; clear n0_ n1_; (try clear hb); (try clear hb2); (try clear hk); (try clear hi); (try clear ho0))); try go_wp2_with (first | (go_at_call 92; (with_reducible refine (spec_mkSort.calls (rd l0 (ji3)) (rd l0 (ji6)) (wrap64 ((wrap64 ((wrap64 (3 * (rd l0 (ji3)))) * (rd l0 (ji6)))) - (rd l0 a1))) t310 _ A14.out).mono ?_); rintro e w15 ⟨v311, rfl, ho0, hb⟩; have n0_ := Aside0.mk (Kd.R_lower ho0 (below_size (by repeat (first | (with_reducible first | exact HB.out | apply below_alloc | apply pw_below_drewN | apply below_drew1) | exact HB.out)))); have n1_ := Aside0.mk (below_step (by repeat (first | (with_reducible first | exact HB.out | apply below_alloc | apply pw_below_drewN | apply below_drew1) | exact HB.out)) hb); clear HB; have HO312 := n0_; have HB := n1_; clear n0_ n1_; (try clear hb); (try clear hb2); (try clear hk); (try clear hi); (try clear ho0))))
          go_ret2
          exact ⟨_, by first | rfl | (simp [errW_none, errW_some] <;> rfl) | (simp only [← hji3, ← hji6]; first | rfl | (simp [errW_none, errW_some] <;> rfl)) | (simp [*, errW_none, errW_some] <;> rfl), by (with_reducible repeat (first | apply Kd.R_alloc | apply Kd.R_drewN | apply Kd.R_drew)); exact HO312.out, by repeat (first | (with_reducible first | exact HB.out | apply below_alloc | apply pw_below_drewN | apply below_drew1) | exact HB.out)⟩
        ·rw [if_neg c12] at H
         exact absurd H (by simp)
       ·rw [if_neg c11] at H
        exact absurd H (by simp)
    ·rw [if_neg c8] at H
     exact absurd H (by simp)
   ·rw [if_neg c7] at H
    exact absurd H (by simp)
  ·rw [if_neg c5] at H
   exact absurd H (by simp)
 ·rw [if_neg c4] at H
  exact absurd H (by simp)

end Go.Proofs.Ythkmbkibceojlaa.P
