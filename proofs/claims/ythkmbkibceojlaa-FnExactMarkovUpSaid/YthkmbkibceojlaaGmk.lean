-- GIVEN loop.example/g01122/spec.mkGood
-- GIVEN loop.example/g01122/spec.mkMod
/- The contracts of spec.mkGood and spec.mkMod, in the printer's form. -/
import Derived.Test.YthkmbkibceojlaaPFspecl1All
import Derived.Test.YthkmbkibceojlaaPFspecmkSolves
namespace Go.Proofs.Ythkmbkibceojlaa.P
open Go.RowKit Go.Proofs.YthkmbkibceojlaaW.PrintWords Go.Proofs.YthkmbkibceojlaaW.PrintLast
set_option linter.unusedVariables false
set_option linter.unusedSimpArgs false

def allB (lo hi x : Int) : Bool := decide (lo ≤ x) && decide (x ≤ hi)
theorem l1In_allB (x lo hi : Int) : spec_l1In.f x lo hi = some (allB lo hi x) := by
  unfold spec_l1In.f allB
  by_cases h : lo ≤ x <;> simp [h]
theorem all_drop (l : List Int) (p : Int → Bool) (i : Nat) (h : i < l.length) : (l.drop i).all p = (p (rd l (i : Int)) && (l.drop (i + 1)).all p) := by
  rw [List.drop_eq_getElem_cons h, List.all_cons]
  simp [rd, List.getD_eq_getElem?_getD, h]
theorem l1All_from (l : List Int) (lo hi : Int) (hl : l.length ≤ 9223372036854775807) (d : Nat) : ∀ (k : Nat) (i : Nat), i + d = l.length → d < k →
    spec_l1All.l0 k lo hi l (l.length : Int) (i : Int) = some ((l.drop i).all (allB lo hi)) := by
  induction d with
  | zero =>
    intro k i hid hk
    obtain ⟨k, rfl⟩ : ∃ m, k = m + 1 := ⟨k - 1, by omega⟩
    simp only [spec_l1All.l0]
    rw [if_neg (by omega), List.drop_eq_nil_of_le (by omega)]
    rfl
  | succ d ih =>
    intro k i hid hk
    obtain ⟨k, rfl⟩ : ∃ m, k = m + 1 := ⟨k - 1, by omega⟩
    simp only [spec_l1All.l0]
    rw [if_pos (by omega), if_pos (by omega), if_pos (by omega), l1In_allB, all_drop l _ i (by omega)]
    simp only [Option.bind_some]
    have hw : wrap64 ((i : Int) + 1) = ((i + 1 : Nat) : Int) := by unfold wrap64; omega
    cases hB : allB lo hi (rd l (i : Int)) with
    | true => rw [if_pos rfl, hw, ih k (i + 1) (by omega) (by omega)]; rfl
    | false => rw [if_neg (by simp)]; rfl
theorem l1All_f (l : List Int) (lo hi : Int) (hl : l.length ≤ 9223372036854775807) : spec_l1All.f (l.length + 1) l lo hi = some (l.all (allB lo hi)) := by
  unfold spec_l1All.f
  exact l1All_from l lo hi hl l.length (l.length + 1) 0 (by omega) (by omega)
theorem given_max {A : Option Addr} {n : Nat} {xs : List Int} {w : World} (h : Kd.C (Kd.int .i64) w A n xs) : n ≤ 9223372036854775807 := (Kd.reads_of_C (enc := Value.int .i64) (d := (0 : Int)) (h1 := fun _ => rfl) h).2.1

theorem l1All_all (A0 : Option Addr) (c0 : Nat) (l0 : List Int) (lo hi : Int) (w : World) (hr0 : Kd.C (Kd.int .i64) w A0 l0.length l0) (hc0 : l0.length ≤ c0) :
    Calls Try.prog 91 #[.slice A0 l0.length c0, .int .i64 lo, .int .i64 hi] w fun e w' => e = .returned (.bool (l0.all (allB lo hi))) ∧ Drawn0 w w' :=
  spec_l1All.calls (l0.length + 1) A0 c0 l0 lo hi _ w hr0 hc0 (l1All_f l0 lo hi (given_max hr0))

/-- Three cells that are read. -/
theorem three_cells {A0 : Option Addr} {x y z : Int} {w : World} (hr0 : Kd.C (Kd.int .i64) w A0 3 [x, y, z]) : ∃ ad, A0 = some ad ∧ w.cell? ad = some (.int .i64 x) ∧ w.cell? ⟨ad.block, ad.off + 1, none⟩ = some (.int .i64 y) ∧ w.cell? ⟨ad.block, ad.off + 2, none⟩ = some (.int .i64 z) := by
  obtain ⟨ad, rfl, h0⟩ := Kd.at_int hr0 0 (by omega) (by omega)
  obtain ⟨ad1, e1, h1⟩ := Kd.at_int hr0 1 (by omega) (by omega)
  obtain ⟨ad2, e2, h2⟩ := Kd.at_int hr0 2 (by omega) (by omega)
  cases e1
  cases e2
  rw [show ((0 : Int)).toNat = 0 from rfl, Addr.add_zero'] at h0
  simp only [show (1 : Int).toNat = 1 from rfl, Nat.reduceMul, Nat.reduceEqDiff, Go.Addr.add, ↓reduceIte] at h1
  simp only [show (2 : Int).toNat = 2 from rfl, Nat.reduceMul, Nat.reduceEqDiff, Go.Addr.add, ↓reduceIte] at h2
  exact ⟨ad, rfl, h0, h1, h2⟩

/-- Three numbers that do not fall, from 1 on, that solve the equation. -/
def mkGoodB (l : List Int) : Bool := match l with
  | [x, y, z] => [x, y, z].all (allB 1 1000000000) && (decide (x ≤ y) && (decide (y ≤ z) && (spec_mkSolves.f x y z).getD false))
  | _ => false
def spec_mkGood.f (l0 : List Int) : Option Bool := some (mkGoodB l0)

set_option maxHeartbeats 2000000 in
theorem spec_mkGood.calls (A0 : Option Addr) (c0 : Nat) (l0 : List Int) (r : Bool) (w : World) (hr0 : Kd.C (Kd.int .i64) w A0 l0.length l0) (hc0 : l0.length ≤ c0) (h : spec_mkGood.f l0 = some r) :
    Calls Try.prog 57 #[.slice A0 l0.length c0] w fun e w' => e = .returned (.bool r) ∧ Drawn0 w w' := by
  obtain rfl : mkGoodB l0 = r := Option.some.inj h
  clear h
  by_cases h3 : l0.length = 3
  · obtain ⟨x, y, z, rfl⟩ : ∃ x y z, l0 = [x, y, z] := by
      match l0, h3 with
      | [x, y, z], _ => exact ⟨x, y, z, rfl⟩
    have hA : ∀ n, Calls Try.prog 91 #[.slice A0 [x, y, z].length c0, .int .i64 1, .int .i64 1000000000] (w.drewN n) fun e w' => e = .returned (.bool ([x, y, z].all (allB 1 1000000000))) ∧ ∃ m, w' = w.drewN m :=
      fun n => Calls.quiet_of ((l1All_all A0 c0 [x, y, z] 1 1000000000 (w.drewN n) (Kd.C_below hr0 (pw_below_drewN (Below.refl _ _) n)) hc0).mono fun _ _ h => ⟨h.1, h.2.out⟩)
    obtain ⟨ad, rfl, k0, k1, k2⟩ := three_cells hr0
    clear hr0
    change ∀ n, Calls _ _ #[.slice (some ad) 3 c0, _, _] _ _ at hA
    change Calls _ _ #[.slice (some ad) 3 c0] _ _
    have hm : mkGoodB [x, y, z] = ([x, y, z].all (allB 1 1000000000) && (decide (x ≤ y) && (decide (y ≤ z) && (spec_mkSolves.f x y z).getD false))) := rfl
    rw [hm]
    clear hm
    cases hq : [x, y, z].all (allB 1 1000000000) with
    | false =>
      rw [hq] at hA
      rw [Bool.false_and]
      clear hq h3
      go_enter Try.func57, Try.ntmps57
      go_wp2
      go_quiet ((go_at_call 91; exact hA _))
      go_wp2
      go_ret
      exact ⟨rfl, by repeat (first | exact Drawn0.refl _ | apply Drawn0.step)⟩
    | true =>
      rw [hq] at hA
      have hs : spec_mkSolves.f x y z = some ((spec_mkSolves.f x y z).getD false) := by
        have hz : ¬ z = 0 := by
          simp [allB] at hq
          omega
        unfold spec_mkSolves.f
        rw [if_neg hz]
        split <;> rfl
      clear hq h3
      rw [Bool.true_and]
      by_cases h1 : x ≤ y
      · have d1 : decide (x ≤ y) = true := decide_eq_true h1
        clear h1
        by_cases h2 : y ≤ z
        · have d2 : decide (y ≤ z) = true := decide_eq_true h2
          clear h2
          have hS : ∀ n, Calls Try.prog 93 #[.int .i64 x, .int .i64 y, .int .i64 z] (w.drewN n) fun e w' => e = .returned (.bool ((spec_mkSolves.f x y z).getD false)) ∧ ∃ m, w' = w.drewN m :=
            fun n => Calls.quiet_of ((spec_mkSolves.calls x y z _ (w.drewN n) hs).mono fun _ _ h => ⟨h.1, h.2.out⟩)
          clear hs
          rw [d1, d2, Bool.true_and, Bool.true_and]
          generalize (spec_mkSolves.f x y z).getD false = r at hS ⊢
          go_enter Try.func57, Try.ntmps57
          go_wp2
          go_quiet ((first | (go_at_call 91; exact hA _) | (go_at_call 93; exact hS _)))
          go_wp2
          go_ret
          exact ⟨rfl, by repeat (first | exact Drawn0.refl _ | apply Drawn0.step)⟩
        · have d2 : decide (y ≤ z) = false := decide_eq_false h2
          clear h2 hs
          rw [d1, d2]
          go_enter Try.func57, Try.ntmps57
          go_wp2
          go_quiet ((go_at_call 91; exact hA _))
          go_wp2
          go_ret
          exact ⟨rfl, by repeat (first | exact Drawn0.refl _ | apply Drawn0.step)⟩
      · have d1 : decide (x ≤ y) = false := decide_eq_false h1
        clear h1 hs
        rw [d1]
        go_enter Try.func57, Try.ntmps57
        go_wp2
        go_quiet ((go_at_call 91; exact hA _))
        go_wp2
        go_ret
        exact ⟨rfl, by repeat (first | exact Drawn0.refl _ | apply Drawn0.step)⟩
  · have hd : ((l0.length : Int) == 3) = false := by simpa using (by omega : ¬ (l0.length : Int) = 3)
    have he : mkGoodB l0 = false := by
      unfold mkGoodB
      split
      · simp at h3
      · rfl
    rw [he]
    go_enter Try.func57, Try.ntmps57
    go_wp2
    repeat (go_quiet (fail); try go_wp2)
    go_ret
    exact ⟨rfl, by repeat (first | exact Drawn0.refl _ | apply Drawn0.step)⟩

/-- Three numbers in 0..p - 1, not all 0, that solve the equation modulo p. -/
def mkModB (p : Int) (l : List Int) : Bool := match l with
  | [x, y, z] => [x, y, z].all (allB 0 (wrap64 (p - 1))) && (!(wrap64 (wrap64 (x + y) + z) == 0) && (Int.tmod (wrap64 ((wrap64 ((wrap64 ((wrap64 (x * x)) + (wrap64 (y * y)))) + (wrap64 (z * z)))) - (wrap64 ((wrap64 ((wrap64 (3 * x)) * y)) * z)))) p == 0))
  | _ => false
def spec_mkMod.f (a0 : Int) (l1 : List Int) : Option Bool := some (mkModB a0 l1)

set_option maxHeartbeats 2000000 in
theorem spec_mkMod.calls (a0 : Int) (A1 : Option Addr) (c1 : Nat) (l1 : List Int) (r : Bool) (w : World) (hr1 : Kd.C (Kd.int .i64) w A1 l1.length l1) (hc1 : l1.length ≤ c1) (h : spec_mkMod.f a0 l1 = some r) :
    Calls Try.prog 61 #[.int .i64 a0, .slice A1 l1.length c1] w fun e w' => e = .returned (.bool r) ∧ Drawn0 w w' := by
  obtain rfl : mkModB a0 l1 = r := Option.some.inj h
  clear h
  by_cases h3 : l1.length = 3
  · obtain ⟨x, y, z, rfl⟩ : ∃ x y z, l1 = [x, y, z] := by
      match l1, h3 with
      | [x, y, z], _ => exact ⟨x, y, z, rfl⟩
    have hA : ∀ n, Calls Try.prog 91 #[.slice A1 [x, y, z].length c1, .int .i64 0, .int .i64 (wrap64 (a0 - 1))] (w.drewN n) fun e w' => e = .returned (.bool ([x, y, z].all (allB 0 (wrap64 (a0 - 1))))) ∧ ∃ m, w' = w.drewN m :=
      fun n => Calls.quiet_of ((l1All_all A1 c1 [x, y, z] 0 (wrap64 (a0 - 1)) (w.drewN n) (Kd.C_below hr1 (pw_below_drewN (Below.refl _ _) n)) hc1).mono fun _ _ h => ⟨h.1, h.2.out⟩)
    obtain ⟨ad, rfl, k0, k1, k2⟩ := three_cells hr1
    clear hr1
    change ∀ n, Calls _ _ #[.slice (some ad) 3 c1, _, _] _ _ at hA
    change Calls _ _ #[_, .slice (some ad) 3 c1] _ _
    have hm : mkModB a0 [x, y, z] = ([x, y, z].all (allB 0 (wrap64 (a0 - 1))) && (!(wrap64 (wrap64 (x + y) + z) == 0) && (Int.tmod (wrap64 ((wrap64 ((wrap64 ((wrap64 (x * x)) + (wrap64 (y * y)))) + (wrap64 (z * z)))) - (wrap64 ((wrap64 ((wrap64 (3 * x)) * y)) * z)))) a0 == 0))) := rfl
    rw [hm]
    clear hm
    cases hq : [x, y, z].all (allB 0 (wrap64 (a0 - 1))) with
    | false =>
      rw [hq] at hA
      rw [Bool.false_and]
      clear hq h3
      go_enter Try.func61, Try.ntmps61
      go_wp2
      go_quiet ((go_at_call 91; exact hA _))
      go_wp2
      go_ret
      exact ⟨rfl, by repeat (first | exact Drawn0.refl _ | apply Drawn0.step)⟩
    | true =>
      rw [hq] at hA
      have hp : ¬ a0 = 0 := by
        rintro rfl
        have h1 : wrap64 (0 - 1) = -1 := by unfold wrap64; omega
        rw [h1] at hq
        simp [allB] at hq
        omega
      have hp1 : (a0 == 0) = false := beq_eq_false_iff_ne.mpr hp
      clear hq h3
      rw [Bool.true_and]
      cases h1 : (wrap64 (wrap64 (x + y) + z) == 0) with
      | true =>
        go_enter Try.func61, Try.ntmps61
        go_wp2
        go_quiet ((go_at_call 91; exact hA _))
        go_wp2
        go_ret
        exact ⟨rfl, by repeat (first | exact Drawn0.refl _ | apply Drawn0.step)⟩
      | false =>
        rw [Bool.not_false, Bool.true_and]
        go_enter Try.func61, Try.ntmps61
        go_wp2
        go_quiet ((go_at_call 91; exact hA _))
        go_wp2
        repeat (go_quiet (fail); try go_wp2)
        go_ret
        exact ⟨rfl, by repeat (first | exact Drawn0.refl _ | apply Drawn0.step)⟩
  · have hd : ((l1.length : Int) == 3) = false := by simpa using (by omega : ¬ (l1.length : Int) = 3)
    have hd2 : ((l1.length : Int) != 3) = true := by simpa using (by omega : ¬ (l1.length : Int) = 3)
    have he : mkModB a0 l1 = false := by
      unfold mkModB
      split
      · simp at h3
      · rfl
    rw [he]
    go_enter Try.func61, Try.ntmps61
    go_wp2
    repeat (go_quiet (fail); try go_wp2)
    go_ret
    exact ⟨rfl, by repeat (first | exact Drawn0.refl _ | apply Drawn0.step)⟩

end Go.Proofs.Ythkmbkibceojlaa.P
