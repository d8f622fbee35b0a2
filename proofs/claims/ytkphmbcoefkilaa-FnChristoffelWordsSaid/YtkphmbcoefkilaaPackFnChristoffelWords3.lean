/- A Christoffel word has two factors in one way, is its own least turn, balanced, and has a centre that is the same backwards. No condition. -/
import Derived.Test.YtkphmbcoefkilaaPackFnChristoffelWords2
import Derived.Laws.BitsLemmas
-- PFspecChristoffelOf
namespace Go.Proofs.Ytkphmbcoefkilaa.P
open Go.RowKit Go.Proofs.YtkphmbcoefkilaaW.PrintWords Go.Proofs.YtkphmbcoefkilaaW.PrintLast
set_option linter.unusedVariables false
set_option linter.unusedSimpArgs false

/-! ### spec_ChristoffelOf: function 41 -/
def spec_ChristoffelOf.f (k : Nat) (a0 : Int) (a1 : Int) : Option (ByteArray × Bool) := (spec_l1In.f a0 0 40).bind fun t413 => (if t413 = true then ((spec_l1In.f a1 0 (wrap64 (40 - a0))).bind fun t414 => (if t414 = true then ((spec_foGcd.f k a0 a1).bind fun t415 => (if t415 = 1 then ((spec_chWord.f k a0 a1).bind fun t416 => (some (t416, true))) else (some ((⟨#[]⟩ : ByteArray), false)))) else (some ((⟨#[]⟩ : ByteArray), false)))) else (some ((⟨#[]⟩ : ByteArray), false)))
theorem spec_ChristoffelOf.mono : ∀ a0 a1 k, LeO (spec_ChristoffelOf.f k a0 a1) (spec_ChristoffelOf.f (k + 1) a0 a1) := by
 intro a0 a1 k
 unfold spec_ChristoffelOf.f
 repeat' first
   | (with_reducible exact spec_chWord.mono _ _ _)
   | (with_reducible exact spec_foGcd.mono _ _ _)
   | (with_reducible exact LeO.refl _)
   | (with_reducible exact LeO.none _)
   | (with_reducible refine LeO.ite ?_ ?_)
   | (with_reducible refine LeO.bind ?_ (fun _ => ?_))
   | exact spec_chWord.mono _ _ _
   | exact spec_foGcd.mono _ _ _
   | exact LeO.none _
   | refine LeO.ite ?_ ?_
   | refine LeO.bind ?_ (fun _ => ?_)
set_option maxHeartbeats 8000000 in
set_option maxRecDepth 100000 in
theorem spec_ChristoffelOf.calls (k : Nat) (a0 : Int) (a1 : Int) (r1 : ByteArray) (r2 : Bool) (w : World) (h : spec_ChristoffelOf.f k a0 a1 = some (r1, r2)) :
  Calls Try.prog 41 #[.int .i64 a0, .int .i64 a1] w fun e w' => e = .returned (.tuple #[.string r1, .bool r2]) ∧ Drawn0 w w' := by
 have H : ((spec_l1In.f a0 0 40).bind fun t413 => (if t413 = true then ((spec_l1In.f a1 0 (wrap64 (40 - a0))).bind fun t414 => (if t414 = true then ((spec_foGcd.f k a0 a1).bind fun t415 => (if t415 = 1 then ((spec_chWord.f k a0 a1).bind fun t416 => (some (t416, true))) else (some ((⟨#[]⟩ : ByteArray), false)))) else (some ((⟨#[]⟩ : ByteArray), false)))) else (some ((⟨#[]⟩ : ByteArray), false)))) = some (r1, r2) := h
 clear h
 replace H := Option.bind_eq_some_iff.mp H
 obtain ⟨t413, A30, H⟩ := H
 replace H : (if t413 = true then ((spec_l1In.f a1 0 (wrap64 (40 - a0))).bind fun t414 => (if t414 = true then ((spec_foGcd.f k a0 a1).bind fun t415 => (if t415 = 1 then ((spec_chWord.f k a0 a1).bind fun t416 => (some (t416, true))) else (some ((⟨#[]⟩ : ByteArray), false)))) else (some ((⟨#[]⟩ : ByteArray), false)))) else (some ((⟨#[]⟩ : ByteArray), false))) = some (r1, r2) := H
 have A3 := Aside0.mk A30
 clear A30
 by_cases c4 : t413 = true
 ·subst c4
  have H1 : ((spec_l1In.f a1 0 (wrap64 (40 - a0))).bind fun t414 => (if t414 = true then ((spec_foGcd.f k a0 a1).bind fun t415 => (if t415 = 1 then ((spec_chWord.f k a0 a1).bind fun t416 => (some (t416, true))) else (some ((⟨#[]⟩ : ByteArray), false)))) else (some ((⟨#[]⟩ : ByteArray), false)))) = some (r1, r2) := by rw [if_pos rfl] at H; exact H
  clear H
  have H := H1
  clear H1
  replace H := Option.bind_eq_some_iff.mp H
  obtain ⟨t414, A50, H⟩ := H
  replace H : (if t414 = true then ((spec_foGcd.f k a0 a1).bind fun t415 => (if t415 = 1 then ((spec_chWord.f k a0 a1).bind fun t416 => (some (t416, true))) else (some ((⟨#[]⟩ : ByteArray), false)))) else (some ((⟨#[]⟩ : ByteArray), false))) = some (r1, r2) := H
  have A5 := Aside0.mk A50
  clear A50
  by_cases c6 : t414 = true
  ·subst c6
   have H1 : ((spec_foGcd.f k a0 a1).bind fun t415 => (if t415 = 1 then ((spec_chWord.f k a0 a1).bind fun t416 => (some (t416, true))) else (some ((⟨#[]⟩ : ByteArray), false)))) = some (r1, r2) := by rw [if_pos rfl] at H; exact H
   clear H
   have H := H1
   clear H1
   replace H := Option.bind_eq_some_iff.mp H
   obtain ⟨t415, A70, H⟩ := H
   replace H : (if t415 = 1 then ((spec_chWord.f k a0 a1).bind fun t416 => (some (t416, true))) else (some ((⟨#[]⟩ : ByteArray), false))) = some (r1, r2) := H
   have A7 := Aside0.mk A70
   clear A70
   by_cases c8 : t415 = 1
   ·rw [if_pos c8] at H
    have c8b0 : (t415 == 1) = true := beq_iff_eq.mpr c8
    have c8b1 : (t415 != 1) = false := bne_eq_false_iff_eq.mpr c8
    clear c8
    replace H := Option.bind_eq_some_iff.mp H
    obtain ⟨t416, A90, H⟩ := H
    replace H : (some (t416, true)) = some (r1, r2) := H
    have A9 := Aside0.mk A90
    clear A90
    simp only [Option.some.injEq, Prod.mk.injEq] at H
    obtain ⟨rfl, rfl⟩ := H
    go_enter Try.func41, Try.ntmps41
    go_wp2_with (first | ((with_reducible refine gate_callee (f := 59) rfl ?_); refine goesL_ (some 7) rfl rfl Try.func59 (by kernel_rfl) rfl #[.int .i64 a0, .int .i64 0, .int .i64 40] rfl (by (try simp only [List.map_toArray, List.map_cons, List.map_nil]); first | done | rfl | (simp only [List.length_drop, List.length_take]; rfl)) ?_; (with_reducible refine (spec_l1In.calls a0 0 40 true _ A3.out).mono ?_); rintro e w' ⟨rfl, ⟨nd, rfl⟩⟩; refine ⟨_, rfl, ?_⟩) | (go_at_call 59; (with_reducible refine (spec_l1In.calls a1 0 (wrap64 (40 - a0)) true _ A5.out).mono ?_); rintro e w' ⟨rfl, ⟨nd, rfl⟩⟩) | (go_at_call 60; (with_reducible refine (spec_foGcd.calls k a0 a1 t415 _ A7.out).mono ?_); rintro e w' ⟨rfl, ⟨nd, rfl⟩⟩) | ((with_reducible refine gate_callee (f := 61) rfl ?_); refine goesL_ (some 24) rfl rfl Try.func61 (by kernel_rfl) rfl #[.int .i64 a0, .int .i64 a1] rfl (by (try simp only [List.map_toArray, List.map_cons, List.map_nil]); first | done | rfl | (simp only [List.length_drop, List.length_take]; rfl)) ?_; (with_reducible refine (spec_chWord.calls k a0 a1 t416 _ A9.out).mono ?_); rintro e w' ⟨rfl, ⟨nd, rfl⟩⟩; refine ⟨_, rfl, ?_⟩))
    go_ret2
    exact ⟨by first | rfl | (simp; done) | (simp [*]; done), by repeat (first | exact Drawn0.refl _ | apply Drawn0.step)⟩
   ·rw [if_neg c8] at H
    have c8b0 : (t415 == 1) = false := beq_eq_false_iff_ne.mpr c8
    have c8b1 : (t415 != 1) = true := bne_iff_ne.mpr c8
    simp only [Option.some.injEq, Prod.mk.injEq] at H
    obtain ⟨rfl, rfl⟩ := H
    go_enter Try.func41, Try.ntmps41
    go_wp2_with (first | ((with_reducible refine gate_callee (f := 59) rfl ?_); refine goesL_ (some 7) rfl rfl Try.func59 (by kernel_rfl) rfl #[.int .i64 a0, .int .i64 0, .int .i64 40] rfl (by (try simp only [List.map_toArray, List.map_cons, List.map_nil]); first | done | rfl | (simp only [List.length_drop, List.length_take]; rfl)) ?_; (with_reducible refine (spec_l1In.calls a0 0 40 true _ A3.out).mono ?_); rintro e w' ⟨rfl, ⟨nd, rfl⟩⟩; refine ⟨_, rfl, ?_⟩) | (go_at_call 59; (with_reducible refine (spec_l1In.calls a1 0 (wrap64 (40 - a0)) true _ A5.out).mono ?_); rintro e w' ⟨rfl, ⟨nd, rfl⟩⟩) | (go_at_call 60; (with_reducible refine (spec_foGcd.calls k a0 a1 t415 _ A7.out).mono ?_); rintro e w' ⟨rfl, ⟨nd, rfl⟩⟩))
    go_ret2
    exact ⟨by first | rfl | (simp; done) | (simp [*]; done), by repeat (first | exact Drawn0.refl _ | apply Drawn0.step)⟩
  ·replace c6 := Bool.eq_false_iff.mpr c6
   subst c6
   have H1 : (some ((⟨#[]⟩ : ByteArray), false)) = some (r1, r2) := by rw [if_neg (show ¬ (false = true) by decide)] at H; exact H
   clear H
   have H := H1
   clear H1
   simp only [Option.some.injEq, Prod.mk.injEq] at H
   obtain ⟨rfl, rfl⟩ := H
   go_enter Try.func41, Try.ntmps41
   go_wp2_with (first | ((with_reducible refine gate_callee (f := 59) rfl ?_); refine goesL_ (some 7) rfl rfl Try.func59 (by kernel_rfl) rfl #[.int .i64 a0, .int .i64 0, .int .i64 40] rfl (by (try simp only [List.map_toArray, List.map_cons, List.map_nil]); first | done | rfl | (simp only [List.length_drop, List.length_take]; rfl)) ?_; (with_reducible refine (spec_l1In.calls a0 0 40 true _ A3.out).mono ?_); rintro e w' ⟨rfl, ⟨nd, rfl⟩⟩; refine ⟨_, rfl, ?_⟩) | (go_at_call 59; (with_reducible refine (spec_l1In.calls a1 0 (wrap64 (40 - a0)) false _ A5.out).mono ?_); rintro e w' ⟨rfl, ⟨nd, rfl⟩⟩))
   go_ret2
   exact ⟨by first | rfl | (simp; done) | (simp [*]; done), by repeat (first | exact Drawn0.refl _ | apply Drawn0.step)⟩
 ·replace c4 := Bool.eq_false_iff.mpr c4
  subst c4
  have H1 : (some ((⟨#[]⟩ : ByteArray), false)) = some (r1, r2) := by rw [if_neg (show ¬ (false = true) by decide)] at H; exact H
  clear H
  have H := H1
  clear H1
  simp only [Option.some.injEq, Prod.mk.injEq] at H
  obtain ⟨rfl, rfl⟩ := H
  go_enter Try.func41, Try.ntmps41
  go_wp2_with (first | ((with_reducible refine gate_callee (f := 59) rfl ?_); refine goesL_ (some 7) rfl rfl Try.func59 (by kernel_rfl) rfl #[.int .i64 a0, .int .i64 0, .int .i64 40] rfl (by (try simp only [List.map_toArray, List.map_cons, List.map_nil]); first | done | rfl | (simp only [List.length_drop, List.length_take]; rfl)) ?_; (with_reducible refine (spec_l1In.calls a0 0 40 false _ A3.out).mono ?_); rintro e w' ⟨rfl, ⟨nd, rfl⟩⟩; refine ⟨_, rfl, ?_⟩))
  go_ret2
  exact ⟨by first | rfl | (simp; done) | (simp [*]; done), by repeat (first | exact Drawn0.refl _ | apply Drawn0.step)⟩

end Go.Proofs.Ytkphmbcoefkilaa.P

-- Uletters
namespace Go.Proofs.Ytkphmbcoefkilaa.P
set_option linter.unusedVariables false
set_option linter.unusedSimpArgs false
open Go.RowKit Go.Proofs.YtkphmbcoefkilaaW.PrintWords Go.Proofs.YtkphmbcoefkilaaW.PrintLast

/-- A text of 1 to 40 letters a and b. -/
def isLet (s : ByteArray) : Bool := decide (1 ≤ s.size) && (decide (s.size ≤ 40) && (bytesOf s).all (oneOf 97 98))
theorem bytes_drop (s : ByteArray) (i : Nat) (h : i < s.size) : (bytesOf s).drop i = bt s (i : Int) :: (bytesOf s).drop (i + 1) := by
  rw [rd_drop _ i (by rw [bytesOf_length]; exact h), rd_bytesOf]
theorem chLetters_from (s : ByteArray) (hn : s.size ≤ 4611686018427387904) (d : Nat) : ∀ i : Nat, i + d = s.size → Ev (fun k => spec_chLetters.l0 k s (i : Int)) (((bytesOf s).drop i).all (oneOf 97 98)) := by
  induction d with
  | zero =>
    intro i hi
    refine Ev.step (fun k => by simp only [spec_chLetters.l0]; rw [if_neg (by omega)]) ?_
    rw [List.drop_eq_nil_of_le (by rw [bytesOf_length]; omega)]
    exact Ev.is rfl
  | succ d ih =>
    intro i hi
    refine Ev.step (fun k => by simp only [spec_chLetters.l0]; rw [if_pos (by omega), if_pos (by omega), w64_succ (n := s.size) (by omega) hn]) ?_
    rw [bytes_drop s i (by omega), List.all_cons]
    by_cases h1 : bt s (i : Int) = 97
    · have e : oneOf 97 98 (bt s (i : Int)) = true := by simp [oneOf, h1]
      simp only [h1, if_true]
      rw [h1] at e
      rw [e, Bool.true_and]
      exact ih (i + 1) (by omega)
    · by_cases h2 : bt s (i : Int) = 98
      · have e : oneOf 97 98 (bt s (i : Int)) = true := by simp [oneOf, h2]
        simp only [h2, if_true, if_false]
        rw [h2] at e
        rw [e, Bool.true_and]
        exact ih (i + 1) (by omega)
      · have e : oneOf 97 98 (bt s (i : Int)) = false := by simp [oneOf, h1, h2]
        simp only [h1, h2, if_false]
        rw [e]
        exact Ev.is rfl
theorem chLetters_ev (s : ByteArray) : Ev (fun k => spec_chLetters.f k s) (isLet s) := by
  unfold spec_chLetters.f spec_l1In.f isLet
  by_cases h1 : 1 ≤ s.size
  · have e1 : (s.size : Int) ≥ 1 := by omega
    rw [decide_eq_true h1, Bool.true_and]
    by_cases h2 : s.size ≤ 40
    · have e2 : decide ((s.size : Int) ≤ 40) = true := decide_eq_true (by omega)
      simp only [e1, e2, if_true, Option.bind_some]
      rw [decide_eq_true h2, Bool.true_and]
      exact chLetters_from s (by omega) s.size 0 (by omega)
    · have e2 : decide ((s.size : Int) ≤ 40) = false := decide_eq_false (by omega)
      simp only [e1, e2, if_true, Option.bind_some]
      rw [decide_eq_false h2]
      exact Ev.is rfl
  · have e1 : ¬ (s.size : Int) ≥ 1 := by omega
    simp only [e1, if_false, Option.bind_some]
    rw [decide_eq_false h1]
    exact Ev.is rfl
theorem impl_IsLetters_is (s : ByteArray) : impl_IsLetters.f s = some (isLet s) := by
  unfold impl_IsLetters.f impl_isWord.f isLet
  have hl : s.toList.length = s.size := by rw [ByteArray.toList_eq, data_length]
  by_cases h1 : 1 ≤ s.size
  · have e : ¬ s.toList = [] := by
      intro h
      rw [h] at hl
      simp at hl
      omega
    rw [if_neg e, decide_eq_true h1, Bool.true_and]
    simp only [Option.bind_some]
    congr 2
    exact decide_eq_decide.2 (by omega)
  · have e : s.toList = [] := List.eq_nil_of_length_eq_zero (by omega)
    rw [if_pos e, decide_eq_false h1]
    rfl
end Go.Proofs.Ytkphmbcoefkilaa.P

-- Ugcd
namespace Go.Proofs.Ytkphmbcoefkilaa.P
set_option linter.unusedVariables false
set_option linter.unusedSimpArgs false
open Go.RowKit Go.Proofs.YtkphmbcoefkilaaW.PrintWords Go.Proofs.YtkphmbcoefkilaaW.PrintLast Go.Proofs.YtkphmbcoefkilaaW.PrintMore

theorem gcd_step (a b : Int) (h : ¬ b = 0) : Int.gcd a b = Int.gcd b (Int.tmod a b) := by
  unfold Int.gcd
  rw [Int.natAbs_tmod, Nat.gcd_comm a.natAbs, Nat.gcd_rec b.natAbs a.natAbs, Nat.gcd_comm]
theorem abs_both (a : Int) (h1 : -9223372036854775807 ≤ a) (h2 : a ≤ 9223372036854775807) : spec_l1Abs.f a = some (a.natAbs : Int) ∧ mx a (wrap64 (-a)) = (a.natAbs : Int) := by
  have hw : wrap64 (-a) = -a := w64 (by omega) (by omega)
  unfold spec_l1Abs.f spec_l1Most.f mx
  rw [hw]
  constructor
  · by_cases h : a > -a
    · simp only [h, if_true, Option.bind_some]
      congr 1
      omega
    · simp only [h, if_false, Option.bind_some]
      congr 1
      omega
  · by_cases h : a < -a
    · rw [if_pos h]; omega
    · rw [if_neg h]; omega
theorem gcd_both (d : Nat) : ∀ a b : Int, b.natAbs ≤ d → -9223372036854775807 ≤ a → a ≤ 9223372036854775807 → -9223372036854775807 ≤ b → b ≤ 9223372036854775807 →
    Ev (fun k => spec_foGcd.f k a b) (Int.gcd a b : Int) ∧ Ev (fun k => impl_divisor.l0 k a b) (Int.gcd a b : Int) := by
  induction d with
  | zero =>
    intro a b hb h1 h2 h3 h4
    obtain rfl : b = 0 := by omega
    obtain ⟨e1, e2⟩ := abs_both a h1 h2
    have e3 : (Int.gcd a 0 : Int) = (a.natAbs : Int) := by simp
    rw [e3]
    constructor
    · refine Ev.step (f := fun _ => some (a.natAbs : Int)) (fun k => ?_) (Ev.is rfl)
      simp only [spec_foGcd.f, if_true, e1, Option.bind_some]
    · refine Ev.step (f := fun _ => some (a.natAbs : Int)) (fun k => ?_) (Ev.is rfl)
      simp only [impl_divisor.l0, if_true, e2]
  | succ d ih =>
    intro a b hb h1 h2 h3 h4
    by_cases hz : b = 0
    · subst hz
      obtain ⟨e1, e2⟩ := abs_both a h1 h2
      have e3 : (Int.gcd a 0 : Int) = (a.natAbs : Int) := by simp
      rw [e3]
      constructor
      · refine Ev.step (f := fun _ => some (a.natAbs : Int)) (fun k => ?_) (Ev.is rfl)
        simp only [spec_foGcd.f, if_true, e1, Option.bind_some]
      · refine Ev.step (f := fun _ => some (a.natAbs : Int)) (fun k => ?_) (Ev.is rfl)
        simp only [impl_divisor.l0, if_true, e2]
    · have hn := Int.natAbs_tmod a b
      have hlt : a.natAbs % b.natAbs < b.natAbs := Nat.mod_lt _ (by omega)
      obtain ⟨i1, i2⟩ := ih b (Int.tmod a b) (by omega) h3 h4 (by omega) (by omega)
      rw [gcd_step a b hz]
      constructor
      · refine Ev.step (f := fun k => (spec_foGcd.f k b (Int.tmod a b)).bind fun t => some t) (fun k => ?_) (Ev.bind i1 (Ev.is rfl))
        simp only [spec_foGcd.f, hz, if_false]
      · refine Ev.step (f := fun k => impl_divisor.l0 k b (Int.tmod a b)) (fun k => ?_) i2
        simp only [impl_divisor.l0, hz, if_false]
theorem foGcd_ev (a b : Int) (h1 : -9223372036854775807 ≤ a) (h2 : a ≤ 9223372036854775807) (h3 : -9223372036854775807 ≤ b) (h4 : b ≤ 9223372036854775807) : Ev (fun k => spec_foGcd.f k a b) (Int.gcd a b : Int) :=
  (gcd_both b.natAbs a b (Nat.le_refl _) h1 h2 h3 h4).1
theorem divisor_ev (a b : Int) (h1 : -9223372036854775807 ≤ a) (h2 : a ≤ 9223372036854775807) (h3 : -9223372036854775807 ≤ b) (h4 : b ≤ 9223372036854775807) : Ev (fun k => impl_divisor.f k a b) (Int.gcd a b : Int) :=
  (gcd_both b.natAbs a b (Nat.le_refl _) h1 h2 h3 h4).2
end Go.Proofs.Ytkphmbcoefkilaa.P

-- Uchristoffel
namespace Go.Proofs.Ytkphmbcoefkilaa.P
set_option linter.unusedVariables false
set_option linter.unusedSimpArgs false
open Go.RowKit Go.Proofs.YtkphmbcoefkilaaW.PrintWords Go.Proofs.YtkphmbcoefkilaaW.PrintLast Go.Proofs.YtkphmbcoefkilaaW.PrintMore

/-- The letter with an index: 97 or 98. -/
def chLet (b n i : Int) : Int := if i * b / n = (i + 1) * b / n then 97 else 98
/-- The letters of a word, from one on. -/
def chLets (b n : Int) (i : Nat) : Nat → List Int
  | 0 => []
  | d + 1 => chLet b n i :: chLets b n (i + 1) d
theorem chLets_length (b n : Int) (d : Nat) : ∀ i, (chLets b n i d).length = d := by
  induction d with
  | zero => intro i; rfl
  | succ d ih => intro i; simp [chLets, ih]
theorem strOfNums_append (xs ys : List Int) : strOfNums xs ++ strOfNums ys = strOfNums (xs ++ ys) := by
  unfold strOfNums
  apply ByteArray.ext
  simp
theorem strOfNums_size (xs : List Int) : (strOfNums xs).size = xs.length := by
  unfold strOfNums
  simp [ByteArray.size]
theorem chWord_from (b : Int) (hb : 0 ≤ b ∧ b ≤ 40) (n : Nat) (hn : n ≤ 40) (d : Nat) : ∀ (i : Nat) (xs : List Int), i + d = n → xs.length = i → Ev (fun k => spec_chWord.l0 k b (n : Int) (strOfNums xs) (i : Int)) (strOfNums (xs ++ chLets b n i d)) := by
  induction d with
  | zero =>
    intro i xs hi hx
    refine Ev.step (f := fun _ => some (strOfNums xs)) (fun k => ?_) (Ev.is (by simp [chLets]))
    simp only [spec_chWord.l0]
    rw [if_neg (by omega)]
  | succ d ih =>
    intro i xs hi hx
    have b1 : 0 ≤ (i : Int) * b ∧ (i : Int) * b ≤ 40 * 40 := ⟨Int.mul_nonneg (by omega) hb.1, Int.mul_le_mul (by omega) hb.2 hb.1 (by omega)⟩
    have b2 : 0 ≤ ((i : Int) + 1) * b ∧ ((i : Int) + 1) * b ≤ 40 * 40 := ⟨Int.mul_nonneg (by omega) hb.1, Int.mul_le_mul (by omega) hb.2 hb.1 (by omega)⟩
    have w1 : wrap64 ((i : Int) * b) = i * b := w64 (by omega) (by omega)
    have w2 : wrap64 ((i : Int) + 1) = i + 1 := w64 (by omega) (by omega)
    have w3 : wrap64 (((i : Int) + 1) * b) = (i + 1) * b := w64 (by omega) (by omega)
    have t1 : Int.tdiv ((i : Int) * b) n = i * b / n := Int.tdiv_eq_ediv_of_nonneg b1.1
    have t2 : Int.tdiv (((i : Int) + 1) * b) n = (i + 1) * b / n := Int.tdiv_eq_ediv_of_nonneg b2.1
    have q1 : 0 ≤ (i : Int) * b / n := Int.ediv_nonneg b1.1 (by omega)
    have q2 : (i : Int) * b / n ≤ i * b := Int.ediv_le_self _ b1.1
    have q3 : 0 ≤ ((i : Int) + 1) * b / n := Int.ediv_nonneg b2.1 (by omega)
    have q4 : ((i : Int) + 1) * b / n ≤ (i + 1) * b := Int.ediv_le_self _ b2.1
    have w4 : wrap64 ((i : Int) * b / n) = i * b / n := w64 (by omega) (by omega)
    have w5 : wrap64 (((i : Int) + 1) * b / n) = (i + 1) * b / n := w64 (by omega) (by omega)
    have hs : (strOfNums xs).size + 1 ≤ 9223372036854775807 := by rw [strOfNums_size]; omega
    have hc : ((i : Int) + 1) = ((i + 1 : Nat) : Int) := by omega
    have a97 : strOfNums xs ++ (⟨#[97]⟩ : ByteArray) = strOfNums (xs ++ [97]) := strOfNums_append xs [97]
    have a98 : strOfNums xs ++ (⟨#[98]⟩ : ByteArray) = strOfNums (xs ++ [98]) := strOfNums_append xs [98]
    have e : xs ++ chLets b n i (d + 1) = (xs ++ [chLet b n i]) ++ chLets b n (i + 1) d := by simp [chLets]
    rw [e]
    refine Ev.step (f := fun k => spec_chWord.l0 k b (n : Int) (strOfNums (xs ++ [chLet b n i])) ((i + 1 : Nat) : Int)) (fun k => ?_) (ih (i + 1) _ (by omega) (by simp [hx]))
    simp only [spec_chWord.l0]
    rw [if_pos (by omega), if_neg (by omega), w1, w2, w3, t1, t2, w4, w5, if_pos hs, a97, a98]
    unfold chLet
    by_cases h : (i : Int) * b / n = (i + 1) * b / n
    · rw [if_pos h, if_pos h, hc]
    · rw [if_neg h, if_neg h, if_pos hs, hc]
theorem christoffel_from (b : Int) (hb : 0 ≤ b ∧ b ≤ 40) (n : Nat) (hn : n ≤ 40) (d : Nat) : ∀ (i : Nat) (xs : List Int), i + d = n → xs.length = i → Ev (fun k => impl_christoffel.l0 k b (n : Int) xs (n : Int) (i : Int)) (strOfNums (xs ++ chLets b n i d)) := by
  induction d with
  | zero =>
    intro i xs hi hx
    refine Ev.step (f := fun _ => some (strOfNums xs)) (fun k => ?_) (Ev.is (by simp [chLets]))
    simp only [impl_christoffel.l0]
    rw [if_neg (by omega)]
  | succ d ih =>
    intro i xs hi hx
    have b1 : 0 ≤ (i : Int) * b ∧ (i : Int) * b ≤ 40 * 40 := ⟨Int.mul_nonneg (by omega) hb.1, Int.mul_le_mul (by omega) hb.2 hb.1 (by omega)⟩
    have b2 : 0 ≤ ((i : Int) + 1) * b ∧ ((i : Int) + 1) * b ≤ 40 * 40 := ⟨Int.mul_nonneg (by omega) hb.1, Int.mul_le_mul (by omega) hb.2 hb.1 (by omega)⟩
    have w1 : wrap64 ((i : Int) * b) = i * b := w64 (by omega) (by omega)
    have w2 : wrap64 ((i : Int) + 1) = i + 1 := w64 (by omega) (by omega)
    have w3 : wrap64 (((i : Int) + 1) * b) = (i + 1) * b := w64 (by omega) (by omega)
    have t1 : Int.tdiv ((i : Int) * b) n = i * b / n := Int.tdiv_eq_ediv_of_nonneg b1.1
    have t2 : Int.tdiv (((i : Int) + 1) * b) n = (i + 1) * b / n := Int.tdiv_eq_ediv_of_nonneg b2.1
    have q1 : 0 ≤ (i : Int) * b / n := Int.ediv_nonneg b1.1 (by omega)
    have q2 : (i : Int) * b / n ≤ i * b := Int.ediv_le_self _ b1.1
    have q3 : 0 ≤ ((i : Int) + 1) * b / n := Int.ediv_nonneg b2.1 (by omega)
    have q4 : ((i : Int) + 1) * b / n ≤ (i + 1) * b := Int.ediv_le_self _ b2.1
    have w4 : wrap64 ((i : Int) * b / n) = i * b / n := w64 (by omega) (by omega)
    have w5 : wrap64 (((i : Int) + 1) * b / n) = (i + 1) * b / n := w64 (by omega) (by omega)
    have hs : xs.length < 140737488355328 := by omega
    have hc : ((i : Int) + 1) = ((i + 1 : Nat) : Int) := by omega
    have e : xs ++ chLets b n i (d + 1) = (xs ++ [chLet b n i]) ++ chLets b n (i + 1) d := by simp [chLets]
    rw [e]
    refine Ev.step (f := fun k => impl_christoffel.l0 k b (n : Int) (xs ++ [chLet b n i]) (n : Int) ((i + 1 : Nat) : Int)) (fun k => ?_) (ih (i + 1) _ (by omega) (by simp [hx]))
    simp only [impl_christoffel.l0]
    rw [if_pos (by omega), if_neg (by omega), w1, w2, w3, t1, t2, w4, w5]
    unfold chLet
    by_cases h : (i : Int) * b / n = (i + 1) * b / n
    · rw [if_pos h, if_pos h, if_pos hs, hc]
    · rw [if_neg h, if_neg h, if_pos hs, hc]
/-- The Christoffel word of so many letters. -/
def chText (a b : Int) : ByteArray := strOfNums (chLets b (a + b) 0 (a + b).toNat)
theorem chText_both (a b : Int) (ha : 0 ≤ a) (hb : 0 ≤ b) (hn : a + b ≤ 40) : Ev (fun k => spec_chWord.f k a b) (chText a b) ∧ Ev (fun k => impl_christoffel.f k a b) (chText a b) := by
  unfold spec_chWord.f impl_christoffel.f chText
  have hw : wrap64 (a + b) = (((a + b).toNat : Nat) : Int) := by rw [w64 (by omega) (by omega)]; omega
  have hc : (((a + b).toNat : Nat) : Int) = a + b := by omega
  rw [hw]
  have h1 := chWord_from b (by omega) (a + b).toNat (by omega) (a + b).toNat 0 [] (by omega) rfl
  have h2 := christoffel_from b (by omega) (a + b).toNat (by omega) (a + b).toNat 0 [] (by omega) rfl
  rw [List.nil_append, hc] at h1 h2
  rw [hc]
  exact ⟨h1, h2⟩
end Go.Proofs.Ytkphmbcoefkilaa.P

-- PFspecchTurns
namespace Go.Proofs.Ytkphmbcoefkilaa.P
open Go.RowKit Go.Proofs.YtkphmbcoefkilaaW.PrintWords Go.Proofs.YtkphmbcoefkilaaW.PrintLast
set_option linter.unusedVariables false
set_option linter.unusedSimpArgs false

/-! ### spec_chTurns: function 57 -/
mutual
def spec_chTurns.l0 : Nat → ByteArray → List ByteArray → Int → Option (List ByteArray)
 | 0, _, _, _ => none
 | k + 1, x0, x3, x4 => if x4 < (x0.size : Int) then (if 0 ≤ x4 then (if x4 ≤ (x0.size : Int) then (if (x0.extract (x4 : Int).toNat x0.size).size + (x0.extract 0 (x4 : Int).toNat).size ≤ 9223372036854775807 then (spec_chTurns.l1 k x0 x3 x4 ((x0.extract (x4 : Int).toNat x0.size) ++ (x0.extract 0 (x4 : Int).toNat)) 0) else (none)) else (none)) else (none)) else (some x3)
def spec_chTurns.l1 : Nat → ByteArray → List ByteArray → Int → ByteArray → Int → Option (List ByteArray)
 | 0, _, _, _, _, _ => none
 | k + 1, x0, x3, x4, x5, x6 => if x6 < (x3.length : Int) then (if 0 ≤ x6 then (if (Op.bytesLess ((rdOf ByteArray.empty x3 x6).toList) x5.toList) = true then (spec_chTurns.l1 k x0 x3 x4 x5 (wrap64 (x6 + 1))) else (if (rdOf ByteArray.empty x3 x6).toList = x5.toList then (spec_chTurns.l0 k x0 x3 (wrap64 (x4 + 1))) else ((some (([] : List ByteArray) : List ByteArray)).bind fun y192 => (if x6 ≤ (x3.length : Int) then ((some (x3.take (x6 : Int).toNat : List ByteArray)).bind fun y195 => (if y192.length + y195.length < 8796093022208 then ((some (y192 ++ y195 : List ByteArray)).bind fun y199 => (if y199.length < 8796093022208 then ((some (y199 ++ [x5] : List ByteArray)).bind fun y202 => ((some (x3.drop (x6 : Int).toNat : List ByteArray)).bind fun y205 => (if y202.length + y205.length < 8796093022208 then (spec_chTurns.l0 k x0 (y202 ++ y205) (wrap64 (x4 + 1))) else (none)))) else (none))) else (none))) else (none))))) else (none)) else ((some (([] : List ByteArray) : List ByteArray)).bind fun y212 => (if 0 ≤ x6 then (if x6 ≤ (x3.length : Int) then ((some (x3.take (x6 : Int).toNat : List ByteArray)).bind fun y215 => (if y212.length + y215.length < 8796093022208 then ((some (y212 ++ y215 : List ByteArray)).bind fun y219 => (if y219.length < 8796093022208 then ((some (y219 ++ [x5] : List ByteArray)).bind fun y222 => ((some (x3.drop (x6 : Int).toNat : List ByteArray)).bind fun y225 => (if y222.length + y225.length < 8796093022208 then (spec_chTurns.l0 k x0 (y222 ++ y225) (wrap64 (x4 + 1))) else (none)))) else (none))) else (none))) else (none)) else (none)))
end
def spec_chTurns.f (k : Nat) (a0 : ByteArray) : Option (List ByteArray) := spec_chTurns.l0 k a0 ([] : List ByteArray) 0
theorem spec_chTurns.mono_l : ∀ k, (∀ y0 y1 y2, LeO (spec_chTurns.l0 k y0 y1 y2) (spec_chTurns.l0 (k + 1) y0 y1 y2)) ∧ (∀ y0 y1 y2 y3 y4, LeO (spec_chTurns.l1 k y0 y1 y2 y3 y4) (spec_chTurns.l1 (k + 1) y0 y1 y2 y3 y4))
 | 0 => ⟨fun _ _ _ r h => by simp [spec_chTurns.l0] at h, fun _ _ _ _ _ r h => by simp [spec_chTurns.l1] at h⟩
 | k + 1 => by
  obtain ⟨ih0, ih1⟩ := spec_chTurns.mono_l k
  refine ⟨?_, ?_⟩
  ·intro y0 y1 y2
   unfold spec_chTurns.l0
   repeat' first
   | (with_reducible exact ih0 _ _ _)
   | (with_reducible exact ih1 _ _ _ _ _)
   | (with_reducible exact LeO.refl _)
   | (with_reducible exact LeO.none _)
   | (with_reducible refine LeO.ite ?_ ?_)
   | (with_reducible refine LeO.bind ?_ (fun _ => ?_))
   | exact ih0 _ _ _
   | exact ih1 _ _ _ _ _
   | exact LeO.none _
   | refine LeO.ite ?_ ?_
   | refine LeO.bind ?_ (fun _ => ?_)
  ·intro y0 y1 y2 y3 y4
   unfold spec_chTurns.l1
   repeat' first
   | (with_reducible exact ih0 _ _ _)
   | (with_reducible exact ih1 _ _ _ _ _)
   | (with_reducible exact LeO.refl _)
   | (with_reducible exact LeO.none _)
   | (with_reducible refine LeO.ite ?_ ?_)
   | (with_reducible refine LeO.bind ?_ (fun _ => ?_))
   | exact ih0 _ _ _
   | exact ih1 _ _ _ _ _
   | exact LeO.none _
   | refine LeO.ite ?_ ?_
   | refine LeO.bind ?_ (fun _ => ?_)
theorem spec_chTurns.mono : ∀ a0 k, LeO (spec_chTurns.f k a0) (spec_chTurns.f (k + 1) a0) := by
 intro a0 k
 obtain ⟨ih0, ih1⟩ := spec_chTurns.mono_l k
 unfold spec_chTurns.f
 repeat' first
   | (with_reducible exact ih0 _ _ _)
   | (with_reducible exact ih1 _ _ _ _ _)
   | (with_reducible exact LeO.refl _)
   | (with_reducible exact LeO.none _)
   | (with_reducible refine LeO.ite ?_ ?_)
   | (with_reducible refine LeO.bind ?_ (fun _ => ?_))
   | exact ih0 _ _ _
   | exact ih1 _ _ _ _ _
   | exact LeO.none _
   | refine LeO.ite ?_ ?_
   | refine LeO.bind ?_ (fun _ => ?_)
set_option maxHeartbeats 8000000 in
set_option maxRecDepth 100000 in
theorem spec_chTurns.calls (k : Nat) (a0 : ByteArray) (r : List ByteArray) (w : World) (h : spec_chTurns.f k a0 = some r) :
  Calls Try.prog 57 #[.string a0] w fun e w' => ∃ v0_ : Value, e = .returned (v0_) ∧ Kd.R Kd.string 9 w' w.heap.size (fun _ => True) v0_ r ∧ Below w.heap.size w w' := by
 have HB := Aside0.mk (Below.refl w.heap.size w)
 have H : (spec_chTurns.l0 k a0 ([] : List ByteArray) 0) = some r := h
 clear h
 have H' := Aside0.mk H
 clear H
 go_enter Try.func57, Try.ntmps57
 go_wp2
 repeat (go_quiet (fail); try go_wp2)
 go_loopg [3, 4] k (fun kq v3 v4 w' => ∃ (x3_1 : List ByteArray) (x4_1 : Int), v4 = .int .i64 x4_1 ∧ Aside0 (spec_chTurns.l0 kq a0 x3_1 x4_1 = some r) ∧ Aside0 (kq ≤ k) ∧ Aside0 (Kd.R Kd.string 9 w' w.heap.size (fun _ => True) v3 x3_1) ∧ Aside0 (Below w.heap.size w w'))
 case atStart => exact ⟨(([] : List ByteArray)), (0), (by first | rfl | (simp; done) | (simp [*]; done)), H', ⟨Nat.le_refl _⟩, ⟨by first | exact Kd.R_nil _ _ _ _ _ | exact Kd.N_nil _ _ _ _ _ | exact Kd.V_nil _ _ _ _ _ | exact Kd.Q_nil _ _ _ _ _ | exact Kd.S_nil _ _ _ _ _⟩, ⟨by repeat (first | (with_reducible first | exact HB.out | apply below_alloc | apply pw_below_drewN | apply below_drew1) | exact HB.out)⟩⟩
 case round =>
  clear H'
  obtain ⟨x3_1, x4_1, rfl, HA, HK1, HO_3, HB⟩ := hrel
  cases gk with
  | zero => exact absurd HA.out (by simp [spec_chTurns.l0])
  | succ k1 =>
   have H := HA.out
   clear HA
   simp only [spec_chTurns.l0] at H
   by_cases c2 : x4_1 < (a0.size : Int)
   ·rw [if_pos c2] at H
    have c2b0 : decide (x4_1 < (a0.size : Int)) = true := decide_eq_true c2
    clear c2
    by_cases c3 : 0 ≤ x4_1
    ·rw [if_pos c3] at H
     have c3b0 := eq_true c3
     have c3b1 : decide (0 ≤ x4_1) = true := decide_eq_true c3
     clear c3
     by_cases c4 : x4_1 ≤ (a0.size : Int)
     ·rw [if_pos c4] at H
      have c4b0 := eq_true c4
      have c4b1 : decide (x4_1 ≤ (a0.size : Int)) = true := decide_eq_true c4
      clear c4
      have c5b0 := eq_true (of_decide_eq_true (by first | (with_reducible assumption) | assumption) : 0 ≤ x4_1)
      have c6b0 := eq_true (of_decide_eq_true (by first | (with_reducible assumption) | assumption) : x4_1 ≤ (a0.size : Int))
      by_cases c7 : (a0.extract (x4_1 : Int).toNat a0.size).size + (a0.extract 0 (x4_1 : Int).toNat).size ≤ 9223372036854775807
      ·rw [if_pos c7] at H
       have c7b0 := eq_true c7
       have c7b1 : decide ((a0.extract (x4_1 : Int).toNat a0.size).size + (a0.extract 0 (x4_1 : Int).toNat).size ≤ 9223372036854775807) = true := decide_eq_true c7
       try have c7b2 : (9223372036854775807 < (a0.extract (x4_1 : Int).toNat a0.size).size + (a0.extract 0 (x4_1 : Int).toNat).size) = False := eq_false (Nat.not_lt.2 c7)
       try have c7b3 : (9223372036854775807 < a0.size) = False := eq_false (by have q1 : x4_1 ≤ (a0.size : Int) := of_decide_eq_true (by assumption); have := c7; simp only [ByteArray.size_extract] at this; omega)
       have H' := Aside0.mk H
       clear H
       go_wp2
       repeat (go_quiet (fail); try go_wp2)
       go_loopg [6] k1 (fun kq v6 w' => ∃ (x6_2 : Int), v6 = .int .i64 x6_2 ∧ Aside0 (spec_chTurns.l1 kq a0 x3_1 x4_1 ((a0.extract (x4_1 : Int).toNat a0.size) ++ (a0.extract 0 (x4_1 : Int).toNat)) x6_2 = some r) ∧ Aside0 (kq ≤ k1) ∧ Aside0 (Kd.R Kd.string 9 w' w.heap.size (fun _ => True) u3 x3_1) ∧ Aside0 (Below w.heap.size w w'))
       case atStart => exact ⟨(0), (by first | rfl | (simp; done) | (simp [*]; done)), H', ⟨Nat.le_refl _⟩, ⟨by (with_reducible repeat (first | apply Kd.R_alloc | apply Kd.R_drewN | apply Kd.R_drew)); exact HO_3.out⟩, ⟨by repeat (first | (with_reducible first | exact HB.out | apply below_alloc | apply pw_below_drewN | apply below_drew1) | exact HB.out)⟩⟩
       case round =>
        clear H'
        try clear c2
        try clear c2b0
        try clear p2
        try clear c3
        try clear c3b0
        try clear c3b1
        try clear c4
        try clear c4b0
        try clear c4b1
        try clear c5
        try clear c5b0
        try clear c6
        try clear c6b0
        try clear c7
        try clear c7b0
        try clear c7b1
        try clear c7b2
        obtain ⟨x6_2, rfl, HA, HK2, HO_3, HB⟩ := hrel
        cases gk with
        | zero => exact absurd HA.out (by simp [spec_chTurns.l1])
        | succ k2 =>
         have H := HA.out
         clear HA
         simp only [spec_chTurns.l1] at H
         by_cases c8 : x6_2 < (x3_1.length : Int)
         ·rw [if_pos c8] at H
          have c8b0 : decide (x6_2 < (x3_1.length : Int)) = true := decide_eq_true c8
          clear c8
          by_cases c9 : 0 ≤ x6_2
          ·rw [if_pos c9] at H
           have c9b0 : decide (0 ≤ x6_2) = true := decide_eq_true c9
           clear c9
           by_cases c10 : (Op.bytesLess ((rdOf ByteArray.empty x3_1 x6_2).toList) ((a0.extract (x4_1 : Int).toNat a0.size) ++ (a0.extract 0 (x4_1 : Int).toNat)).toList) = true
           ·rw [if_pos c10] at H
            have c10b0 : (Op.bytesLess ((rdOf ByteArray.empty x3_1 x6_2).toList) ((a0.extract (x4_1 : Int).toNat a0.size) ++ (a0.extract 0 (x4_1 : Int).toNat)).toList) = true := c10
            clear c10
            have H' := Aside0.mk H
            clear H
            obtain ⟨Ao11, co11, eo11⟩ := Kd.R_slice HO_3.out
            subst eo11
            have p190 : 0 ≤ (x6_2 : Int) := of_decide_eq_true (by first | (with_reducible assumption) | assumption)
            have q190 : x6_2 < (x3_1.length : Int) := of_decide_eq_true (by first | (with_reducible assumption) | assumption)
            obtain ⟨ad190, e190, hx190_0⟩ := Kd.at_string (Kd.R_reads' HO_3.out).2.2 x6_2 p190 q190
            cases e190
            replace p190 := eq_true p190
            replace q190 := eq_true q190
            go_wp2
            repeat (go_quiet (fail); try go_wp2)
            go_roundg k2
            case measure => have := HK1.out; have := HK2.out; omega
            case rel => exact ⟨(wrap64 (x6_2 + 1)), (by first | rfl | (simp; done) | (simp [*]; done)), H', ⟨by have := HK1.out; have := HK2.out; omega⟩, ⟨by (with_reducible repeat (first | apply Kd.R_alloc | apply Kd.R_drewN | apply Kd.R_drew)); exact HO_3.out⟩, ⟨by repeat (first | (with_reducible first | exact HB.out | apply below_alloc | apply pw_below_drewN | apply below_drew1) | exact HB.out)⟩⟩
           ·rw [if_neg c10] at H
            have c10b0 : (Op.bytesLess ((rdOf ByteArray.empty x3_1 x6_2).toList) ((a0.extract (x4_1 : Int).toNat a0.size) ++ (a0.extract 0 (x4_1 : Int).toNat)).toList) = false := by simpa using c10
            clear c10
            by_cases c12 : (rdOf ByteArray.empty x3_1 x6_2).toList = ((a0.extract (x4_1 : Int).toNat a0.size) ++ (a0.extract 0 (x4_1 : Int).toNat)).toList
            ·rw [if_pos c12] at H
             have c12b0 : ((rdOf ByteArray.empty x3_1 x6_2).toList == ((a0.extract (x4_1 : Int).toNat a0.size) ++ (a0.extract 0 (x4_1 : Int).toNat)).toList) = true := beq_iff_eq.mpr c12
             have c12b1 : ((rdOf ByteArray.empty x3_1 x6_2).toList != ((a0.extract (x4_1 : Int).toNat a0.size) ++ (a0.extract 0 (x4_1 : Int).toNat)).toList) = false := bne_eq_false_iff_eq.mpr c12
             clear c12
             have H' := Aside0.mk H
             clear H
             obtain ⟨Ao13, co13, eo13⟩ := Kd.R_slice HO_3.out
             subst eo13
             have p190 : 0 ≤ (x6_2 : Int) := of_decide_eq_true (by first | (with_reducible assumption) | assumption)
             have q190 : x6_2 < (x3_1.length : Int) := of_decide_eq_true (by first | (with_reducible assumption) | assumption)
             obtain ⟨ad190, e190, hx190_0⟩ := Kd.at_string (Kd.R_reads' HO_3.out).2.2 x6_2 p190 q190
             cases e190
             replace p190 := eq_true p190
             replace q190 := eq_true q190
             have p191 : 0 ≤ (x6_2 : Int) := of_decide_eq_true (by first | (with_reducible assumption) | assumption)
             have q191 : x6_2 < (x3_1.length : Int) := of_decide_eq_true (by first | (with_reducible assumption) | assumption)
             obtain ⟨ad191, e191, hx191_0⟩ := Kd.at_string (Kd.R_reads' HO_3.out).2.2 x6_2 p191 q191
             obtain rfl : ad190 = ad191 := (by injection e191)
             replace p191 := eq_true p191
             replace q191 := eq_true q191
             go_wp2
             repeat (go_quiet (fail); try go_wp2)
             go_roundg k2
             case measure => have := HK1.out; have := HK2.out; omega
             case rel => exact ⟨(x3_1), (wrap64 (x4_1 + 1)), (by first | rfl | (simp; done) | (simp [*]; done)), H', ⟨by have := HK1.out; have := HK2.out; omega⟩, ⟨by (with_reducible repeat (first | apply Kd.R_alloc | apply Kd.R_drewN | apply Kd.R_drew)); exact HO_3.out⟩, ⟨by repeat (first | (with_reducible first | exact HB.out | apply below_alloc | apply pw_below_drewN | apply below_drew1) | exact HB.out)⟩⟩
            ·rw [if_neg c12] at H
             have c12b0 : ((rdOf ByteArray.empty x3_1 x6_2).toList == ((a0.extract (x4_1 : Int).toNat a0.size) ++ (a0.extract 0 (x4_1 : Int).toNat)).toList) = false := beq_eq_false_iff_ne.mpr c12
             have c12b1 : ((rdOf ByteArray.empty x3_1 x6_2).toList != ((a0.extract (x4_1 : Int).toNat a0.size) ++ (a0.extract 0 (x4_1 : Int).toNat)).toList) = true := bne_iff_ne.mpr c12
             obtain ⟨y192, hy192⟩ : ∃ y_ : List ByteArray, y_ = (([] : List ByteArray)) := ⟨_, rfl⟩
             replace H : (if x6_2 ≤ (x3_1.length : Int) then ((some (x3_1.take (x6_2 : Int).toNat : List ByteArray)).bind fun y195 => (if y192.length + y195.length < 8796093022208 then ((some (y192 ++ y195 : List ByteArray)).bind fun y199 => (if y199.length < 8796093022208 then ((some (y199 ++ [((a0.extract (x4_1 : Int).toNat a0.size) ++ (a0.extract 0 (x4_1 : Int).toNat))] : List ByteArray)).bind fun y202 => ((some (x3_1.drop (x6_2 : Int).toNat : List ByteArray)).bind fun y205 => (if y202.length + y205.length < 8796093022208 then (spec_chTurns.l0 k2 a0 (y202 ++ y205) (wrap64 (x4_1 + 1))) else (none)))) else (none))) else (none))) else (none)) = some r := by first | (rw [hy192]; with_reducible exact H) | (have H2_ := (Option.bind_some _ _).symm.trans H; rw [hy192]; with_reducible exact H2_) | (have H2_ := (Option.bind_some _ _).symm.trans H; with_reducible exact H2_) | with_reducible exact H | (rw [hy192]; exact H) | exact H
             have Ny192 := Aside0.mk hy192
             clear hy192
             have c14b0 := eq_true (of_decide_eq_true (by first | (with_reducible assumption) | assumption) : 0 ≤ x6_2)
             by_cases c15 : x6_2 ≤ (x3_1.length : Int)
             ·rw [if_pos c15] at H
              have c15b0 := eq_true c15
              have c15b1 : decide (x6_2 ≤ (x3_1.length : Int)) = true := decide_eq_true c15
              clear c15
              obtain ⟨y195, hy195⟩ : ∃ y_ : List ByteArray, y_ = (x3_1.take (x6_2 : Int).toNat) := ⟨_, rfl⟩
              replace H : (if y192.length + y195.length < 8796093022208 then ((some (y192 ++ y195 : List ByteArray)).bind fun y199 => (if y199.length < 8796093022208 then ((some (y199 ++ [((a0.extract (x4_1 : Int).toNat a0.size) ++ (a0.extract 0 (x4_1 : Int).toNat))] : List ByteArray)).bind fun y202 => ((some (x3_1.drop (x6_2 : Int).toNat : List ByteArray)).bind fun y205 => (if y202.length + y205.length < 8796093022208 then (spec_chTurns.l0 k2 a0 (y202 ++ y205) (wrap64 (x4_1 + 1))) else (none)))) else (none))) else (none)) = some r := by first | (rw [hy195]; with_reducible exact H) | (have H2_ := (Option.bind_some _ _).symm.trans H; rw [hy195]; with_reducible exact H2_) | (have H2_ := (Option.bind_some _ _).symm.trans H; with_reducible exact H2_) | with_reducible exact H | (rw [hy195]; exact H) | exact H
              have Ny195 := Aside0.mk hy195
              clear hy195
              by_cases c16 : y192.length + y195.length < 8796093022208
              ·rw [if_pos c16] at H
               have LMc16 := Aside0.mk c16
               clear c16
               obtain ⟨y199, hy199⟩ : ∃ y_ : List ByteArray, y_ = (y192 ++ y195) := ⟨_, rfl⟩
               replace H : (if y199.length < 8796093022208 then ((some (y199 ++ [((a0.extract (x4_1 : Int).toNat a0.size) ++ (a0.extract 0 (x4_1 : Int).toNat))] : List ByteArray)).bind fun y202 => ((some (x3_1.drop (x6_2 : Int).toNat : List ByteArray)).bind fun y205 => (if y202.length + y205.length < 8796093022208 then (spec_chTurns.l0 k2 a0 (y202 ++ y205) (wrap64 (x4_1 + 1))) else (none)))) else (none)) = some r := by first | (rw [hy199]; with_reducible exact H) | (have H2_ := (Option.bind_some _ _).symm.trans H; rw [hy199]; with_reducible exact H2_) | (have H2_ := (Option.bind_some _ _).symm.trans H; with_reducible exact H2_) | with_reducible exact H | (rw [hy199]; exact H) | exact H
               have Ny199 := Aside0.mk hy199
               clear hy199
               by_cases c17 : y199.length < 8796093022208
               ·rw [if_pos c17] at H
                have LMc17 := Aside0.mk c17
                clear c17
                obtain ⟨y202, hy202⟩ : ∃ y_ : List ByteArray, y_ = (y199 ++ [((a0.extract (x4_1 : Int).toNat a0.size) ++ (a0.extract 0 (x4_1 : Int).toNat))]) := ⟨_, rfl⟩
                replace H : ((some (x3_1.drop (x6_2 : Int).toNat : List ByteArray)).bind fun y205 => (if y202.length + y205.length < 8796093022208 then (spec_chTurns.l0 k2 a0 (y202 ++ y205) (wrap64 (x4_1 + 1))) else (none))) = some r := by first | (rw [hy202]; with_reducible exact H) | (have H2_ := (Option.bind_some _ _).symm.trans H; rw [hy202]; with_reducible exact H2_) | (have H2_ := (Option.bind_some _ _).symm.trans H; with_reducible exact H2_) | with_reducible exact H | (rw [hy202]; exact H) | exact H
                have Ny202 := Aside0.mk hy202
                clear hy202
                have c18b0 := eq_true (of_decide_eq_true (by first | (with_reducible assumption) | assumption) : 0 ≤ x6_2)
                have c19b0 := eq_true (of_decide_eq_true (by first | (with_reducible assumption) | assumption) : x6_2 ≤ (x3_1.length : Int))
                obtain ⟨y205, hy205⟩ : ∃ y_ : List ByteArray, y_ = (x3_1.drop (x6_2 : Int).toNat) := ⟨_, rfl⟩
                replace H : (if y202.length + y205.length < 8796093022208 then (spec_chTurns.l0 k2 a0 (y202 ++ y205) (wrap64 (x4_1 + 1))) else (none)) = some r := by first | (rw [hy205]; with_reducible exact H) | (have H2_ := (Option.bind_some _ _).symm.trans H; rw [hy205]; with_reducible exact H2_) | (have H2_ := (Option.bind_some _ _).symm.trans H; with_reducible exact H2_) | with_reducible exact H | (rw [hy205]; exact H) | exact H
                have Ny205 := Aside0.mk hy205
                clear hy205
                by_cases c20 : y202.length + y205.length < 8796093022208
                ·rw [if_pos c20] at H
                 have LMc20 := Aside0.mk c20
                 clear c20
                 obtain ⟨y209, hy209⟩ : ∃ y_ : List ByteArray, y_ = (y202 ++ y205) := ⟨_, rfl⟩
                 replace H : (spec_chTurns.l0 k2 a0 y209 (wrap64 (x4_1 + 1))) = some r := by first | (rw [hy209]; with_reducible exact H) | (have H2_ := (Option.bind_some _ _).symm.trans H; rw [hy209]; with_reducible exact H2_) | (have H2_ := (Option.bind_some _ _).symm.trans H; with_reducible exact H2_) | with_reducible exact H | (rw [hy209]; exact H) | exact H
                 have Ny209 := Aside0.mk hy209
                 clear hy209
                 have H' := Aside0.mk H
                 clear H
                 obtain ⟨Ao21, co21, eo21⟩ := Kd.R_slice HO_3.out
                 subst eo21
                 have p190 : 0 ≤ (x6_2 : Int) := of_decide_eq_true (by first | (with_reducible assumption) | assumption)
                 have q190 : x6_2 < (x3_1.length : Int) := of_decide_eq_true (by first | (with_reducible assumption) | assumption)
                 obtain ⟨ad190, e190, hx190_0⟩ := Kd.at_string (Kd.R_reads' HO_3.out).2.2 x6_2 p190 q190
                 cases e190
                 replace p190 := eq_true p190
                 replace q190 := eq_true q190
                 have p191 : 0 ≤ (x6_2 : Int) := of_decide_eq_true (by first | (with_reducible assumption) | assumption)
                 have q191 : x6_2 < (x3_1.length : Int) := of_decide_eq_true (by first | (with_reducible assumption) | assumption)
                 obtain ⟨ad191, e191, hx191_0⟩ := Kd.at_string (Kd.R_reads' HO_3.out).2.2 x6_2 p191 q191
                 obtain rfl : ad190 = ad191 := (by injection e191)
                 replace p191 := eq_true p191
                 replace q191 := eq_true q191
                 go_wp2_with (first | ((with_reducible refine gate_dst (N := 47) rfl ?_); refine Kd.R_lit Kd.string _ 9 ?hg (N := 47) ?hd (xs := ([] : List ByteArray)) (inner := []) (ok := fun _ => True) (okp := fun _ => True) ?hr ?hp (fun _ hk => hk) trivial (Below.refl _ _) (Nat.le_refl _) (by simp) ?_; (case hd => rfl); (case hg => rfl); (case hr => first | (go_simp; done) | (go_simp; rfl)); (case hp => exact (Reps.none _ _)); intro v193 w22 ho23 hb hg_ hnew_; clear hg_ hnew_; (first | rw [← Ny192.out] at ho23 | (simp only [Int.reduceToNat] at ho23; rw [← Ny192.out] at ho23)); have n0_ := Aside0.mk (Kd.R_elder' (by (with_reducible repeat (first | apply Kd.R_alloc | apply Kd.R_drewN | apply Kd.R_drew)); exact HO_3.out) (Kd.R_base ho23) hb); have n1_ := Aside0.mk (Kd.R_lower (Kd.R_new' ho23 (Kd.R_lt (by (with_reducible repeat (first | apply Kd.R_alloc | apply Kd.R_drewN | apply Kd.R_drew)); exact HO_3.out))) (below_size (by repeat (first | (with_reducible first | exact HB.out | apply below_alloc | apply pw_below_drewN | apply below_drew1) | exact HB.out)))); have n2_ := Aside0.mk (below_step (by repeat (first | (with_reducible first | exact HB.out | apply below_alloc | apply pw_below_drewN | apply below_drew1) | exact HB.out)) hb); clear HO_3; clear HB; have HO_3 := n0_; have HO194 := n1_; have HB := n2_; clear n0_ n1_ n2_; clear hb ho23; have q24 : (x6_2 : Int) ≤ ((x3_1.length : Int) : Int) := of_decide_eq_true (by first | (with_reducible assumption) | assumption); obtain ⟨i024, hi024, _, hsz24, _⟩ := info_parts info9; have hroom24 : x3_1.length ≤ co21 := (Kd.R_reads' HO_3.out).2.1; have hC24 : Kd.C Kd.string _ (some ad190) x3_1.length x3_1 := (Kd.R_reads' HO_3.out).2.2; have hcut24 := cut_to (P := Try.prog) 31 9 .i64 Try.underlying31 hi024 (some ad190) x3_1.length co21 x6_2 (of_decide_eq_true (by first | (with_reducible assumption) | assumption)) q24 hroom24; have hr24 := Kd.C_take (m := (x6_2 : Int).toNat) hC24 (by omega); have hy24 : y195.length = (x6_2 : Int).toNat := (by rw [Ny195.out, List.length_take]; omega); rw [← Ny195.out] at hr24; rw [← hy24] at hcut24; have HR198 := Aside0.mk hr24; have HC198 := Aside0.mk (show y195.length ≤ co21 from by omega); clear hr24 hC24 hroom24 hi024 hsz24; have KY24 := Aside0.mk hy24; clear hy24; have KL24 := Aside0.mk (show (x6_2 : Int).toNat ≤ x3_1.length from by omega); replace q24 := eq_true q24) | ((with_reducible refine gate_builtin (b := .append) (xs := #[.tmp 47, .tmp 50]) rfl ?_); at_builtin; refine Kd.R_append_rows Kd.string (w0 := w) w.heap.size rfl (.tmp 47) (.tmp 50) 31 9 (.string ⟨#[]⟩) 16 rfl Try.underlying31 info9 rfl (by decide) (by omega) v193 y192 y195 _ _ _ (fun k_ => some k_ ≠ (.slice (some ad190) x3_1.length co21 : Value).ownBlock) (fun _ => False) rfl rfl ?aO ?aR (fun _ _ h => h) (fun _ h => h.elim) ?aF ?aB ?aS ?aL ?_; (case aR => repeat (first | exact (by repeat (first | (with_reducible exact HR198.out) | (with_reducible refine Kd.C_alloc ?_ _) | (with_reducible refine Kd.C_drewN ?_ _) | (with_reducible refine Kd.C_drew ?_) | exact HR198.out)) | (with_reducible refine Kd.C_alloc ?_ _) | (with_reducible refine Kd.C_drewN ?_ _) | (with_reducible refine Kd.C_drew ?_))); (case aB => exact (by repeat (first | (with_reducible first | exact HB.out | apply below_alloc | apply pw_below_drewN | apply below_drew1) | exact HB.out))); (case aF => exact (fun k_ hk => Kd.fresh' (Kd.R_lt (by (with_reducible repeat (first | apply Kd.R_alloc | apply Kd.R_drewN | apply Kd.R_drew)); exact HO_3.out)) k_ hk)); (case aO => exact (by (with_reducible repeat (first | apply Kd.R_alloc | apply Kd.R_drewN | apply Kd.R_drew)); exact Kd.R_mono HO194.out (fun _ hk => hk.2))); (case aS => exact (below_size (by repeat (first | (with_reducible first | exact HB.out | apply below_alloc | apply pw_below_drewN | apply below_drew1) | exact HB.out)))); (case aL => have := LMc16.out; omega); intro v200 w25 ho hb hg hat; rw [← Ny199.out] at ho; have n0_ := Aside0.mk (Kd.R_after (ok := (fun _ => True)) (by (with_reducible repeat (first | apply Kd.R_alloc | apply Kd.R_drewN | apply Kd.R_drew)); exact HO_3.out) hg hat); have n1_ := Aside0.mk (hb); have n2_ := Aside0.mk ((show Kd.C Kd.string w25 (some ad190) y195.length y195 from by rw [Ny195.out]; exact Kd.C_take (m := (x6_2 : Int).toNat) ((Kd.R_reads' (Kd.R_after (ok := (fun _ => True)) (by (with_reducible repeat (first | apply Kd.R_alloc | apply Kd.R_drewN | apply Kd.R_drew)); exact HO_3.out) hg hat)).2.2) KL24.out)); have n3_ := Aside0.mk (ho); clear HO_3; clear HB; clear HR198; clear HO194; have HO_3 := n0_; have HB := n1_; have HR198 := n2_; have HO201 := n3_; clear n0_ n1_ n2_ n3_; clear ho hb hg hat) | ((with_reducible refine gate_builtin (b := .append) (xs := #[.tmp 51, .tmp 53]) rfl ?_); at_builtin; refine Kd.R_append Kd.string (w0 := w) w.heap.size rfl (.tmp 51) (.tmp 53) 31 9 (.string ⟨#[]⟩) 16 rfl Try.underlying31 info9 rfl (by decide) (by omega) v200 y199 ((a0.extract (x4_1 : Int).toNat a0.size) ++ (a0.extract 0 (x4_1 : Int).toNat)) [.string ((a0.extract (x4_1 : Int).toNat a0.size) ++ (a0.extract 0 (x4_1 : Int).toNat))] (fun k_ => some k_ ≠ (.slice (some ad190) x3_1.length co21 : Value).ownBlock) (fun _ => False) rfl rfl ?aP (fun _ hk => hk.elim) ?aF ?aO ?aB ?aS ?aL ?_; (case aP => exact rfl); (case aB => exact (by repeat (first | (with_reducible first | exact HB.out | apply below_alloc | apply pw_below_drewN | apply below_drew1) | exact HB.out))); (case aF => exact (fun k_ hk => Kd.fresh' (Kd.R_lt (by (with_reducible repeat (first | apply Kd.R_alloc | apply Kd.R_drewN | apply Kd.R_drew)); exact HO_3.out)) k_ hk)); (case aO => exact (by (with_reducible repeat (first | apply Kd.R_alloc | apply Kd.R_drewN | apply Kd.R_drew)); exact HO201.out)); (case aS => exact (below_size (by repeat (first | (with_reducible first | exact HB.out | apply below_alloc | apply pw_below_drewN | apply below_drew1) | exact HB.out)))); (case aL => have := LMc17.out; omega); intro v203 w26 ho hb hg hat; rw [← Ny202.out] at ho; have n0_ := Aside0.mk (Kd.R_after (ok := (fun _ => True)) (by (with_reducible repeat (first | apply Kd.R_alloc | apply Kd.R_drewN | apply Kd.R_drew)); exact HO_3.out) hg hat); have n1_ := Aside0.mk (hb); have n2_ := Aside0.mk ((show Kd.C Kd.string w26 (some ad190) y195.length y195 from by rw [Ny195.out]; exact Kd.C_take (m := (x6_2 : Int).toNat) ((Kd.R_reads' (Kd.R_after (ok := (fun _ => True)) (by (with_reducible repeat (first | apply Kd.R_alloc | apply Kd.R_drewN | apply Kd.R_drew)); exact HO_3.out) hg hat)).2.2) KL24.out)); have n3_ := Aside0.mk (ho); clear HO_3; clear HB; clear HR198; clear HO201; have HO_3 := n0_; have HB := n1_; have HR198 := n2_; have HO204 := n3_; clear n0_ n1_ n2_ n3_; clear ho hb hg hat; have q27 : (x6_2 : Int) ≤ ((x3_1.length : Int) : Int) := of_decide_eq_true (by first | (with_reducible assumption) | assumption); obtain ⟨i027, hi027, _, hsz27, _⟩ := info_parts info9; have hroom27 : x3_1.length ≤ co21 := (Kd.R_reads' HO_3.out).2.1; have hC27 : Kd.C Kd.string _ (some ad190) x3_1.length x3_1 := (Kd.R_reads' HO_3.out).2.2; have q027 : (0 : Int) ≤ (x6_2 : Int) := of_decide_eq_true (by first | (with_reducible assumption) | assumption); have hcut27 := cut_from (P := Try.prog) 31 9 .i64 Try.underlying31 hi027 1 hsz27 (some ad190) x3_1.length co21 x6_2 q027 q27; have hr27 := Kd.C_drop (m := (x6_2 : Int).toNat) (c := co21) hC27 (by omega) hroom27; obtain ⟨A27, hA27⟩ : ∃ A1, A1 = (if co21 = (x6_2 : Int).toNat then (some ad190) else ((some ad190) : Option Addr).map (·.add ((x6_2 : Int).toNat * 1))) := ⟨_, rfl⟩; obtain ⟨c27, hc27⟩ : ∃ c1, c1 = co21 - (x6_2 : Int).toNat := ⟨_, rfl⟩; have hy27 : y205.length = x3_1.length - (x6_2 : Int).toNat := (by rw [Ny205.out, List.length_drop] <;> omega); rw [show (x3_1).drop (x6_2 : Int).toNat = y205 from Ny205.out.symm] at hr27; replace hr27 : Kd.C Kd.string _ A27 y205.length y205 := (by rw [hA27]; exact hr27); rw [← hy27, ← hA27, ← hc27] at hcut27; have HR208 := Aside0.mk hr27; have HC208 := Aside0.mk (show y205.length ≤ c27 from by rw [hy27, hc27]; exact Nat.sub_le_sub_right hroom27 _); clear hr27 hC27 hroom27 hi027 hsz27 hc27; have KY27 := Aside0.mk hy27; have KA27 := Aside0.mk hA27; clear hy27 hA27; have KL27 := Aside0.mk (show (x6_2 : Int).toNat ≤ x3_1.length from by omega); replace q27 := eq_true q27) | ((with_reducible refine gate_builtin (b := .append) (xs := #[.tmp 55, .tmp 58]) rfl ?_); at_builtin; refine Kd.R_append_rows Kd.string (w0 := w) w.heap.size rfl (.tmp 55) (.tmp 58) 31 9 (.string ⟨#[]⟩) 16 rfl Try.underlying31 info9 rfl (by decide) (by omega) v203 y202 y205 _ _ _ (fun k_ => some k_ ≠ (.slice (some ad190) x3_1.length co21 : Value).ownBlock) (fun _ => False) rfl rfl ?aO ?aR (fun _ _ h => h) (fun _ h => h.elim) ?aF ?aB ?aS ?aL ?_; (case aR => repeat (first | exact (by repeat (first | (with_reducible exact HR208.out) | (with_reducible refine Kd.C_alloc ?_ _) | (with_reducible refine Kd.C_drewN ?_ _) | (with_reducible refine Kd.C_drew ?_) | exact HR208.out)) | (with_reducible refine Kd.C_alloc ?_ _) | (with_reducible refine Kd.C_drewN ?_ _) | (with_reducible refine Kd.C_drew ?_))); (case aB => exact (by repeat (first | (with_reducible first | exact HB.out | apply below_alloc | apply pw_below_drewN | apply below_drew1) | exact HB.out))); (case aF => exact (fun k_ hk => Kd.fresh' (Kd.R_lt (by (with_reducible repeat (first | apply Kd.R_alloc | apply Kd.R_drewN | apply Kd.R_drew)); exact HO_3.out)) k_ hk)); (case aO => exact (by (with_reducible repeat (first | apply Kd.R_alloc | apply Kd.R_drewN | apply Kd.R_drew)); exact HO204.out)); (case aS => exact (below_size (by repeat (first | (with_reducible first | exact HB.out | apply below_alloc | apply pw_below_drewN | apply below_drew1) | exact HB.out)))); (case aL => have := LMc20.out; omega); intro v210 w28 ho hb hg hat; rw [← Ny209.out] at ho; have n0_ := Aside0.mk (Kd.R_after (ok := (fun _ => True)) (by (with_reducible repeat (first | apply Kd.R_alloc | apply Kd.R_drewN | apply Kd.R_drew)); exact HO_3.out) hg hat); have n1_ := Aside0.mk (hb); have n2_ := Aside0.mk ((show Kd.C Kd.string w28 (some ad190) y195.length y195 from by rw [Ny195.out]; exact Kd.C_take (m := (x6_2 : Int).toNat) ((Kd.R_reads' (Kd.R_after (ok := (fun _ => True)) (by (with_reducible repeat (first | apply Kd.R_alloc | apply Kd.R_drewN | apply Kd.R_drew)); exact HO_3.out) hg hat)).2.2) KL24.out)); have n3_ := Aside0.mk ((show Kd.C Kd.string w28 A27 y205.length y205 from by rw [Ny205.out, KA27.out]; exact Kd.C_drop (m := (x6_2 : Int).toNat) (c := co21) ((Kd.R_reads' (Kd.R_after (ok := (fun _ => True)) (by (with_reducible repeat (first | apply Kd.R_alloc | apply Kd.R_drewN | apply Kd.R_drew)); exact HO_3.out) hg hat)).2.2) KL27.out ((Kd.R_reads' (Kd.R_after (ok := (fun _ => True)) (by (with_reducible repeat (first | apply Kd.R_alloc | apply Kd.R_drewN | apply Kd.R_drew)); exact HO_3.out) hg hat)).2.1))); have n4_ := Aside0.mk (ho); clear HO_3; clear HB; clear HR198; clear HR208; clear HO204; have HO_3 := n0_; have HB := n1_; have HR198 := n2_; have HR208 := n3_; have HO211 := n4_; clear n0_ n1_ n2_ n3_ n4_; clear ho hb hg hat))
                 repeat (go_quiet (first | ((with_reducible refine gate_dst (N := 47) rfl ?_); refine Kd.R_lit Kd.string _ 9 ?hg (N := 47) ?hd (xs := ([] : List ByteArray)) (inner := []) (ok := fun _ => True) (okp := fun _ => True) ?hr ?hp (fun _ hk => hk) trivial (Below.refl _ _) (Nat.le_refl _) (by simp) ?_; (case hd => rfl); (case hg => rfl); (case hr => first | (go_simp; done) | (go_simp; rfl)); (case hp => exact (Reps.none _ _)); intro v193 w22 ho23 hb hg_ hnew_; clear hg_ hnew_; (first | rw [← Ny192.out] at ho23 | (simp only [Int.reduceToNat] at ho23; rw [← Ny192.out] at ho23)); have n0_ := Aside0.mk (Kd.R_elder' (by (with_reducible repeat (first | apply Kd.R_alloc | apply Kd.R_drewN | apply Kd.R_drew)); exact HO_3.out) (Kd.R_base ho23) hb); have n1_ := Aside0.mk (Kd.R_lower (Kd.R_new' ho23 (Kd.R_lt (by (with_reducible repeat (first | apply Kd.R_alloc | apply Kd.R_drewN | apply Kd.R_drew)); exact HO_3.out))) (below_size (by repeat (first | (with_reducible first | exact HB.out | apply below_alloc | apply pw_below_drewN | apply below_drew1) | exact HB.out)))); have n2_ := Aside0.mk (below_step (by repeat (first | (with_reducible first | exact HB.out | apply below_alloc | apply pw_below_drewN | apply below_drew1) | exact HB.out)) hb); clear HO_3; clear HB; have HO_3 := n0_; have HO194 := n1_; have HB := n2_; clear n0_ n1_ n2_; clear hb ho23; have q24 : (x6_2 : Int) ≤ ((x3_1.length : Int) : Int) := of_decide_eq_true (by first | (with_reducible assumption) | assumption); obtain ⟨i024, hi024, _, hsz24, _⟩ := info_parts info9; have hroom24 : x3_1.length ≤ co21 := (Kd.R_reads' HO_3.out).2.1; have hC24 : Kd.C Kd.string _ (some ad190) x3_1.length x3_1 := (Kd.R_reads' HO_3.out).2.2; have hcut24 := cut_to (P := Try.prog) 31 9 .i64 Try.underlying31 hi024 (some ad190) x3_1.length co21 x6_2 (of_decide_eq_true (by first | (with_reducible assumption) | assumption)) q24 hroom24; have hr24 := Kd.C_take (m := (x6_2 : Int).toNat) hC24 (by omega); have hy24 : y195.length = (x6_2 : Int).toNat := (by rw [Ny195.out, List.length_take]; omega); rw [← Ny195.out] at hr24; rw [← hy24] at hcut24; have HR198 := Aside0.mk hr24; have HC198 := Aside0.mk (show y195.length ≤ co21 from by omega); clear hr24 hC24 hroom24 hi024 hsz24; have KY24 := Aside0.mk hy24; clear hy24; have KL24 := Aside0.mk (show (x6_2 : Int).toNat ≤ x3_1.length from by omega); replace q24 := eq_true q24) | ((with_reducible refine gate_builtin (b := .append) (xs := #[.tmp 47, .tmp 50]) rfl ?_); at_builtin; refine Kd.R_append_rows Kd.string (w0 := w) w.heap.size rfl (.tmp 47) (.tmp 50) 31 9 (.string ⟨#[]⟩) 16 rfl Try.underlying31 info9 rfl (by decide) (by omega) v193 y192 y195 _ _ _ (fun k_ => some k_ ≠ (.slice (some ad190) x3_1.length co21 : Value).ownBlock) (fun _ => False) rfl rfl ?aO ?aR (fun _ _ h => h) (fun _ h => h.elim) ?aF ?aB ?aS ?aL ?_; (case aR => repeat (first | exact (by repeat (first | (with_reducible exact HR198.out) | (with_reducible refine Kd.C_alloc ?_ _) | (with_reducible refine Kd.C_drewN ?_ _) | (with_reducible refine Kd.C_drew ?_) | exact HR198.out)) | (with_reducible refine Kd.C_alloc ?_ _) | (with_reducible refine Kd.C_drewN ?_ _) | (with_reducible refine Kd.C_drew ?_))); (case aB => exact (by repeat (first | (with_reducible first | exact HB.out | apply below_alloc | apply pw_below_drewN | apply below_drew1) | exact HB.out))); (case aF => exact (fun k_ hk => Kd.fresh' (Kd.R_lt (by (with_reducible repeat (first | apply Kd.R_alloc | apply Kd.R_drewN | apply Kd.R_drew)); exact HO_3.out)) k_ hk)); (case aO => exact (by (with_reducible repeat (first | apply Kd.R_alloc | apply Kd.R_drewN | apply Kd.R_drew)); exact Kd.R_mono HO194.out (fun _ hk => hk.2))); (case aS => exact (below_size (by repeat (first | (with_reducible first | exact HB.out | apply below_alloc | apply pw_below_drewN | apply below_drew1) | exact HB.out)))); (case aL => have := LMc16.out; omega); intro v200 w25 ho hb hg hat; rw [← Ny199.out] at ho; have n0_ := Aside0.mk (Kd.R_after (ok := (fun _ => True)) (by (with_reducible repeat (first | apply Kd.R_alloc | apply Kd.R_drewN | apply Kd.R_drew)); exact HO_3.out) hg hat); have n1_ := Aside0.mk (hb); have n2_ := Aside0.mk ((show Kd.C Kd.string w25 (some ad190) y195.length y195 from by rw [Ny195.out]; exact Kd.C_take (m := (x6_2 : Int).toNat) ((Kd.R_reads' (Kd.R_after (ok := (fun _ => True)) (by (with_reducible repeat (first | apply Kd.R_alloc | apply Kd.R_drewN | apply Kd.R_drew)); exact HO_3.out) hg hat)).2.2) KL24.out)); have n3_ := Aside0.mk (ho); clear HO_3; clear HB; clear HR198; clear HO194; have HO_3 := n0_; have HB := n1_; have HR198 := n2_; have HO201 := n3_; clear n0_ n1_ n2_ n3_; clear ho hb hg hat) | ((with_reducible refine gate_builtin (b := .append) (xs := #[.tmp 51, .tmp 53]) rfl ?_); at_builtin; refine Kd.R_append Kd.string (w0 := w) w.heap.size rfl (.tmp 51) (.tmp 53) 31 9 (.string ⟨#[]⟩) 16 rfl Try.underlying31 info9 rfl (by decide) (by omega) v200 y199 ((a0.extract (x4_1 : Int).toNat a0.size) ++ (a0.extract 0 (x4_1 : Int).toNat)) [.string ((a0.extract (x4_1 : Int).toNat a0.size) ++ (a0.extract 0 (x4_1 : Int).toNat))] (fun k_ => some k_ ≠ (.slice (some ad190) x3_1.length co21 : Value).ownBlock) (fun _ => False) rfl rfl ?aP (fun _ hk => hk.elim) ?aF ?aO ?aB ?aS ?aL ?_; (case aP => exact rfl); (case aB => exact (by repeat (first | (with_reducible first | exact HB.out | apply below_alloc | apply pw_below_drewN | apply below_drew1) | exact HB.out))); (case aF => exact (fun k_ hk => Kd.fresh' (Kd.R_lt (by (with_reducible repeat (first | apply Kd.R_alloc | apply Kd.R_drewN | apply Kd.R_drew)); exact HO_3.out)) k_ hk)); (case aO => exact (by (with_reducible repeat (first | apply Kd.R_alloc | apply Kd.R_drewN | apply Kd.R_drew)); exact HO201.out)); (case aS => exact (below_size (by repeat (first | (with_reducible first | exact HB.out | apply below_alloc | apply pw_below_drewN | apply below_drew1) | exact HB.out)))); (case aL => have := LMc17.out; omega); intro v203 w26 ho hb hg hat; rw [← Ny202.out] at ho; have n0_ := Aside0.mk (Kd.R_after (ok := (fun _ => True)) (by (with_reducible repeat (first | apply Kd.R_alloc | apply Kd.R_drewN | apply Kd.R_drew)); exact HO_3.out) hg hat); have n1_ := Aside0.mk (hb); have n2_ := Aside0.mk ((show Kd.C Kd.string w26 (some ad190) y195.length y195 from by rw [Ny195.out]; exact Kd.C_take (m := (x6_2 : Int).toNat) ((Kd.R_reads' (Kd.R_after (ok := (fun _ => True)) (by (with_reducible repeat (first | apply Kd.R_alloc | apply Kd.R_drewN | apply Kd.R_drew)); exact HO_3.out) hg hat)).2.2) KL24.out)); have n3_ := Aside0.mk (ho); clear HO_3; clear HB; clear HR198; clear HO201; have HO_3 := n0_; have HB := n1_; have HR198 := n2_; have HO204 := n3_; clear n0_ n1_ n2_ n3_; clear ho hb hg hat; have q27 : (x6_2 : Int) ≤ ((x3_1.length : Int) : Int) := of_decide_eq_true (by first | (with_reducible assumption) | assumption); obtain ⟨i027, hi027, _, hsz27, _⟩ := info_parts info9; have hroom27 : x3_1.length ≤ co21 := (Kd.R_reads' HO_3.out).2.1; have hC27 : Kd.C Kd.string _ (some ad190) x3_1.length x3_1 := (Kd.R_reads' HO_3.out).2.2; have q027 : (0 : Int) ≤ (x6_2 : Int) := of_decide_eq_true (by first | (with_reducible assumption) | assumption); have hcut27 := cut_from (P := Try.prog) 31 9 .i64 Try.underlying31 hi027 1 hsz27 (some ad190) x3_1.length co21 x6_2 q027 q27; have hr27 := Kd.C_drop (m := (x6_2 : Int).toNat) (c := co21) hC27 (by omega) hroom27; obtain ⟨A27, hA27⟩ : ∃ A1, A1 = (if co21 = (x6_2 : Int).toNat then (some ad190) else ((some ad190) : Option Addr).map (·.add ((x6_2 : Int).toNat * 1))) := ⟨_, rfl⟩; obtain ⟨c27, hc27⟩ : ∃ c1, c1 = co21 - (x6_2 : Int).toNat := ⟨_, rfl⟩; have hy27 : y205.length = x3_1.length - (x6_2 : Int).toNat := (by rw [Ny205.out, List.length_drop] <;> omega); rw [show (x3_1).drop (x6_2 : Int).toNat = y205 from Ny205.out.symm] at hr27; replace hr27 : Kd.C Kd.string _ A27 y205.length y205 := (by rw [hA27]; exact hr27); rw [← hy27, ← hA27, ← hc27] at hcut27; have HR208 := Aside0.mk hr27; have HC208 := Aside0.mk (show y205.length ≤ c27 from by rw [hy27, hc27]; exact Nat.sub_le_sub_right hroom27 _); clear hr27 hC27 hroom27 hi027 hsz27 hc27; have KY27 := Aside0.mk hy27; have KA27 := Aside0.mk hA27; clear hy27 hA27; have KL27 := Aside0.mk (show (x6_2 : Int).toNat ≤ x3_1.length from by omega); replace q27 := eq_true q27) | ((with_reducible refine gate_builtin (b := .append) (xs := #[.tmp 55, .tmp 58]) rfl ?_); at_builtin; refine Kd.R_append_rows Kd.string (w0 := w) w.heap.size rfl (.tmp 55) (.tmp 58) 31 9 (.string ⟨#[]⟩) 16 rfl Try.underlying31 info9 rfl (by decide) (by omega) v203 y202 y205 _ _ _ (fun k_ => some k_ ≠ (.slice (some ad190) x3_1.length co21 : Value).ownBlock) (fun _ => False) rfl rfl ?aO ?aR (fun _ _ h => h) (fun _ h => h.elim) ?aF ?aB ?aS ?aL ?_; (case aR => repeat (first | exact (by repeat (first | (with_reducible exact HR208.out) | (with_reducible refine Kd.C_alloc ?_ _) | (with_reducible refine Kd.C_drewN ?_ _) | (with_reducible refine Kd.C_drew ?_) | exact HR208.out)) | (with_reducible refine Kd.C_alloc ?_ _) | (with_reducible refine Kd.C_drewN ?_ _) | (with_reducible refine Kd.C_drew ?_))); (case aB => exact (by repeat (first | (with_reducible first | exact HB.out | apply below_alloc | apply pw_below_drewN | apply below_drew1) | exact HB.out))); (case aF => exact (fun k_ hk => Kd.fresh' (Kd.R_lt (by (with_reducible repeat (first | apply Kd.R_alloc | apply Kd.R_drewN | apply Kd.R_drew)); exact HO_3.out)) k_ hk)); (case aO => exact (by (with_reducible repeat (first | apply Kd.R_alloc | apply Kd.R_drewN | apply Kd.R_drew)); exact HO204.out)); (case aS => exact (below_size (by repeat (first | (with_reducible first | exact HB.out | apply below_alloc | apply pw_below_drewN | apply below_drew1) | exact HB.out)))); (case aL => have := LMc20.out; omega); intro v210 w28 ho hb hg hat; rw [← Ny209.out] at ho; have n0_ := Aside0.mk (Kd.R_after (ok := (fun _ => True)) (by (with_reducible repeat (first | apply Kd.R_alloc | apply Kd.R_drewN | apply Kd.R_drew)); exact HO_3.out) hg hat); have n1_ := Aside0.mk (hb); have n2_ := Aside0.mk ((show Kd.C Kd.string w28 (some ad190) y195.length y195 from by rw [Ny195.out]; exact Kd.C_take (m := (x6_2 : Int).toNat) ((Kd.R_reads' (Kd.R_after (ok := (fun _ => True)) (by (with_reducible repeat (first | apply Kd.R_alloc | apply Kd.R_drewN | apply Kd.R_drew)); exact HO_3.out) hg hat)).2.2) KL24.out)); have n3_ := Aside0.mk ((show Kd.C Kd.string w28 A27 y205.length y205 from by rw [Ny205.out, KA27.out]; exact Kd.C_drop (m := (x6_2 : Int).toNat) (c := co21) ((Kd.R_reads' (Kd.R_after (ok := (fun _ => True)) (by (with_reducible repeat (first | apply Kd.R_alloc | apply Kd.R_drewN | apply Kd.R_drew)); exact HO_3.out) hg hat)).2.2) KL27.out ((Kd.R_reads' (Kd.R_after (ok := (fun _ => True)) (by (with_reducible repeat (first | apply Kd.R_alloc | apply Kd.R_drewN | apply Kd.R_drew)); exact HO_3.out) hg hat)).2.1))); have n4_ := Aside0.mk (ho); clear HO_3; clear HB; clear HR198; clear HR208; clear HO204; have HO_3 := n0_; have HB := n1_; have HR198 := n2_; have HR208 := n3_; have HO211 := n4_; clear n0_ n1_ n2_ n3_ n4_; clear ho hb hg hat)); try go_wp2_with (first | ((with_reducible refine gate_dst (N := 47) rfl ?_); refine Kd.R_lit Kd.string _ 9 ?hg (N := 47) ?hd (xs := ([] : List ByteArray)) (inner := []) (ok := fun _ => True) (okp := fun _ => True) ?hr ?hp (fun _ hk => hk) trivial (Below.refl _ _) (Nat.le_refl _) (by simp) ?_; (case hd => rfl); (case hg => rfl); (case hr => first | (go_simp; done) | (go_simp; rfl)); (case hp => exact (Reps.none _ _)); intro v193 w22 ho23 hb hg_ hnew_; clear hg_ hnew_; (first | rw [← Ny192.out] at ho23 | (simp only [Int.reduceToNat] at ho23; rw [← Ny192.out] at ho23)); have n0_ := Aside0.mk (Kd.R_elder' (by (with_reducible repeat (first | apply Kd.R_alloc | apply Kd.R_drewN | apply Kd.R_drew)); exact HO_3.out) (Kd.R_base ho23) hb); have n1_ := Aside0.mk (Kd.R_lower (Kd.R_new' ho23 (Kd.R_lt (by (with_reducible repeat (first | apply Kd.R_alloc | apply Kd.R_drewN | apply Kd.R_drew)); exact HO_3.out))) (below_size (by repeat (first | (with_reducible first | exact HB.out | apply below_alloc | apply pw_below_drewN | apply below_drew1) | exact HB.out)))); have n2_ := Aside0.mk (below_step (by repeat (first | (with_reducible first | exact HB.out | apply below_alloc | apply pw_below_drewN | apply below_drew1) | exact HB.out)) hb); clear HO_3; clear HB; have HO_3 := n0_; have HO194 := n1_; have HB := n2_; clear n0_ n1_ n2_; clear hb ho23; have q24 : (x6_2 : Int) ≤ ((x3_1.length : Int) : Int) := of_decide_eq_true (by first | (with_reducible assumption) | assumption); obtain ⟨i024, hi024, _, hsz24, _⟩ := info_parts info9; have hroom24 : x3_1.length ≤ co21 := (Kd.R_reads' HO_3.out).2.1; have hC24 : Kd.C Kd.string _ (some ad190) x3_1.length x3_1 := (Kd.R_reads' HO_3.out).2.2; have hcut24 := cut_to (P := Try.prog) 31 9 .i64 Try.underlying31 hi024 (some ad190) x3_1.length co21 x6_2 (of_decide_eq_true (by first | (with_reducible assumption) | assumption)) q24 hroom24; have hr24 := Kd.C_take (m := (x6_2 : Int).toNat) hC24 (by omega); have hy24 : y195.length = (x6_2 : Int).toNat := (by rw [Ny195.out, List.length_take]; omega); rw [← Ny195.out] at hr24; rw [← hy24] at hcut24; have HR198 := Aside0.mk hr24; have HC198 := Aside0.mk (show y195.length ≤ co21 from by omega); clear hr24 hC24 hroom24 hi024 hsz24; have KY24 := Aside0.mk hy24; clear hy24; have KL24 := Aside0.mk (show (x6_2 : Int).toNat ≤ x3_1.length from by omega); replace q24 := eq_true q24) | ((with_reducible refine gate_builtin (b := .append) (xs := #[.tmp 47, .tmp 50]) rfl ?_); at_builtin; refine Kd.R_append_rows Kd.string (w0 := w) w.heap.size rfl (.tmp 47) (.tmp 50) 31 9 (.string ⟨#[]⟩) 16 rfl Try.underlying31 info9 rfl (by decide) (by omega) v193 y192 y195 _ _ _ (fun k_ => some k_ ≠ (.slice (some ad190) x3_1.length co21 : Value).ownBlock) (fun _ => False) rfl rfl ?aO ?aR (fun _ _ h => h) (fun _ h => h.elim) ?aF ?aB ?aS ?aL ?_; (case aR => repeat (first | exact (by repeat (first | (with_reducible exact HR198.out) | (with_reducible refine Kd.C_alloc ?_ _) | (with_reducible refine Kd.C_drewN ?_ _) | (with_reducible refine Kd.C_drew ?_) | exact HR198.out)) | (with_reducible refine Kd.C_alloc ?_ _) | (with_reducible refine Kd.C_drewN ?_ _) | (with_reducible refine Kd.C_drew ?_))); (case aB => exact (by repeat (first | (with_reducible first | exact HB.out | apply below_alloc | apply pw_below_drewN | apply below_drew1) | exact HB.out))); (case aF => exact (fun k_ hk => Kd.fresh' (Kd.R_lt (by (with_reducible repeat (first | apply Kd.R_alloc | apply Kd.R_drewN | apply Kd.R_drew)); exact HO_3.out)) k_ hk)); (case aO => exact (by (with_reducible repeat (first | apply Kd.R_alloc | apply Kd.R_drewN | apply Kd.R_drew)); exact Kd.R_mono HO194.out (fun _ hk => hk.2))); (case aS => exact (below_size (by repeat (first | (with_reducible first | exact HB.out | apply below_alloc | apply pw_below_drewN | apply below_drew1) | exact HB.out)))); (case aL => have := LMc16.out; omega); intro v200 w25 ho hb hg hat; rw [← Ny199.out] at ho; have n0_ := Aside0.mk (Kd.R_after (ok := (fun _ => True)) (by (with_reducible repeat (first | apply Kd.R_alloc | apply Kd.R_drewN | apply Kd.R_drew)); exact HO_3.out) hg hat); have n1_ := Aside0.mk (hb); have n2_ := Aside0.mk ((show Kd.C Kd.string w25 (some ad190) y195.length y195 from by rw [Ny195.out]; exact Kd.C_take (m := (x6_2 : Int).toNat) ((Kd.R_reads' (Kd.R_after (ok := (fun _ => True)) (by (with_reducible repeat (first | apply Kd.R_alloc | apply Kd.R_drewN | apply Kd.R_drew)); exact HO_3.out) hg hat)).2.2) KL24.out)); have n3_ := Aside0.mk (ho); clear HO_3; clear HB; clear HR198; clear HO194; have HO_3 := n0_; have HB := n1_; have HR198 := n2_; have HO201 := n3_; clear n0_ n1_ n2_ n3_; clear ho hb hg hat) | ((with_reducible refine gate_builtin (b := .append) (xs := #[.tmp 51, .tmp 53]) rfl ?_); at_builtin; refine Kd.R_append Kd.string (w0 := w) w.heap.size rfl (.tmp 51) (.tmp 53) 31 9 (.string ⟨#[]⟩) 16 rfl Try.underlying31 info9 rfl (by decide) (by omega) v200 y199 ((a0.extract (x4_1 : Int).toNat a0.size) ++ (a0.extract 0 (x4_1 : Int).toNat)) [.string ((a0.extract (x4_1 : Int).toNat a0.size) ++ (a0.extract 0 (x4_1 : Int).toNat))] (fun k_ => some k_ ≠ (.slice (some ad190) x3_1.length co21 : Value).ownBlock) (fun _ => False) rfl rfl ?aP (fun _ hk => hk.elim) ?aF ?aO ?aB ?aS ?aL ?_; (case aP => exact rfl); (case aB => exact (by repeat (first | (with_reducible first | exact HB.out | apply below_alloc | apply pw_below_drewN | apply below_drew1) | exact HB.out))); (case aF => exact (fun k_ hk => Kd.fresh' (Kd.R_lt (by (with_reducible repeat (first | apply Kd.R_alloc | apply Kd.R_drewN | apply Kd.R_drew)); exact HO_3.out)) k_ hk)); (case aO => exact (by (with_reducible repeat (first | apply Kd.R_alloc | apply Kd.R_drewN | apply Kd.R_drew)); exact HO201.out)); (case aS => exact (below_size (by repeat (first | (with_reducible first | exact HB.out | apply below_alloc | apply pw_below_drewN | apply below_drew1) | exact HB.out)))); (case aL => have := LMc17.out; omega); intro v203 w26 ho hb hg hat; rw [← Ny202.out] at ho; have n0_ := Aside0.mk (Kd.R_after (ok := (fun _ => True)) (by (with_reducible repeat (first | apply Kd.R_alloc | apply Kd.R_drewN | apply Kd.R_drew)); exact HO_3.out) hg hat); have n1_ := Aside0.mk (hb); have n2_ := Aside0.mk ((show Kd.C Kd.string w26 (some ad190) y195.length y195 from by rw [Ny195.out]; exact Kd.C_take (m := (x6_2 : Int).toNat) ((Kd.R_reads' (Kd.R_after (ok := (fun _ => True)) (by (with_reducible repeat (first | apply Kd.R_alloc | apply Kd.R_drewN | apply Kd.R_drew)); exact HO_3.out) hg hat)).2.2) KL24.out)); have n3_ := Aside0.mk (ho); clear HO_3; clear HB; clear HR198; clear HO201; have HO_3 := n0_; have HB := n1_; have HR198 := n2_; have HO204 := n3_; clear n0_ n1_ n2_ n3_; clear ho hb hg hat; have q27 : (x6_2 : Int) ≤ ((x3_1.length : Int) : Int) := of_decide_eq_true (by first | (with_reducible assumption) | assumption); obtain ⟨i027, hi027, _, hsz27, _⟩ := info_parts info9; have hroom27 : x3_1.length ≤ co21 := (Kd.R_reads' HO_3.out).2.1; have hC27 : Kd.C Kd.string _ (some ad190) x3_1.length x3_1 := (Kd.R_reads' HO_3.out).2.2; have q027 : (0 : Int) ≤ (x6_2 : Int) := of_decide_eq_true (by first | (with_reducible assumption) | assumption); have hcut27 := cut_from (P := Try.prog) 31 9 .i64 Try.underlying31 hi027 1 hsz27 (some ad190) x3_1.length co21 x6_2 q027 q27; have hr27 := Kd.C_drop (m := (x6_2 : Int).toNat) (c := co21) hC27 (by omega) hroom27; obtain ⟨A27, hA27⟩ : ∃ A1, A1 = (if co21 = (x6_2 : Int).toNat then (some ad190) else ((some ad190) : Option Addr).map (·.add ((x6_2 : Int).toNat * 1))) := ⟨_, rfl⟩; obtain ⟨c27, hc27⟩ : ∃ c1, c1 = co21 - (x6_2 : Int).toNat := ⟨_, rfl⟩; have hy27 : y205.length = x3_1.length - (x6_2 : Int).toNat := (by rw [Ny205.out, List.length_drop] <;> omega); rw [show (x3_1).drop (x6_2 : Int).toNat = y205 from Ny205.out.symm] at hr27; replace hr27 : Kd.C Kd.string _ A27 y205.length y205 := (by rw [hA27]; exact hr27); rw [← hy27, ← hA27, ← hc27] at hcut27; have HR208 := Aside0.mk hr27; have HC208 := Aside0.mk (show y205.length ≤ c27 from by rw [hy27, hc27]; exact Nat.sub_le_sub_right hroom27 _); clear hr27 hC27 hroom27 hi027 hsz27 hc27; have KY27 := Aside0.mk hy27; have KA27 := Aside0.mk hA27; clear hy27 hA27; have KL27 := Aside0.mk (show (x6_2 : Int).toNat ≤ x3_1.length from by omega); replace q27 := eq_true q27) | ((with_reducible refine gate_builtin (b := .append) (xs := #[.tmp 55, .tmp 58]) rfl ?_); at_builtin; refine Kd.R_append_rows Kd.string (w0 := w) w.heap.size rfl (.tmp 55) (.tmp 58) 31 9 (.string ⟨#[]⟩) 16 rfl Try.underlying31 info9 rfl (by decide) (by omega) v203 y202 y205 _ _ _ (fun k_ => some k_ ≠ (.slice (some ad190) x3_1.length co21 : Value).ownBlock) (fun _ => False) rfl rfl ?aO ?aR (fun _ _ h => h) (fun _ h => h.elim) ?aF ?aB ?aS ?aL ?_; (case aR => repeat (first | exact (by repeat (first | (with_reducible exact HR208.out) | (with_reducible refine Kd.C_alloc ?_ _) | (with_reducible refine Kd.C_drewN ?_ _) | (with_reducible refine Kd.C_drew ?_) | exact HR208.out)) | (with_reducible refine Kd.C_alloc ?_ _) | (with_reducible refine Kd.C_drewN ?_ _) | (with_reducible refine Kd.C_drew ?_))); (case aB => exact (by repeat (first | (with_reducible first | exact HB.out | apply below_alloc | apply pw_below_drewN | apply below_drew1) | exact HB.out))); (case aF => exact (fun k_ hk => Kd.fresh' (Kd.R_lt (by (with_reducible repeat (first | apply Kd.R_alloc | apply Kd.R_drewN | apply Kd.R_drew)); exact HO_3.out)) k_ hk)); (case aO => exact (by (with_reducible repeat (first | apply Kd.R_alloc | apply Kd.R_drewN | apply Kd.R_drew)); exact HO204.out)); (case aS => exact (below_size (by repeat (first | (with_reducible first | exact HB.out | apply below_alloc | apply pw_below_drewN | apply below_drew1) | exact HB.out)))); (case aL => have := LMc20.out; omega); intro v210 w28 ho hb hg hat; rw [← Ny209.out] at ho; have n0_ := Aside0.mk (Kd.R_after (ok := (fun _ => True)) (by (with_reducible repeat (first | apply Kd.R_alloc | apply Kd.R_drewN | apply Kd.R_drew)); exact HO_3.out) hg hat); have n1_ := Aside0.mk (hb); have n2_ := Aside0.mk ((show Kd.C Kd.string w28 (some ad190) y195.length y195 from by rw [Ny195.out]; exact Kd.C_take (m := (x6_2 : Int).toNat) ((Kd.R_reads' (Kd.R_after (ok := (fun _ => True)) (by (with_reducible repeat (first | apply Kd.R_alloc | apply Kd.R_drewN | apply Kd.R_drew)); exact HO_3.out) hg hat)).2.2) KL24.out)); have n3_ := Aside0.mk ((show Kd.C Kd.string w28 A27 y205.length y205 from by rw [Ny205.out, KA27.out]; exact Kd.C_drop (m := (x6_2 : Int).toNat) (c := co21) ((Kd.R_reads' (Kd.R_after (ok := (fun _ => True)) (by (with_reducible repeat (first | apply Kd.R_alloc | apply Kd.R_drewN | apply Kd.R_drew)); exact HO_3.out) hg hat)).2.2) KL27.out ((Kd.R_reads' (Kd.R_after (ok := (fun _ => True)) (by (with_reducible repeat (first | apply Kd.R_alloc | apply Kd.R_drewN | apply Kd.R_drew)); exact HO_3.out) hg hat)).2.1))); have n4_ := Aside0.mk (ho); clear HO_3; clear HB; clear HR198; clear HR208; clear HO204; have HO_3 := n0_; have HB := n1_; have HR198 := n2_; have HR208 := n3_; have HO211 := n4_; clear n0_ n1_ n2_ n3_ n4_; clear ho hb hg hat)))
                 go_roundg k2
                 case measure => have := HK1.out; have := HK2.out; omega
                 case rel => exact ⟨(y209), (wrap64 (x4_1 + 1)), (by first | rfl | (simp; done) | (simp [*]; done)), H', ⟨by have := HK1.out; have := HK2.out; omega⟩, ⟨by (with_reducible repeat (first | apply Kd.R_alloc | apply Kd.R_drewN | apply Kd.R_drew)); exact Kd.R_mono HO211.out (fun _ hk => trivial)⟩, ⟨by repeat (first | (with_reducible first | exact HB.out | apply below_alloc | apply pw_below_drewN | apply below_drew1) | exact HB.out)⟩⟩
                ·rw [if_neg c20] at H
                 exact absurd H (by simp)
               ·rw [if_neg c17] at H
                exact absurd H (by simp)
              ·rw [if_neg c16] at H
               exact absurd H (by simp)
             ·rw [if_neg c15] at H
              exact absurd H (by simp)
          ·rw [if_neg c9] at H
           exact absurd H (by simp)
         ·rw [if_neg c8] at H
          have c8b0 : decide (x6_2 < (x3_1.length : Int)) = false := decide_eq_false c8
          clear c8
          obtain ⟨y212, hy212⟩ : ∃ y_ : List ByteArray, y_ = (([] : List ByteArray)) := ⟨_, rfl⟩
          replace H : (if 0 ≤ x6_2 then (if x6_2 ≤ (x3_1.length : Int) then ((some (x3_1.take (x6_2 : Int).toNat : List ByteArray)).bind fun y215 => (if y212.length + y215.length < 8796093022208 then ((some (y212 ++ y215 : List ByteArray)).bind fun y219 => (if y219.length < 8796093022208 then ((some (y219 ++ [((a0.extract (x4_1 : Int).toNat a0.size) ++ (a0.extract 0 (x4_1 : Int).toNat))] : List ByteArray)).bind fun y222 => ((some (x3_1.drop (x6_2 : Int).toNat : List ByteArray)).bind fun y225 => (if y222.length + y225.length < 8796093022208 then (spec_chTurns.l0 k2 a0 (y222 ++ y225) (wrap64 (x4_1 + 1))) else (none)))) else (none))) else (none))) else (none)) else (none)) = some r := by first | (rw [hy212]; with_reducible exact H) | (have H2_ := (Option.bind_some _ _).symm.trans H; rw [hy212]; with_reducible exact H2_) | (have H2_ := (Option.bind_some _ _).symm.trans H; with_reducible exact H2_) | with_reducible exact H | (rw [hy212]; exact H) | exact H
          have Ny212 := Aside0.mk hy212
          clear hy212
          by_cases c29 : 0 ≤ x6_2
          ·rw [if_pos c29] at H
           have c29b0 := eq_true c29
           have c29b1 : decide (0 ≤ x6_2) = true := decide_eq_true c29
           clear c29
           by_cases c30 : x6_2 ≤ (x3_1.length : Int)
           ·rw [if_pos c30] at H
            have c30b0 := eq_true c30
            have c30b1 : decide (x6_2 ≤ (x3_1.length : Int)) = true := decide_eq_true c30
            clear c30
            obtain ⟨y215, hy215⟩ : ∃ y_ : List ByteArray, y_ = (x3_1.take (x6_2 : Int).toNat) := ⟨_, rfl⟩
            replace H : (if y212.length + y215.length < 8796093022208 then ((some (y212 ++ y215 : List ByteArray)).bind fun y219 => (if y219.length < 8796093022208 then ((some (y219 ++ [((a0.extract (x4_1 : Int).toNat a0.size) ++ (a0.extract 0 (x4_1 : Int).toNat))] : List ByteArray)).bind fun y222 => ((some (x3_1.drop (x6_2 : Int).toNat : List ByteArray)).bind fun y225 => (if y222.length + y225.length < 8796093022208 then (spec_chTurns.l0 k2 a0 (y222 ++ y225) (wrap64 (x4_1 + 1))) else (none)))) else (none))) else (none)) = some r := by first | (rw [hy215]; with_reducible exact H) | (have H2_ := (Option.bind_some _ _).symm.trans H; rw [hy215]; with_reducible exact H2_) | (have H2_ := (Option.bind_some _ _).symm.trans H; with_reducible exact H2_) | with_reducible exact H | (rw [hy215]; exact H) | exact H
            have Ny215 := Aside0.mk hy215
            clear hy215
            by_cases c31 : y212.length + y215.length < 8796093022208
            ·rw [if_pos c31] at H
             have LMc31 := Aside0.mk c31
             clear c31
             obtain ⟨y219, hy219⟩ : ∃ y_ : List ByteArray, y_ = (y212 ++ y215) := ⟨_, rfl⟩
             replace H : (if y219.length < 8796093022208 then ((some (y219 ++ [((a0.extract (x4_1 : Int).toNat a0.size) ++ (a0.extract 0 (x4_1 : Int).toNat))] : List ByteArray)).bind fun y222 => ((some (x3_1.drop (x6_2 : Int).toNat : List ByteArray)).bind fun y225 => (if y222.length + y225.length < 8796093022208 then (spec_chTurns.l0 k2 a0 (y222 ++ y225) (wrap64 (x4_1 + 1))) else (none)))) else (none)) = some r := by first | (rw [hy219]; with_reducible exact H) | (have H2_ := (Option.bind_some _ _).symm.trans H; rw [hy219]; with_reducible exact H2_) | (have H2_ := (Option.bind_some _ _).symm.trans H; with_reducible exact H2_) | with_reducible exact H | (rw [hy219]; exact H) | exact H
             have Ny219 := Aside0.mk hy219
             clear hy219
             by_cases c32 : y219.length < 8796093022208
             ·rw [if_pos c32] at H
              have LMc32 := Aside0.mk c32
              clear c32
              obtain ⟨y222, hy222⟩ : ∃ y_ : List ByteArray, y_ = (y219 ++ [((a0.extract (x4_1 : Int).toNat a0.size) ++ (a0.extract 0 (x4_1 : Int).toNat))]) := ⟨_, rfl⟩
              replace H : ((some (x3_1.drop (x6_2 : Int).toNat : List ByteArray)).bind fun y225 => (if y222.length + y225.length < 8796093022208 then (spec_chTurns.l0 k2 a0 (y222 ++ y225) (wrap64 (x4_1 + 1))) else (none))) = some r := by first | (rw [hy222]; with_reducible exact H) | (have H2_ := (Option.bind_some _ _).symm.trans H; rw [hy222]; with_reducible exact H2_) | (have H2_ := (Option.bind_some _ _).symm.trans H; with_reducible exact H2_) | with_reducible exact H | (rw [hy222]; exact H) | exact H
              have Ny222 := Aside0.mk hy222
              clear hy222
              have c33b0 := eq_true (of_decide_eq_true (by first | (with_reducible assumption) | assumption) : 0 ≤ x6_2)
              have c34b0 := eq_true (of_decide_eq_true (by first | (with_reducible assumption) | assumption) : x6_2 ≤ (x3_1.length : Int))
              obtain ⟨y225, hy225⟩ : ∃ y_ : List ByteArray, y_ = (x3_1.drop (x6_2 : Int).toNat) := ⟨_, rfl⟩
              replace H : (if y222.length + y225.length < 8796093022208 then (spec_chTurns.l0 k2 a0 (y222 ++ y225) (wrap64 (x4_1 + 1))) else (none)) = some r := by first | (rw [hy225]; with_reducible exact H) | (have H2_ := (Option.bind_some _ _).symm.trans H; rw [hy225]; with_reducible exact H2_) | (have H2_ := (Option.bind_some _ _).symm.trans H; with_reducible exact H2_) | with_reducible exact H | (rw [hy225]; exact H) | exact H
              have Ny225 := Aside0.mk hy225
              clear hy225
              by_cases c35 : y222.length + y225.length < 8796093022208
              ·rw [if_pos c35] at H
               have LMc35 := Aside0.mk c35
               clear c35
               obtain ⟨y229, hy229⟩ : ∃ y_ : List ByteArray, y_ = (y222 ++ y225) := ⟨_, rfl⟩
               replace H : (spec_chTurns.l0 k2 a0 y229 (wrap64 (x4_1 + 1))) = some r := by first | (rw [hy229]; with_reducible exact H) | (have H2_ := (Option.bind_some _ _).symm.trans H; rw [hy229]; with_reducible exact H2_) | (have H2_ := (Option.bind_some _ _).symm.trans H; with_reducible exact H2_) | with_reducible exact H | (rw [hy229]; exact H) | exact H
               have Ny229 := Aside0.mk hy229
               clear hy229
               have H' := Aside0.mk H
               clear H
               obtain ⟨Ao36, co36, eo36⟩ := Kd.R_slice HO_3.out
               subst eo36
               go_wp2_with (first | ((with_reducible refine gate_dst (N := 47) rfl ?_); refine Kd.R_lit Kd.string _ 9 ?hg (N := 47) ?hd (xs := ([] : List ByteArray)) (inner := []) (ok := fun _ => True) (okp := fun _ => True) ?hr ?hp (fun _ hk => hk) trivial (Below.refl _ _) (Nat.le_refl _) (by simp) ?_; (case hd => rfl); (case hg => rfl); (case hr => first | (go_simp; done) | (go_simp; rfl)); (case hp => exact (Reps.none _ _)); intro v213 w37 ho38 hb hg_ hnew_; clear hg_ hnew_; (first | rw [← Ny212.out] at ho38 | (simp only [Int.reduceToNat] at ho38; rw [← Ny212.out] at ho38)); have n0_ := Aside0.mk (Kd.R_elder' (by (with_reducible repeat (first | apply Kd.R_alloc | apply Kd.R_drewN | apply Kd.R_drew)); exact HO_3.out) (Kd.R_base ho38) hb); have n1_ := Aside0.mk (Kd.R_lower (Kd.R_new' ho38 (Kd.R_lt (by (with_reducible repeat (first | apply Kd.R_alloc | apply Kd.R_drewN | apply Kd.R_drew)); exact HO_3.out))) (below_size (by repeat (first | (with_reducible first | exact HB.out | apply below_alloc | apply pw_below_drewN | apply below_drew1) | exact HB.out)))); have n2_ := Aside0.mk (below_step (by repeat (first | (with_reducible first | exact HB.out | apply below_alloc | apply pw_below_drewN | apply below_drew1) | exact HB.out)) hb); clear HO_3; clear HB; have HO_3 := n0_; have HO214 := n1_; have HB := n2_; clear n0_ n1_ n2_; clear hb ho38; have q39 : (x6_2 : Int) ≤ ((x3_1.length : Int) : Int) := of_decide_eq_true (by first | (with_reducible assumption) | assumption); obtain ⟨i039, hi039, _, hsz39, _⟩ := info_parts info9; have hroom39 : x3_1.length ≤ co36 := (Kd.R_reads' HO_3.out).2.1; have hC39 : Kd.C Kd.string _ Ao36 x3_1.length x3_1 := (Kd.R_reads' HO_3.out).2.2; have hcut39 := cut_to (P := Try.prog) 31 9 .i64 Try.underlying31 hi039 Ao36 x3_1.length co36 x6_2 (of_decide_eq_true (by first | (with_reducible assumption) | assumption)) q39 hroom39; have hr39 := Kd.C_take (m := (x6_2 : Int).toNat) hC39 (by omega); have hy39 : y215.length = (x6_2 : Int).toNat := (by rw [Ny215.out, List.length_take]; omega); rw [← Ny215.out] at hr39; rw [← hy39] at hcut39; have HR218 := Aside0.mk hr39; have HC218 := Aside0.mk (show y215.length ≤ co36 from by omega); clear hr39 hC39 hroom39 hi039 hsz39; have KY39 := Aside0.mk hy39; clear hy39; have KL39 := Aside0.mk (show (x6_2 : Int).toNat ≤ x3_1.length from by omega); replace q39 := eq_true q39) | ((with_reducible refine gate_builtin (b := .append) (xs := #[.tmp 47, .tmp 50]) rfl ?_); at_builtin; refine Kd.R_append_rows Kd.string (w0 := w) w.heap.size rfl (.tmp 47) (.tmp 50) 31 9 (.string ⟨#[]⟩) 16 rfl Try.underlying31 info9 rfl (by decide) (by omega) v213 y212 y215 _ _ _ (fun k_ => some k_ ≠ (.slice Ao36 x3_1.length co36 : Value).ownBlock) (fun _ => False) rfl rfl ?aO ?aR (fun _ _ h => h) (fun _ h => h.elim) ?aF ?aB ?aS ?aL ?_; (case aR => repeat (first | exact (by repeat (first | (with_reducible exact HR218.out) | (with_reducible refine Kd.C_alloc ?_ _) | (with_reducible refine Kd.C_drewN ?_ _) | (with_reducible refine Kd.C_drew ?_) | exact HR218.out)) | (with_reducible refine Kd.C_alloc ?_ _) | (with_reducible refine Kd.C_drewN ?_ _) | (with_reducible refine Kd.C_drew ?_))); (case aB => exact (by repeat (first | (with_reducible first | exact HB.out | apply below_alloc | apply pw_below_drewN | apply below_drew1) | exact HB.out))); (case aF => exact (fun k_ hk => Kd.fresh' (Kd.R_lt (by (with_reducible repeat (first | apply Kd.R_alloc | apply Kd.R_drewN | apply Kd.R_drew)); exact HO_3.out)) k_ hk)); (case aO => exact (by (with_reducible repeat (first | apply Kd.R_alloc | apply Kd.R_drewN | apply Kd.R_drew)); exact Kd.R_mono HO214.out (fun _ hk => hk.2))); (case aS => exact (below_size (by repeat (first | (with_reducible first | exact HB.out | apply below_alloc | apply pw_below_drewN | apply below_drew1) | exact HB.out)))); (case aL => have := LMc31.out; omega); intro v220 w40 ho hb hg hat; rw [← Ny219.out] at ho; have n0_ := Aside0.mk (Kd.R_after (ok := (fun _ => True)) (by (with_reducible repeat (first | apply Kd.R_alloc | apply Kd.R_drewN | apply Kd.R_drew)); exact HO_3.out) hg hat); have n1_ := Aside0.mk (hb); have n2_ := Aside0.mk ((show Kd.C Kd.string w40 Ao36 y215.length y215 from by rw [Ny215.out]; exact Kd.C_take (m := (x6_2 : Int).toNat) ((Kd.R_reads' (Kd.R_after (ok := (fun _ => True)) (by (with_reducible repeat (first | apply Kd.R_alloc | apply Kd.R_drewN | apply Kd.R_drew)); exact HO_3.out) hg hat)).2.2) KL39.out)); have n3_ := Aside0.mk (ho); clear HO_3; clear HB; clear HR218; clear HO214; have HO_3 := n0_; have HB := n1_; have HR218 := n2_; have HO221 := n3_; clear n0_ n1_ n2_ n3_; clear ho hb hg hat) | ((with_reducible refine gate_builtin (b := .append) (xs := #[.tmp 51, .tmp 53]) rfl ?_); at_builtin; refine Kd.R_append Kd.string (w0 := w) w.heap.size rfl (.tmp 51) (.tmp 53) 31 9 (.string ⟨#[]⟩) 16 rfl Try.underlying31 info9 rfl (by decide) (by omega) v220 y219 ((a0.extract (x4_1 : Int).toNat a0.size) ++ (a0.extract 0 (x4_1 : Int).toNat)) [.string ((a0.extract (x4_1 : Int).toNat a0.size) ++ (a0.extract 0 (x4_1 : Int).toNat))] (fun k_ => some k_ ≠ (.slice Ao36 x3_1.length co36 : Value).ownBlock) (fun _ => False) rfl rfl ?aP (fun _ hk => hk.elim) ?aF ?aO ?aB ?aS ?aL ?_; (case aP => exact rfl); (case aB => exact (by repeat (first | (with_reducible first | exact HB.out | apply below_alloc | apply pw_below_drewN | apply below_drew1) | exact HB.out))); (case aF => exact (fun k_ hk => Kd.fresh' (Kd.R_lt (by (with_reducible repeat (first | apply Kd.R_alloc | apply Kd.R_drewN | apply Kd.R_drew)); exact HO_3.out)) k_ hk)); (case aO => exact (by (with_reducible repeat (first | apply Kd.R_alloc | apply Kd.R_drewN | apply Kd.R_drew)); exact HO221.out)); (case aS => exact (below_size (by repeat (first | (with_reducible first | exact HB.out | apply below_alloc | apply pw_below_drewN | apply below_drew1) | exact HB.out)))); (case aL => have := LMc32.out; omega); intro v223 w41 ho hb hg hat; rw [← Ny222.out] at ho; have n0_ := Aside0.mk (Kd.R_after (ok := (fun _ => True)) (by (with_reducible repeat (first | apply Kd.R_alloc | apply Kd.R_drewN | apply Kd.R_drew)); exact HO_3.out) hg hat); have n1_ := Aside0.mk (hb); have n2_ := Aside0.mk ((show Kd.C Kd.string w41 Ao36 y215.length y215 from by rw [Ny215.out]; exact Kd.C_take (m := (x6_2 : Int).toNat) ((Kd.R_reads' (Kd.R_after (ok := (fun _ => True)) (by (with_reducible repeat (first | apply Kd.R_alloc | apply Kd.R_drewN | apply Kd.R_drew)); exact HO_3.out) hg hat)).2.2) KL39.out)); have n3_ := Aside0.mk (ho); clear HO_3; clear HB; clear HR218; clear HO221; have HO_3 := n0_; have HB := n1_; have HR218 := n2_; have HO224 := n3_; clear n0_ n1_ n2_ n3_; clear ho hb hg hat; have q42 : (x6_2 : Int) ≤ ((x3_1.length : Int) : Int) := of_decide_eq_true (by first | (with_reducible assumption) | assumption); obtain ⟨i042, hi042, _, hsz42, _⟩ := info_parts info9; have hroom42 : x3_1.length ≤ co36 := (Kd.R_reads' HO_3.out).2.1; have hC42 : Kd.C Kd.string _ Ao36 x3_1.length x3_1 := (Kd.R_reads' HO_3.out).2.2; have q042 : (0 : Int) ≤ (x6_2 : Int) := of_decide_eq_true (by first | (with_reducible assumption) | assumption); have hcut42 := cut_from (P := Try.prog) 31 9 .i64 Try.underlying31 hi042 1 hsz42 Ao36 x3_1.length co36 x6_2 q042 q42; have hr42 := Kd.C_drop (m := (x6_2 : Int).toNat) (c := co36) hC42 (by omega) hroom42; obtain ⟨A42, hA42⟩ : ∃ A1, A1 = (if co36 = (x6_2 : Int).toNat then Ao36 else (Ao36 : Option Addr).map (·.add ((x6_2 : Int).toNat * 1))) := ⟨_, rfl⟩; obtain ⟨c42, hc42⟩ : ∃ c1, c1 = co36 - (x6_2 : Int).toNat := ⟨_, rfl⟩; have hy42 : y225.length = x3_1.length - (x6_2 : Int).toNat := (by rw [Ny225.out, List.length_drop] <;> omega); rw [show (x3_1).drop (x6_2 : Int).toNat = y225 from Ny225.out.symm] at hr42; replace hr42 : Kd.C Kd.string _ A42 y225.length y225 := (by rw [hA42]; exact hr42); rw [← hy42, ← hA42, ← hc42] at hcut42; have HR228 := Aside0.mk hr42; have HC228 := Aside0.mk (show y225.length ≤ c42 from by rw [hy42, hc42]; exact Nat.sub_le_sub_right hroom42 _); clear hr42 hC42 hroom42 hi042 hsz42 hc42; have KY42 := Aside0.mk hy42; have KA42 := Aside0.mk hA42; clear hy42 hA42; have KL42 := Aside0.mk (show (x6_2 : Int).toNat ≤ x3_1.length from by omega); replace q42 := eq_true q42) | ((with_reducible refine gate_builtin (b := .append) (xs := #[.tmp 55, .tmp 58]) rfl ?_); at_builtin; refine Kd.R_append_rows Kd.string (w0 := w) w.heap.size rfl (.tmp 55) (.tmp 58) 31 9 (.string ⟨#[]⟩) 16 rfl Try.underlying31 info9 rfl (by decide) (by omega) v223 y222 y225 _ _ _ (fun k_ => some k_ ≠ (.slice Ao36 x3_1.length co36 : Value).ownBlock) (fun _ => False) rfl rfl ?aO ?aR (fun _ _ h => h) (fun _ h => h.elim) ?aF ?aB ?aS ?aL ?_; (case aR => repeat (first | exact (by repeat (first | (with_reducible exact HR228.out) | (with_reducible refine Kd.C_alloc ?_ _) | (with_reducible refine Kd.C_drewN ?_ _) | (with_reducible refine Kd.C_drew ?_) | exact HR228.out)) | (with_reducible refine Kd.C_alloc ?_ _) | (with_reducible refine Kd.C_drewN ?_ _) | (with_reducible refine Kd.C_drew ?_))); (case aB => exact (by repeat (first | (with_reducible first | exact HB.out | apply below_alloc | apply pw_below_drewN | apply below_drew1) | exact HB.out))); (case aF => exact (fun k_ hk => Kd.fresh' (Kd.R_lt (by (with_reducible repeat (first | apply Kd.R_alloc | apply Kd.R_drewN | apply Kd.R_drew)); exact HO_3.out)) k_ hk)); (case aO => exact (by (with_reducible repeat (first | apply Kd.R_alloc | apply Kd.R_drewN | apply Kd.R_drew)); exact HO224.out)); (case aS => exact (below_size (by repeat (first | (with_reducible first | exact HB.out | apply below_alloc | apply pw_below_drewN | apply below_drew1) | exact HB.out)))); (case aL => have := LMc35.out; omega); intro v230 w43 ho hb hg hat; rw [← Ny229.out] at ho; have n0_ := Aside0.mk (Kd.R_after (ok := (fun _ => True)) (by (with_reducible repeat (first | apply Kd.R_alloc | apply Kd.R_drewN | apply Kd.R_drew)); exact HO_3.out) hg hat); have n1_ := Aside0.mk (hb); have n2_ := Aside0.mk ((show Kd.C Kd.string w43 Ao36 y215.length y215 from by rw [Ny215.out]; exact Kd.C_take (m := (x6_2 : Int).toNat) ((Kd.R_reads' (Kd.R_after (ok := (fun _ => True)) (by (with_reducible repeat (first | apply Kd.R_alloc | apply Kd.R_drewN | apply Kd.R_drew)); exact HO_3.out) hg hat)).2.2) KL39.out)); have n3_ := Aside0.mk ((show Kd.C Kd.string w43 A42 y225.length y225 from by rw [Ny225.out, KA42.out]; exact Kd.C_drop (m := (x6_2 : Int).toNat) (c := co36) ((Kd.R_reads' (Kd.R_after (ok := (fun _ => True)) (by (with_reducible repeat (first | apply Kd.R_alloc | apply Kd.R_drewN | apply Kd.R_drew)); exact HO_3.out) hg hat)).2.2) KL42.out ((Kd.R_reads' (Kd.R_after (ok := (fun _ => True)) (by (with_reducible repeat (first | apply Kd.R_alloc | apply Kd.R_drewN | apply Kd.R_drew)); exact HO_3.out) hg hat)).2.1))); have n4_ := Aside0.mk (ho); clear HO_3; clear HB; clear HR218; clear HR228; clear HO224; have HO_3 := n0_; have HB := n1_; have HR218 := n2_; have HR228 := n3_; have HO231 := n4_; clear n0_ n1_ n2_ n3_ n4_; clear ho hb hg hat))
               repeat (go_quiet (first | ((with_reducible refine gate_dst (N := 47) rfl ?_); refine Kd.R_lit Kd.string _ 9 ?hg (N := 47) ?hd (xs := ([] : List ByteArray)) (inner := []) (ok := fun _ => True) (okp := fun _ => True) ?hr ?hp (fun _ hk => hk) trivial (Below.refl _ _) (Nat.le_refl _) (by simp) ?_; (case hd => rfl); (case hg => rfl); (case hr => first | (go_simp; done) | (go_simp; rfl)); (case hp => exact (Reps.none _ _)); intro v213 w37 ho38 hb hg_ hnew_; clear hg_ hnew_; (first | rw [← Ny212.out] at ho38 | (simp only [Int.reduceToNat] at ho38; rw [← Ny212.out] at ho38)); have n0_ := Aside0.mk (Kd.R_elder' (by (with_reducible repeat (first | apply Kd.R_alloc | apply Kd.R_drewN | apply Kd.R_drew)); exact HO_3.out) (Kd.R_base ho38) hb); have n1_ := Aside0.mk (Kd.R_lower (Kd.R_new' ho38 (Kd.R_lt (by (with_reducible repeat (first | apply Kd.R_alloc | apply Kd.R_drewN | apply Kd.R_drew)); exact HO_3.out))) (below_size (by repeat (first | (with_reducible first | exact HB.out | apply below_alloc | apply pw_below_drewN | apply below_drew1) | exact HB.out)))); have n2_ := Aside0.mk (below_step (by repeat (first | (with_reducible first | exact HB.out | apply below_alloc | apply pw_below_drewN | apply below_drew1) | exact HB.out)) hb); clear HO_3; clear HB; have HO_3 := n0_; have HO214 := n1_; have HB := n2_; clear n0_ n1_ n2_; clear hb ho38; have q39 : (x6_2 : Int) ≤ ((x3_1.length : Int) : Int) := of_decide_eq_true (by first | (with_reducible assumption) | assumption); obtain ⟨i039, hi039, _, hsz39, _⟩ := info_parts info9; have hroom39 : x3_1.length ≤ co36 := (Kd.R_reads' HO_3.out).2.1; have hC39 : Kd.C Kd.string _ Ao36 x3_1.length x3_1 := (Kd.R_reads' HO_3.out).2.2; have hcut39 := cut_to (P := Try.prog) 31 9 .i64 Try.underlying31 hi039 Ao36 x3_1.length co36 x6_2 (of_decide_eq_true (by first | (with_reducible assumption) | assumption)) q39 hroom39; have hr39 := Kd.C_take (m := (x6_2 : Int).toNat) hC39 (by omega); have hy39 : y215.length = (x6_2 : Int).toNat := (by rw [Ny215.out, List.length_take]; omega); rw [← Ny215.out] at hr39; rw [← hy39] at hcut39; have HR218 := Aside0.mk hr39; have HC218 := Aside0.mk (show y215.length ≤ co36 from by omega); clear hr39 hC39 hroom39 hi039 hsz39; have KY39 := Aside0.mk hy39; clear hy39; have KL39 := Aside0.mk (show (x6_2 : Int).toNat ≤ x3_1.length from by omega); replace q39 := eq_true q39) | ((with_reducible refine gate_builtin (b := .append) (xs := #[.tmp 47, .tmp 50]) rfl ?_); at_builtin; refine Kd.R_append_rows Kd.string (w0 := w) w.heap.size rfl (.tmp 47) (.tmp 50) 31 9 (.string ⟨#[]⟩) 16 rfl Try.underlying31 info9 rfl (by decide) (by omega) v213 y212 y215 _ _ _ (fun k_ => some k_ ≠ (.slice Ao36 x3_1.length co36 : Value).ownBlock) (fun _ => False) rfl rfl ?aO ?aR (fun _ _ h => h) (fun _ h => h.elim) ?aF ?aB ?aS ?aL ?_; (case aR => repeat (first | exact (by repeat (first | (with_reducible exact HR218.out) | (with_reducible refine Kd.C_alloc ?_ _) | (with_reducible refine Kd.C_drewN ?_ _) | (with_reducible refine Kd.C_drew ?_) | exact HR218.out)) | (with_reducible refine Kd.C_alloc ?_ _) | (with_reducible refine Kd.C_drewN ?_ _) | (with_reducible refine Kd.C_drew ?_))); (case aB => exact (by repeat (first | (with_reducible first | exact HB.out | apply below_alloc | apply pw_below_drewN | apply below_drew1) | exact HB.out))); (case aF => exact (fun k_ hk => Kd.fresh' (Kd.R_lt (by (with_reducible repeat (first | apply Kd.R_alloc | apply Kd.R_drewN | apply Kd.R_drew)); exact HO_3.out)) k_ hk)); (case aO => exact (by (with_reducible repeat (first | apply Kd.R_alloc | apply Kd.R_drewN | apply Kd.R_drew)); exact Kd.R_mono HO214.out (fun _ hk => hk.2))); (case aS => exact (below_size (by repeat (first | (with_reducible first | exact HB.out | apply below_alloc | apply pw_below_drewN | apply below_drew1) | exact HB.out)))); (case aL => have := LMc31.out; omega); intro v220 w40 ho hb hg hat; rw [← Ny219.out] at ho; have n0_ := Aside0.mk (Kd.R_after (ok := (fun _ => True)) (by (with_reducible repeat (first | apply Kd.R_alloc | apply Kd.R_drewN | apply Kd.R_drew)); exact HO_3.out) hg hat); have n1_ := Aside0.mk (hb); have n2_ := Aside0.mk ((show Kd.C Kd.string w40 Ao36 y215.length y215 from by rw [Ny215.out]; exact Kd.C_take (m := (x6_2 : Int).toNat) ((Kd.R_reads' (Kd.R_after (ok := (fun _ => True)) (by (with_reducible repeat (first | apply Kd.R_alloc | apply Kd.R_drewN | apply Kd.R_drew)); exact HO_3.out) hg hat)).2.2) KL39.out)); have n3_ := Aside0.mk (ho); clear HO_3; clear HB; clear HR218; clear HO214; have HO_3 := n0_; have HB := n1_; have HR218 := n2_; have HO221 := n3_; clear n0_ n1_ n2_ n3_; clear ho hb hg hat) | ((with_reducible refine gate_builtin (b := .append) (xs := #[.tmp 51, .tmp 53]) rfl ?_); at_builtin; refine Kd.R_append Kd.string (w0 := w) w.heap.size rfl (.tmp 51) (.tmp 53) 31 9 (.string ⟨#[]⟩) 16 rfl Try.underlying31 info9 rfl (by decide) (by omega) v220 y219 ((a0.extract (x4_1 : Int).toNat a0.size) ++ (a0.extract 0 (x4_1 : Int).toNat)) [.string ((a0.extract (x4_1 : Int).toNat a0.size) ++ (a0.extract 0 (x4_1 : Int).toNat))] (fun k_ => some k_ ≠ (.slice Ao36 x3_1.length co36 : Value).ownBlock) (fun _ => False) rfl rfl ?aP (fun _ hk => hk.elim) ?aF ?aO ?aB ?aS ?aL ?_; (case aP => exact rfl); (case aB => exact (by repeat (first | (with_reducible first | exact HB.out | apply below_alloc | apply pw_below_drewN | apply below_drew1) | exact HB.out))); (case aF => exact (fun k_ hk => Kd.fresh' (Kd.R_lt (by (with_reducible repeat (first | apply Kd.R_alloc | apply Kd.R_drewN | apply Kd.R_drew)); exact HO_3.out)) k_ hk)); (case aO => exact (by (with_reducible repeat (first | apply Kd.R_alloc | apply Kd.R_drewN | apply Kd.R_drew)); exact HO221.out)); (case aS => exact (below_size (by repeat (first | (with_reducible first | exact HB.out | apply below_alloc | apply pw_below_drewN | apply below_drew1) | exact HB.out)))); (case aL => have := LMc32.out; omega); intro v223 w41 ho hb hg hat; rw [← Ny222.out] at ho; have n0_ := Aside0.mk (Kd.R_after (ok := (fun _ => True)) (by (with_reducible repeat (first | apply Kd.R_alloc | apply Kd.R_drewN | apply Kd.R_drew)); exact HO_3.out) hg hat); have n1_ := Aside0.mk (hb); have n2_ := Aside0.mk ((show Kd.C Kd.string w41 Ao36 y215.length y215 from by rw [Ny215.out]; exact Kd.C_take (m := (x6_2 : Int).toNat) ((Kd.R_reads' (Kd.R_after (ok := (fun _ => True)) (by (with_reducible repeat (first | apply Kd.R_alloc | apply Kd.R_drewN | apply Kd.R_drew)); exact HO_3.out) hg hat)).2.2) KL39.out)); have n3_ := Aside0.mk (ho); clear HO_3; clear HB; clear HR218; clear HO221; have HO_3 := n0_; have HB := n1_; have HR218 := n2_; have HO224 := n3_; clear n0_ n1_ n2_ n3_; clear ho hb hg hat; have q42 : (x6_2 : Int) ≤ ((x3_1.length : Int) : Int) := of_decide_eq_true (by first | (with_reducible assumption) | assumption); obtain ⟨i042, hi042, _, hsz42, _⟩ := info_parts info9; have hroom42 : x3_1.length ≤ co36 := (Kd.R_reads' HO_3.out).2.1; have hC42 : Kd.C Kd.string _ Ao36 x3_1.length x3_1 := (Kd.R_reads' HO_3.out).2.2; have q042 : (0 : Int) ≤ (x6_2 : Int) := of_decide_eq_true (by first | (with_reducible assumption) | assumption); have hcut42 := cut_from (P := Try.prog) 31 9 .i64 Try.underlying31 hi042 1 hsz42 Ao36 x3_1.length co36 x6_2 q042 q42; have hr42 := Kd.C_drop (m := (x6_2 : Int).toNat) (c := co36) hC42 (by omega) hroom42; obtain ⟨A42, hA42⟩ : ∃ A1, A1 = (if co36 = (x6_2 : Int).toNat then Ao36 else (Ao36 : Option Addr).map (·.add ((x6_2 : Int).toNat * 1))) := ⟨_, rfl⟩; obtain ⟨c42, hc42⟩ : ∃ c1, c1 = co36 - (x6_2 : Int).toNat := ⟨_, rfl⟩; have hy42 : y225.length = x3_1.length - (x6_2 : Int).toNat := (by rw [Ny225.out, List.length_drop] <;> omega); rw [show (x3_1).drop (x6_2 : Int).toNat = y225 from Ny225.out.symm] at hr42; replace hr42 : Kd.C Kd.string _ A42 y225.length y225 := (by rw [hA42]; exact hr42); rw [← hy42, ← hA42, ← hc42] at hcut42; have HR228 := Aside0.mk hr42; have HC228 := Aside0.mk (show y225.length ≤ c42 from by rw [hy42, hc42]; exact Nat.sub_le_sub_right hroom42 _); clear hr42 hC42 hroom42 hi042 hsz42 hc42; have KY42 := Aside0.mk hy42; have KA42 := Aside0.mk hA42; clear hy42 hA42; have KL42 := Aside0.mk (show (x6_2 : Int).toNat ≤ x3_1.length from by omega); replace q42 := eq_true q42) | ((with_reducible refine gate_builtin (b := .append) (xs := #[.tmp 55, .tmp 58]) rfl ?_); at_builtin; refine Kd.R_append_rows Kd.string (w0 := w) w.heap.size rfl (.tmp 55) (.tmp 58) 31 9 (.string ⟨#[]⟩) 16 rfl Try.underlying31 info9 rfl (by decide) (by omega) v223 y222 y225 _ _ _ (fun k_ => some k_ ≠ (.slice Ao36 x3_1.length co36 : Value).ownBlock) (fun _ => False) rfl rfl ?aO ?aR (fun _ _ h => h) (fun _ h => h.elim) ?aF ?aB ?aS ?aL ?_; (case aR => repeat (first | exact (by repeat (first | (with_reducible exact HR228.out) | (with_reducible refine Kd.C_alloc ?_ _) | (with_reducible refine Kd.C_drewN ?_ _) | (with_reducible refine Kd.C_drew ?_) | exact HR228.out)) | (with_reducible refine Kd.C_alloc ?_ _) | (with_reducible refine Kd.C_drewN ?_ _) | (with_reducible refine Kd.C_drew ?_))); (case aB => exact (by repeat (first | (with_reducible first | exact HB.out | apply below_alloc | apply pw_below_drewN | apply below_drew1) | exact HB.out))); (case aF => exact (fun k_ hk => Kd.fresh' (Kd.R_lt (by (with_reducible repeat (first | apply Kd.R_alloc | apply Kd.R_drewN | apply Kd.R_drew)); exact HO_3.out)) k_ hk)); (case aO => exact (by (with_reducible repeat (first | apply Kd.R_alloc | apply Kd.R_drewN | apply Kd.R_drew)); exact HO224.out)); (case aS => exact (below_size (by repeat (first | (with_reducible first | exact HB.out | apply below_alloc | apply pw_below_drewN | apply below_drew1) | exact HB.out)))); (case aL => have := LMc35.out; omega); intro v230 w43 ho hb hg hat; rw [← Ny229.out] at ho; have n0_ := Aside0.mk (Kd.R_after (ok := (fun _ => True)) (by (with_reducible repeat (first | apply Kd.R_alloc | apply Kd.R_drewN | apply Kd.R_drew)); exact HO_3.out) hg hat); have n1_ := Aside0.mk (hb); have n2_ := Aside0.mk ((show Kd.C Kd.string w43 Ao36 y215.length y215 from by rw [Ny215.out]; exact Kd.C_take (m := (x6_2 : Int).toNat) ((Kd.R_reads' (Kd.R_after (ok := (fun _ => True)) (by (with_reducible repeat (first | apply Kd.R_alloc | apply Kd.R_drewN | apply Kd.R_drew)); exact HO_3.out) hg hat)).2.2) KL39.out)); have n3_ := Aside0.mk ((show Kd.C Kd.string w43 A42 y225.length y225 from by rw [Ny225.out, KA42.out]; exact Kd.C_drop (m := (x6_2 : Int).toNat) (c := co36) ((Kd.R_reads' (Kd.R_after (ok := (fun _ => True)) (by (with_reducible repeat (first | apply Kd.R_alloc | apply Kd.R_drewN | apply Kd.R_drew)); exact HO_3.out) hg hat)).2.2) KL42.out ((Kd.R_reads' (Kd.R_after (ok := (fun _ => True)) (by (with_reducible repeat (first | apply Kd.R_alloc | apply Kd.R_drewN | apply Kd.R_drew)); exact HO_3.out) hg hat)).2.1))); have n4_ := Aside0.mk (ho); clear HO_3; clear HB; clear HR218; clear HR228; clear HO224; have HO_3 := n0_; have HB := n1_; have HR218 := n2_; have HR228 := n3_; have HO231 := n4_; clear n0_ n1_ n2_ n3_ n4_; clear ho hb hg hat)); try go_wp2_with (first | ((with_reducible refine gate_dst (N := 47) rfl ?_); refine Kd.R_lit Kd.string _ 9 ?hg (N := 47) ?hd (xs := ([] : List ByteArray)) (inner := []) (ok := fun _ => True) (okp := fun _ => True) ?hr ?hp (fun _ hk => hk) trivial (Below.refl _ _) (Nat.le_refl _) (by simp) ?_; (case hd => rfl); (case hg => rfl); (case hr => first | (go_simp; done) | (go_simp; rfl)); (case hp => exact (Reps.none _ _)); intro v213 w37 ho38 hb hg_ hnew_; clear hg_ hnew_; (first | rw [← Ny212.out] at ho38 | (simp only [Int.reduceToNat] at ho38; rw [← Ny212.out] at ho38)); have n0_ := Aside0.mk (Kd.R_elder' (by (with_reducible repeat (first | apply Kd.R_alloc | apply Kd.R_drewN | apply Kd.R_drew)); exact HO_3.out) (Kd.R_base ho38) hb); have n1_ := Aside0.mk (Kd.R_lower (Kd.R_new' ho38 (Kd.R_lt (by (with_reducible repeat (first | apply Kd.R_alloc | apply Kd.R_drewN | apply Kd.R_drew)); exact HO_3.out))) (below_size (by repeat (first | (with_reducible first | exact HB.out | apply below_alloc | apply pw_below_drewN | apply below_drew1) | exact HB.out)))); have n2_ := Aside0.mk (below_step (by repeat (first | (with_reducible first | exact HB.out | apply below_alloc | apply pw_below_drewN | apply below_drew1) | exact HB.out)) hb); clear HO_3; clear HB; have HO_3 := n0_; have HO214 := n1_; have HB := n2_; clear n0_ n1_ n2_; clear hb ho38; have q39 : (x6_2 : Int) ≤ ((x3_1.length : Int) : Int) := of_decide_eq_true (by first | (with_reducible assumption) | assumption); obtain ⟨i039, hi039, _, hsz39, _⟩ := info_parts info9; have hroom39 : x3_1.length ≤ co36 := (Kd.R_reads' HO_3.out).2.1; have hC39 : Kd.C Kd.string _ Ao36 x3_1.length x3_1 := (Kd.R_reads' HO_3.out).2.2; have hcut39 := cut_to (P := Try.prog) 31 9 .i64 Try.underlying31 hi039 Ao36 x3_1.length co36 x6_2 (of_decide_eq_true (by first | (with_reducible assumption) | assumption)) q39 hroom39; have hr39 := Kd.C_take (m := (x6_2 : Int).toNat) hC39 (by omega); have hy39 : y215.length = (x6_2 : Int).toNat := (by rw [Ny215.out, List.length_take]; omega); rw [← Ny215.out] at hr39; rw [← hy39] at hcut39; have HR218 := Aside0.mk hr39; have HC218 := Aside0.mk (show y215.length ≤ co36 from by omega); clear hr39 hC39 hroom39 hi039 hsz39; have KY39 := Aside0.mk hy39; clear hy39; have KL39 := Aside0.mk (show (x6_2 : Int).toNat ≤ x3_1.length from by omega); replace q39 := eq_true q39) | ((with_reducible refine gate_builtin (b := .append) (xs := #[.tmp 47, .tmp 50]) rfl ?_); at_builtin; refine Kd.R_append_rows Kd.string (w0 := w) w.heap.size rfl (.tmp 47) (.tmp 50) 31 9 (.string ⟨#[]⟩) 16 rfl Try.underlying31 info9 rfl (by decide) (by omega) v213 y212 y215 _ _ _ (fun k_ => some k_ ≠ (.slice Ao36 x3_1.length co36 : Value).ownBlock) (fun _ => False) rfl rfl ?aO ?aR (fun _ _ h => h) (fun _ h => h.elim) ?aF ?aB ?aS ?aL ?_; (case aR => repeat (first | exact (by repeat (first | (with_reducible exact HR218.out) | (with_reducible refine Kd.C_alloc ?_ _) | (with_reducible refine Kd.C_drewN ?_ _) | (with_reducible refine Kd.C_drew ?_) | exact HR218.out)) | (with_reducible refine Kd.C_alloc ?_ _) | (with_reducible refine Kd.C_drewN ?_ _) | (with_reducible refine Kd.C_drew ?_))); (case aB => exact (by repeat (first | (with_reducible first | exact HB.out | apply below_alloc | apply pw_below_drewN | apply below_drew1) | exact HB.out))); (case aF => exact (fun k_ hk => Kd.fresh' (Kd.R_lt (by (with_reducible repeat (first | apply Kd.R_alloc | apply Kd.R_drewN | apply Kd.R_drew)); exact HO_3.out)) k_ hk)); (case aO => exact (by (with_reducible repeat (first | apply Kd.R_alloc | apply Kd.R_drewN | apply Kd.R_drew)); exact Kd.R_mono HO214.out (fun _ hk => hk.2))); (case aS => exact (below_size (by repeat (first | (with_reducible first | exact HB.out | apply below_alloc | apply pw_below_drewN | apply below_drew1) | exact HB.out)))); (case aL => have := LMc31.out; omega); intro v220 w40 ho hb hg hat; rw [← Ny219.out] at ho; have n0_ := Aside0.mk (Kd.R_after (ok := (fun _ => True)) (by (with_reducible repeat (first | apply Kd.R_alloc | apply Kd.R_drewN | apply Kd.R_drew)); exact HO_3.out) hg hat); have n1_ := Aside0.mk (hb); have n2_ := Aside0.mk ((show Kd.C Kd.string w40 Ao36 y215.length y215 from by rw [Ny215.out]; exact Kd.C_take (m := (x6_2 : Int).toNat) ((Kd.R_reads' (Kd.R_after (ok := (fun _ => True)) (by (with_reducible repeat (first | apply Kd.R_alloc | apply Kd.R_drewN | apply Kd.R_drew)); exact HO_3.out) hg hat)).2.2) KL39.out)); have n3_ := Aside0.mk (ho); clear HO_3; clear HB; clear HR218; clear HO214; have HO_3 := n0_; have HB := n1_; have HR218 := n2_; have HO221 := n3_; clear n0_ n1_ n2_ n3_; clear ho hb hg hat) | ((with_reducible refine gate_builtin (b := .append) (xs := #[.tmp 51, .tmp 53]) rfl ?_); at_builtin; refine Kd.R_append Kd.string (w0 := w) w.heap.size rfl (.tmp 51) (.tmp 53) 31 9 (.string ⟨#[]⟩) 16 rfl Try.underlying31 info9 rfl (by decide) (by omega) v220 y219 ((a0.extract (x4_1 : Int).toNat a0.size) ++ (a0.extract 0 (x4_1 : Int).toNat)) [.string ((a0.extract (x4_1 : Int).toNat a0.size) ++ (a0.extract 0 (x4_1 : Int).toNat))] (fun k_ => some k_ ≠ (.slice Ao36 x3_1.length co36 : Value).ownBlock) (fun _ => False) rfl rfl ?aP (fun _ hk => hk.elim) ?aF ?aO ?aB ?aS ?aL ?_; (case aP => exact rfl); (case aB => exact (by repeat (first | (with_reducible first | exact HB.out | apply below_alloc | apply pw_below_drewN | apply below_drew1) | exact HB.out))); (case aF => exact (fun k_ hk => Kd.fresh' (Kd.R_lt (by (with_reducible repeat (first | apply Kd.R_alloc | apply Kd.R_drewN | apply Kd.R_drew)); exact HO_3.out)) k_ hk)); (case aO => exact (by (with_reducible repeat (first | apply Kd.R_alloc | apply Kd.R_drewN | apply Kd.R_drew)); exact HO221.out)); (case aS => exact (below_size (by repeat (first | (with_reducible first | exact HB.out | apply below_alloc | apply pw_below_drewN | apply below_drew1) | exact HB.out)))); (case aL => have := LMc32.out; omega); intro v223 w41 ho hb hg hat; rw [← Ny222.out] at ho; have n0_ := Aside0.mk (Kd.R_after (ok := (fun _ => True)) (by (with_reducible repeat (first | apply Kd.R_alloc | apply Kd.R_drewN | apply Kd.R_drew)); exact HO_3.out) hg hat); have n1_ := Aside0.mk (hb); have n2_ := Aside0.mk ((show Kd.C Kd.string w41 Ao36 y215.length y215 from by rw [Ny215.out]; exact Kd.C_take (m := (x6_2 : Int).toNat) ((Kd.R_reads' (Kd.R_after (ok := (fun _ => True)) (by (with_reducible repeat (first | apply Kd.R_alloc | apply Kd.R_drewN | apply Kd.R_drew)); exact HO_3.out) hg hat)).2.2) KL39.out)); have n3_ := Aside0.mk (ho); clear HO_3; clear HB; clear HR218; clear HO221; have HO_3 := n0_; have HB := n1_; have HR218 := n2_; have HO224 := n3_; clear n0_ n1_ n2_ n3_; clear ho hb hg hat; have q42 : (x6_2 : Int) ≤ ((x3_1.length : Int) : Int) := of_decide_eq_true (by first | (with_reducible assumption) | assumption); obtain ⟨i042, hi042, _, hsz42, _⟩ := info_parts info9; have hroom42 : x3_1.length ≤ co36 := (Kd.R_reads' HO_3.out).2.1; have hC42 : Kd.C Kd.string _ Ao36 x3_1.length x3_1 := (Kd.R_reads' HO_3.out).2.2; have q042 : (0 : Int) ≤ (x6_2 : Int) := of_decide_eq_true (by first | (with_reducible assumption) | assumption); have hcut42 := cut_from (P := Try.prog) 31 9 .i64 Try.underlying31 hi042 1 hsz42 Ao36 x3_1.length co36 x6_2 q042 q42; have hr42 := Kd.C_drop (m := (x6_2 : Int).toNat) (c := co36) hC42 (by omega) hroom42; obtain ⟨A42, hA42⟩ : ∃ A1, A1 = (if co36 = (x6_2 : Int).toNat then Ao36 else (Ao36 : Option Addr).map (·.add ((x6_2 : Int).toNat * 1))) := ⟨_, rfl⟩; obtain ⟨c42, hc42⟩ : ∃ c1, c1 = co36 - (x6_2 : Int).toNat := ⟨_, rfl⟩; have hy42 : y225.length = x3_1.length - (x6_2 : Int).toNat := (by rw [Ny225.out, List.length_drop] <;> omega); rw [show (x3_1).drop (x6_2 : Int).toNat = y225 from Ny225.out.symm] at hr42; replace hr42 : Kd.C Kd.string _ A42 y225.length y225 := (by rw [hA42]; exact hr42); rw [← hy42, ← hA42, ← hc42] at hcut42; have HR228 := Aside0.mk hr42; have HC228 := Aside0.mk (show y225.length ≤ c42 from by rw [hy42, hc42]; exact Nat.sub_le_sub_right hroom42 _); clear hr42 hC42 hroom42 hi042 hsz42 hc42; have KY42 := Aside0.mk hy42; have KA42 := Aside0.mk hA42; clear hy42 hA42; have KL42 := Aside0.mk (show (x6_2 : Int).toNat ≤ x3_1.length from by omega); replace q42 := eq_true q42) | ((with_reducible refine gate_builtin (b := .append) (xs := #[.tmp 55, .tmp 58]) rfl ?_); at_builtin; refine Kd.R_append_rows Kd.string (w0 := w) w.heap.size rfl (.tmp 55) (.tmp 58) 31 9 (.string ⟨#[]⟩) 16 rfl Try.underlying31 info9 rfl (by decide) (by omega) v223 y222 y225 _ _ _ (fun k_ => some k_ ≠ (.slice Ao36 x3_1.length co36 : Value).ownBlock) (fun _ => False) rfl rfl ?aO ?aR (fun _ _ h => h) (fun _ h => h.elim) ?aF ?aB ?aS ?aL ?_; (case aR => repeat (first | exact (by repeat (first | (with_reducible exact HR228.out) | (with_reducible refine Kd.C_alloc ?_ _) | (with_reducible refine Kd.C_drewN ?_ _) | (with_reducible refine Kd.C_drew ?_) | exact HR228.out)) | (with_reducible refine Kd.C_alloc ?_ _) | (with_reducible refine Kd.C_drewN ?_ _) | (with_reducible refine Kd.C_drew ?_))); (case aB => exact (by repeat (first | (with_reducible first | exact HB.out | apply below_alloc | apply pw_below_drewN | apply below_drew1) | exact HB.out))); (case aF => exact (fun k_ hk => Kd.fresh' (Kd.R_lt (by (with_reducible repeat (first | apply Kd.R_alloc | apply Kd.R_drewN | apply Kd.R_drew)); exact HO_3.out)) k_ hk)); (case aO => exact (by (with_reducible repeat (first | apply Kd.R_alloc | apply Kd.R_drewN | apply Kd.R_drew)); exact HO224.out)); (case aS => exact (below_size (by repeat (first | (with_reducible first | exact HB.out | apply below_alloc | apply pw_below_drewN | apply below_drew1) | exact HB.out)))); (case aL => have := LMc35.out; omega); intro v230 w43 ho hb hg hat; rw [← Ny229.out] at ho; have n0_ := Aside0.mk (Kd.R_after (ok := (fun _ => True)) (by (with_reducible repeat (first | apply Kd.R_alloc | apply Kd.R_drewN | apply Kd.R_drew)); exact HO_3.out) hg hat); have n1_ := Aside0.mk (hb); have n2_ := Aside0.mk ((show Kd.C Kd.string w43 Ao36 y215.length y215 from by rw [Ny215.out]; exact Kd.C_take (m := (x6_2 : Int).toNat) ((Kd.R_reads' (Kd.R_after (ok := (fun _ => True)) (by (with_reducible repeat (first | apply Kd.R_alloc | apply Kd.R_drewN | apply Kd.R_drew)); exact HO_3.out) hg hat)).2.2) KL39.out)); have n3_ := Aside0.mk ((show Kd.C Kd.string w43 A42 y225.length y225 from by rw [Ny225.out, KA42.out]; exact Kd.C_drop (m := (x6_2 : Int).toNat) (c := co36) ((Kd.R_reads' (Kd.R_after (ok := (fun _ => True)) (by (with_reducible repeat (first | apply Kd.R_alloc | apply Kd.R_drewN | apply Kd.R_drew)); exact HO_3.out) hg hat)).2.2) KL42.out ((Kd.R_reads' (Kd.R_after (ok := (fun _ => True)) (by (with_reducible repeat (first | apply Kd.R_alloc | apply Kd.R_drewN | apply Kd.R_drew)); exact HO_3.out) hg hat)).2.1))); have n4_ := Aside0.mk (ho); clear HO_3; clear HB; clear HR218; clear HR228; clear HO224; have HO_3 := n0_; have HB := n1_; have HR218 := n2_; have HR228 := n3_; have HO231 := n4_; clear n0_ n1_ n2_ n3_ n4_; clear ho hb hg hat)))
               go_roundg k2
               case measure => have := HK1.out; have := HK2.out; omega
               case rel => exact ⟨(y229), (wrap64 (x4_1 + 1)), (by first | rfl | (simp; done) | (simp [*]; done)), H', ⟨by have := HK1.out; have := HK2.out; omega⟩, ⟨by (with_reducible repeat (first | apply Kd.R_alloc | apply Kd.R_drewN | apply Kd.R_drew)); exact Kd.R_mono HO231.out (fun _ hk => trivial)⟩, ⟨by repeat (first | (with_reducible first | exact HB.out | apply below_alloc | apply pw_below_drewN | apply below_drew1) | exact HB.out)⟩⟩
              ·rw [if_neg c35] at H
               exact absurd H (by simp)
             ·rw [if_neg c32] at H
              exact absurd H (by simp)
            ·rw [if_neg c31] at H
             exact absurd H (by simp)
           ·rw [if_neg c30] at H
            exact absurd H (by simp)
          ·rw [if_neg c29] at H
           exact absurd H (by simp)
      ·rw [if_neg c7] at H
       exact absurd H (by simp)
     ·rw [if_neg c4] at H
      exact absurd H (by simp)
    ·rw [if_neg c3] at H
     exact absurd H (by simp)
   ·rw [if_neg c2] at H
    have c2b0 : decide (x4_1 < (a0.size : Int)) = false := decide_eq_false c2
    clear c2
    obtain rfl := Option.some.inj H
    go_wp2
    repeat (go_quiet (fail); try go_wp2)
    go_ret
    exact ⟨_, by first | rfl | (simp [errW_none, errW_some] <;> rfl) | (simp [*, errW_none, errW_some] <;> rfl), by (with_reducible repeat (first | apply Kd.R_alloc | apply Kd.R_drewN | apply Kd.R_drew)); exact HO_3.out, by repeat (first | (with_reducible first | exact HB.out | apply below_alloc | apply pw_below_drewN | apply below_drew1) | exact HB.out)⟩

end Go.Proofs.Ytkphmbcoefkilaa.P

-- PFspecCentreOf
namespace Go.Proofs.Ytkphmbcoefkilaa.P
open Go.RowKit Go.Proofs.YtkphmbcoefkilaaW.PrintWords Go.Proofs.YtkphmbcoefkilaaW.PrintLast
set_option linter.unusedVariables false
set_option linter.unusedSimpArgs false

/-! ### spec_CentreOf: function 20 -/
end Go.Proofs.Ytkphmbcoefkilaa.P

-- PFspecl1Least
namespace Go.Proofs.Ytkphmbcoefkilaa.P
open Go.RowKit Go.Proofs.YtkphmbcoefkilaaW.PrintWords Go.Proofs.YtkphmbcoefkilaaW.PrintLast
set_option linter.unusedVariables false
set_option linter.unusedSimpArgs false

/-! ### spec_l1Least: function 50 -/
def spec_l1Least.f (a0 : Int) (a1 : Int) : Option (Int) := if a0 < a1 then (some a0) else (some a1)
set_option maxHeartbeats 8000000 in
set_option maxRecDepth 100000 in
theorem spec_l1Least.calls (a0 : Int) (a1 : Int) (r : Int) (w : World) (h : spec_l1Least.f a0 a1 = some r) :
  Calls Try.prog 50 #[.int .i64 a0, .int .i64 a1] w fun e w' => e = .returned (.int .i64 r) ∧ Drawn0 w w' := by
 have H : (if a0 < a1 then (some a0) else (some a1)) = some r := h
 clear h
 by_cases c3 : a0 < a1
 ·rw [if_pos c3] at H
  have c3b0 : decide (a0 < a1) = true := decide_eq_true c3
  clear c3
  obtain rfl := Option.some.inj H
  go_enter Try.func50, Try.ntmps50
  go_wp2
  go_ret
  exact ⟨by first | rfl | (simp; done) | (simp [*]; done), by repeat (first | exact Drawn0.refl _ | apply Drawn0.step)⟩
 ·rw [if_neg c3] at H
  have c3b0 : decide (a0 < a1) = false := decide_eq_false c3
  clear c3
  obtain rfl := Option.some.inj H
  go_enter Try.func50, Try.ntmps50
  go_wp2
  go_ret
  exact ⟨by first | rfl | (simp; done) | (simp [*]; done), by repeat (first | exact Drawn0.refl _ | apply Drawn0.step)⟩

end Go.Proofs.Ytkphmbcoefkilaa.P

-- PFspecIsBalanced
namespace Go.Proofs.Ytkphmbcoefkilaa.P
open Go.RowKit Go.Proofs.YtkphmbcoefkilaaW.PrintWords Go.Proofs.YtkphmbcoefkilaaW.PrintLast
set_option linter.unusedVariables false
set_option linter.unusedSimpArgs false

/-! ### spec_IsBalanced: function 16 -/
mutual
def spec_IsBalanced.l0 : Nat → ByteArray → Int → Option (Bool × Bool)
 | 0, _, _ => none
 | k + 1, x0, x4 => if x4 < (x0.size : Int) then (spec_IsBalanced.l1 k x0 x4 x4 0 0) else (some (true, true))
def spec_IsBalanced.l1 : Nat → ByteArray → Int → Int → Int → Int → Option (Bool × Bool)
 | 0, _, _, _, _, _ => none
 | k + 1, x0, x4, x5, x6, x7 => if (wrap64 (x7 + x4)) ≤ (x0.size : Int) then (if 0 ≤ x7 then (if x7 ≤ (wrap64 (x7 + x4)) then ((spec_chMany.f k (x0.extract (x7 : Int).toNat ((wrap64 (x7 + x4)) : Int).toNat)).bind fun t118 => ((spec_l1Least.f x5 t118).bind fun t119 => ((spec_l1Most.f x6 t118).bind fun t120 => (spec_IsBalanced.l1 k x0 x4 t119 t120 (wrap64 (x7 + 1)))))) else (none)) else (none)) else (if x6 > (wrap64 (x5 + 1)) then (some (false, true)) else (spec_IsBalanced.l0 k x0 (wrap64 (x4 + 1))))
end
def spec_IsBalanced.f (k : Nat) (a0 : ByteArray) : Option (Bool × Bool) := (spec_chLetters.f k a0).bind fun t117 => (if t117 = true then (spec_IsBalanced.l0 k a0 1) else (some (false, false)))
theorem spec_IsBalanced.mono_l : ∀ k, (∀ y0 y1, LeO (spec_IsBalanced.l0 k y0 y1) (spec_IsBalanced.l0 (k + 1) y0 y1)) ∧ (∀ y0 y1 y2 y3 y4, LeO (spec_IsBalanced.l1 k y0 y1 y2 y3 y4) (spec_IsBalanced.l1 (k + 1) y0 y1 y2 y3 y4))
 | 0 => ⟨fun _ _ r h => by simp [spec_IsBalanced.l0] at h, fun _ _ _ _ _ r h => by simp [spec_IsBalanced.l1] at h⟩
 | k + 1 => by
  obtain ⟨ih0, ih1⟩ := spec_IsBalanced.mono_l k
  refine ⟨?_, ?_⟩
  ·intro y0 y1
   unfold spec_IsBalanced.l0
   repeat' first
   | (with_reducible exact ih0 _ _)
   | (with_reducible exact ih1 _ _ _ _ _)
   | (with_reducible exact spec_chLetters.mono _ _)
   | (with_reducible exact spec_chMany.mono _ _)
   | (with_reducible exact LeO.refl _)
   | (with_reducible exact LeO.none _)
   | (with_reducible refine LeO.ite ?_ ?_)
   | (with_reducible refine LeO.bind ?_ (fun _ => ?_))
   | exact ih0 _ _
   | exact ih1 _ _ _ _ _
   | exact spec_chLetters.mono _ _
   | exact spec_chMany.mono _ _
   | exact LeO.none _
   | refine LeO.ite ?_ ?_
   | refine LeO.bind ?_ (fun _ => ?_)
  ·intro y0 y1 y2 y3 y4
   unfold spec_IsBalanced.l1
   repeat' first
   | (with_reducible exact ih0 _ _)
   | (with_reducible exact ih1 _ _ _ _ _)
   | (with_reducible exact spec_chLetters.mono _ _)
   | (with_reducible exact spec_chMany.mono _ _)
   | (with_reducible exact LeO.refl _)
   | (with_reducible exact LeO.none _)
   | (with_reducible refine LeO.ite ?_ ?_)
   | (with_reducible refine LeO.bind ?_ (fun _ => ?_))
   | exact ih0 _ _
   | exact ih1 _ _ _ _ _
   | exact spec_chLetters.mono _ _
   | exact spec_chMany.mono _ _
   | exact LeO.none _
   | refine LeO.ite ?_ ?_
   | refine LeO.bind ?_ (fun _ => ?_)
theorem spec_IsBalanced.mono : ∀ a0 k, LeO (spec_IsBalanced.f k a0) (spec_IsBalanced.f (k + 1) a0) := by
 intro a0 k
 obtain ⟨ih0, ih1⟩ := spec_IsBalanced.mono_l k
 unfold spec_IsBalanced.f
 repeat' first
   | (with_reducible exact ih0 _ _)
   | (with_reducible exact ih1 _ _ _ _ _)
   | (with_reducible exact spec_chLetters.mono _ _)
   | (with_reducible exact spec_chMany.mono _ _)
   | (with_reducible exact LeO.refl _)
   | (with_reducible exact LeO.none _)
   | (with_reducible refine LeO.ite ?_ ?_)
   | (with_reducible refine LeO.bind ?_ (fun _ => ?_))
   | exact ih0 _ _
   | exact ih1 _ _ _ _ _
   | exact spec_chLetters.mono _ _
   | exact spec_chMany.mono _ _
   | exact LeO.none _
   | refine LeO.ite ?_ ?_
   | refine LeO.bind ?_ (fun _ => ?_)
set_option maxHeartbeats 8000000 in
set_option maxRecDepth 100000 in
theorem spec_IsBalanced.calls (k : Nat) (a0 : ByteArray) (r1 : Bool) (r2 : Bool) (w : World) (h : spec_IsBalanced.f k a0 = some (r1, r2)) :
  Calls Try.prog 16 #[.string a0] w fun e w' => e = .returned (.tuple #[.bool r1, .bool r2]) ∧ Drawn0 w w' := by
 have H : ((spec_chLetters.f k a0).bind fun t117 => (if t117 = true then (spec_IsBalanced.l0 k a0 1) else (some (false, false)))) = some (r1, r2) := h
 clear h
 replace H := Option.bind_eq_some_iff.mp H
 obtain ⟨t117, A20, H⟩ := H
 replace H : (if t117 = true then (spec_IsBalanced.l0 k a0 1) else (some (false, false))) = some (r1, r2) := H
 have A2 := Aside0.mk A20
 clear A20
 by_cases c3 : t117 = true
 ·subst c3
  have H1 : (spec_IsBalanced.l0 k a0 1) = some (r1, r2) := by rw [if_pos rfl] at H; exact H
  clear H
  have H := H1
  clear H1
  have H' := Aside0.mk H
  clear H
  go_enter Try.func16, Try.ntmps16
  go_wp2_with (first | ((with_reducible refine gate_callee (f := 47) rfl ?_); refine goesL_ (some 10) rfl rfl Try.func47 (by kernel_rfl) rfl #[.string a0] rfl (by (try simp only [List.map_toArray, List.map_cons, List.map_nil]); first | done | rfl | (simp only [List.length_drop, List.length_take]; rfl)) ?_; (with_reducible refine (spec_chLetters.calls k a0 true _ A2.out).mono ?_); rintro e w' ⟨rfl, ⟨nd, rfl⟩⟩; refine ⟨_, rfl, ?_⟩))
  go_loopg [4] k (fun kq v4 w' => ∃ (x4_1 : Int), v4 = .int .i64 x4_1 ∧ Aside0 (spec_IsBalanced.l0 kq a0 x4_1 = some (r1, r2)) ∧ Aside0 (kq ≤ k) ∧ Drawn0 w w')
  case atStart => exact ⟨(1), (by first | rfl | (simp; done) | (simp [*]; done)), H', ⟨Nat.le_refl _⟩, by repeat (first | exact Drawn0.refl _ | apply Drawn0.step)⟩
  case round =>
   clear H'
   try clear c1
   try clear p2
   try clear c3
   obtain ⟨x4_1, rfl, HA, HK1, ⟨m1, rfl⟩⟩ := hrel
   cases gk with
   | zero => exact absurd HA.out (by simp [spec_IsBalanced.l0])
   | succ k1 =>
    have H := HA.out
    clear HA
    simp only [spec_IsBalanced.l0] at H
    by_cases c4 : x4_1 < (a0.size : Int)
    ·rw [if_pos c4] at H
     have c4b0 : decide (x4_1 < (a0.size : Int)) = true := decide_eq_true c4
     clear c4
     have H' := Aside0.mk H
     clear H
     go_wp2
     go_loopg [5, 6, 7] k1 (fun kq v5 v6 v7 w' => ∃ (x5_2 : Int) (x6_2 : Int) (x7_2 : Int), v5 = .int .i64 x5_2 ∧ v6 = .int .i64 x6_2 ∧ v7 = .int .i64 x7_2 ∧ Aside0 (spec_IsBalanced.l1 kq a0 x4_1 x5_2 x6_2 x7_2 = some (r1, r2)) ∧ Aside0 (kq ≤ k1) ∧ Drawn0 w w')
     case atStart => exact ⟨(x4_1), (0), (0), (by first | rfl | (simp; done) | (simp [*]; done)), (by first | rfl | (simp; done) | (simp [*]; done)), (by first | rfl | (simp; done) | (simp [*]; done)), H', ⟨Nat.le_refl _⟩, by repeat (first | exact Drawn0.refl _ | apply Drawn0.step)⟩
     case round =>
      clear H'
      try clear c1
      try clear p2
      try clear c3
      try clear c4
      try clear c4b0
      try clear p2
      obtain ⟨x5_2, x6_2, x7_2, rfl, rfl, rfl, HA, HK2, ⟨m2, rfl⟩⟩ := hrel
      cases gk with
      | zero => exact absurd HA.out (by simp [spec_IsBalanced.l1])
      | succ k2 =>
       have H := HA.out
       clear HA
       simp only [spec_IsBalanced.l1] at H
       by_cases c5 : (wrap64 (x7_2 + x4_1)) ≤ (a0.size : Int)
       ·rw [if_pos c5] at H
        have c5b0 : decide ((wrap64 (x7_2 + x4_1)) ≤ (a0.size : Int)) = true := decide_eq_true c5
        clear c5
        by_cases c6 : 0 ≤ x7_2
        ·rw [if_pos c6] at H
         have c6b0 := eq_true c6
         have c6b1 : decide (0 ≤ x7_2) = true := decide_eq_true c6
         clear c6
         by_cases c7 : x7_2 ≤ (wrap64 (x7_2 + x4_1))
         ·rw [if_pos c7] at H
          have c7b0 := eq_true c7
          have c7b1 : decide (x7_2 ≤ (wrap64 (x7_2 + x4_1))) = true := decide_eq_true c7
          have c8b0 := eq_true (of_decide_eq_true (by first | (with_reducible assumption) | assumption) : (wrap64 (x7_2 + x4_1)) ≤ (a0.size : Int))
          replace H := Option.bind_eq_some_iff.mp H
          obtain ⟨t118, A90, H⟩ := H
          replace H : ((spec_l1Least.f x5_2 t118).bind fun t119 => ((spec_l1Most.f x6_2 t118).bind fun t120 => (spec_IsBalanced.l1 k2 a0 x4_1 t119 t120 (wrap64 (x7_2 + 1))))) = some (r1, r2) := H
          have A9 := Aside0.mk A90
          clear A90
          replace H := Option.bind_eq_some_iff.mp H
          obtain ⟨t119, A100, H⟩ := H
          replace H : ((spec_l1Most.f x6_2 t118).bind fun t120 => (spec_IsBalanced.l1 k2 a0 x4_1 t119 t120 (wrap64 (x7_2 + 1)))) = some (r1, r2) := H
          have A10 := Aside0.mk A100
          clear A100
          replace H := Option.bind_eq_some_iff.mp H
          obtain ⟨t120, A110, H⟩ := H
          replace H : (spec_IsBalanced.l1 k2 a0 x4_1 t119 t120 (wrap64 (x7_2 + 1))) = some (r1, r2) := H
          have A11 := Aside0.mk A110
          clear A110
          have H' := Aside0.mk H
          clear H
          go_wp2_with (first | ((with_reducible refine gate_callee (f := 48) rfl ?_); refine goesL_ (some 33) rfl rfl Try.func48 (by kernel_rfl) rfl #[.string (a0.extract (x7_2 : Int).toNat ((wrap64 (x7_2 + x4_1)) : Int).toNat)] rfl (by (try simp only [List.map_toArray, List.map_cons, List.map_nil]); first | done | rfl | (simp only [List.length_drop, List.length_take]; rfl)) ?_; (with_reducible refine (spec_chMany.calls k2 (a0.extract (x7_2 : Int).toNat ((wrap64 (x7_2 + x4_1)) : Int).toNat) t118 _ A9.out).mono ?_); rintro e w' ⟨rfl, ⟨nd, rfl⟩⟩; refine ⟨_, rfl, ?_⟩) | ((with_reducible refine gate_callee (f := 50) rfl ?_); refine goesL_ (some 36) rfl rfl Try.func50 (by kernel_rfl) rfl #[.int .i64 x5_2, .int .i64 t118] rfl (by (try simp only [List.map_toArray, List.map_cons, List.map_nil]); first | done | rfl | (simp only [List.length_drop, List.length_take]; rfl)) ?_; (with_reducible refine (spec_l1Least.calls x5_2 t118 t119 _ A10.out).mono ?_); rintro e w' ⟨rfl, ⟨nd, rfl⟩⟩; refine ⟨_, rfl, ?_⟩) | ((with_reducible refine gate_callee (f := 51) rfl ?_); refine goesL_ (some 39) rfl rfl Try.func51 (by kernel_rfl) rfl #[.int .i64 x6_2, .int .i64 t118] rfl (by (try simp only [List.map_toArray, List.map_cons, List.map_nil]); first | done | rfl | (simp only [List.length_drop, List.length_take]; rfl)) ?_; (with_reducible refine (spec_l1Most.calls x6_2 t118 t120 _ A11.out).mono ?_); rintro e w' ⟨rfl, ⟨nd, rfl⟩⟩; refine ⟨_, rfl, ?_⟩))
          go_roundg k2
          case measure => have := HK1.out; have := HK2.out; omega
          case rel => exact ⟨(t119), (t120), (wrap64 (x7_2 + 1)), (by first | rfl | (simp; done) | (simp [*]; done)), (by first | rfl | (simp; done) | (simp [*]; done)), (by first | rfl | (simp; done) | (simp [*]; done)), H', ⟨by have := HK1.out; have := HK2.out; omega⟩, by repeat (first | exact Drawn0.refl _ | apply Drawn0.step)⟩
         ·rw [if_neg c7] at H
          exact absurd H (by simp)
        ·rw [if_neg c6] at H
         exact absurd H (by simp)
       ·rw [if_neg c5] at H
        have c5b0 : decide ((wrap64 (x7_2 + x4_1)) ≤ (a0.size : Int)) = false := decide_eq_false c5
        clear c5
        by_cases c12 : x6_2 > (wrap64 (x5_2 + 1))
        ·rw [if_pos c12] at H
         have c12b0 : decide ((wrap64 (x5_2 + 1)) < x6_2) = true := decide_eq_true c12
         clear c12
         simp only [Option.some.injEq, Prod.mk.injEq] at H
         obtain ⟨rfl, rfl⟩ := H
         go_wp2
         go_ret2
         exact ⟨by first | rfl | (simp; done) | (simp [*]; done), by repeat (first | exact Drawn0.refl _ | apply Drawn0.step)⟩
        ·rw [if_neg c12] at H
         have c12b0 : decide ((wrap64 (x5_2 + 1)) < x6_2) = false := decide_eq_false c12
         clear c12
         have H' := Aside0.mk H
         clear H
         go_wp2
         go_roundg k2
         case measure => have := HK1.out; have := HK2.out; omega
         case rel => exact ⟨(wrap64 (x4_1 + 1)), (by first | rfl | (simp; done) | (simp [*]; done)), H', ⟨by have := HK1.out; have := HK2.out; omega⟩, by repeat (first | exact Drawn0.refl _ | apply Drawn0.step)⟩
    ·rw [if_neg c4] at H
     have c4b0 : decide (x4_1 < (a0.size : Int)) = false := decide_eq_false c4
     clear c4
     simp only [Option.some.injEq, Prod.mk.injEq] at H
     obtain ⟨rfl, rfl⟩ := H
     go_wp2
     go_ret2
     exact ⟨by first | rfl | (simp; done) | (simp [*]; done), by repeat (first | exact Drawn0.refl _ | apply Drawn0.step)⟩
 ·replace c3 := Bool.eq_false_iff.mpr c3
  subst c3
  have H1 : (some (false, false)) = some (r1, r2) := by rw [if_neg (show ¬ (false = true) by decide)] at H; exact H
  clear H
  have H := H1
  clear H1
  simp only [Option.some.injEq, Prod.mk.injEq] at H
  obtain ⟨rfl, rfl⟩ := H
  go_enter Try.func16, Try.ntmps16
  go_wp2_with (first | ((with_reducible refine gate_callee (f := 47) rfl ?_); refine goesL_ (some 10) rfl rfl Try.func47 (by kernel_rfl) rfl #[.string a0] rfl (by (try simp only [List.map_toArray, List.map_cons, List.map_nil]); first | done | rfl | (simp only [List.length_drop, List.length_take]; rfl)) ?_; (with_reducible refine (spec_chLetters.calls k a0 false _ A2.out).mono ?_); rintro e w' ⟨rfl, ⟨nd, rfl⟩⟩; refine ⟨_, rfl, ?_⟩))
  go_ret2
  exact ⟨by first | rfl | (simp; done) | (simp [*]; done), by repeat (first | exact Drawn0.refl _ | apply Drawn0.step)⟩

end Go.Proofs.Ytkphmbcoefkilaa.P

-- PFspecMirrorWord
namespace Go.Proofs.Ytkphmbcoefkilaa.P
open Go.RowKit Go.Proofs.YtkphmbcoefkilaaW.PrintWords Go.Proofs.YtkphmbcoefkilaaW.PrintLast
set_option linter.unusedVariables false
set_option linter.unusedSimpArgs false

/-! ### spec_MirrorWord: function 43 -/
def spec_MirrorWord.l0 : Nat → ByteArray → ByteArray → Int → Option (ByteArray × Bool)
 | 0, _, _, _ => none
 | k + 1, x0, x4, x5 => if x5 ≥ 0 then (if 0 ≤ x5 then (if x5 < (x0.size : Int) then (if (bt x0 x5) = 97 then (if x4.size + 1 ≤ 9223372036854775807 then (spec_MirrorWord.l0 k x0 (x4 ++ (⟨#[98]⟩ : ByteArray)) (wrap64 (x5 - 1))) else (none)) else (if x4.size + 1 ≤ 9223372036854775807 then (spec_MirrorWord.l0 k x0 (x4 ++ (⟨#[97]⟩ : ByteArray)) (wrap64 (x5 - 1))) else (none))) else (none)) else (none)) else (some (x4, true))
def spec_MirrorWord.f (k : Nat) (a0 : ByteArray) : Option (ByteArray × Bool) := (spec_chLetters.f k a0).bind fun t463 => (if t463 = true then (spec_MirrorWord.l0 k a0 (⟨#[]⟩ : ByteArray) (wrap64 ((a0.size : Int) - 1))) else (some ((⟨#[]⟩ : ByteArray), false)))
theorem spec_MirrorWord.mono_l : ∀ k, (∀ y0 y1 y2, LeO (spec_MirrorWord.l0 k y0 y1 y2) (spec_MirrorWord.l0 (k + 1) y0 y1 y2))
 | 0 => fun _ _ _ r h => by simp [spec_MirrorWord.l0] at h
 | k + 1 => by
  have ih0 := spec_MirrorWord.mono_l k
  ·intro y0 y1 y2
   unfold spec_MirrorWord.l0
   repeat' first
   | (with_reducible exact ih0 _ _ _)
   | (with_reducible exact spec_chLetters.mono _ _)
   | (with_reducible exact LeO.refl _)
   | (with_reducible exact LeO.none _)
   | (with_reducible refine LeO.ite ?_ ?_)
   | (with_reducible refine LeO.bind ?_ (fun _ => ?_))
   | exact ih0 _ _ _
   | exact spec_chLetters.mono _ _
   | exact LeO.none _
   | refine LeO.ite ?_ ?_
   | refine LeO.bind ?_ (fun _ => ?_)
theorem spec_MirrorWord.mono : ∀ a0 k, LeO (spec_MirrorWord.f k a0) (spec_MirrorWord.f (k + 1) a0) := by
 intro a0 k
 have ih0 := spec_MirrorWord.mono_l k
 unfold spec_MirrorWord.f
 repeat' first
   | (with_reducible exact ih0 _ _ _)
   | (with_reducible exact spec_chLetters.mono _ _)
   | (with_reducible exact LeO.refl _)
   | (with_reducible exact LeO.none _)
   | (with_reducible refine LeO.ite ?_ ?_)
   | (with_reducible refine LeO.bind ?_ (fun _ => ?_))
   | exact ih0 _ _ _
   | exact spec_chLetters.mono _ _
   | exact LeO.none _
   | refine LeO.ite ?_ ?_
   | refine LeO.bind ?_ (fun _ => ?_)
set_option maxHeartbeats 8000000 in
set_option maxRecDepth 100000 in
theorem spec_MirrorWord.calls (k : Nat) (a0 : ByteArray) (r1 : ByteArray) (r2 : Bool) (w : World) (h : spec_MirrorWord.f k a0 = some (r1, r2)) :
  Calls Try.prog 43 #[.string a0] w fun e w' => e = .returned (.tuple #[.string r1, .bool r2]) ∧ Drawn0 w w' := by
 have H : ((spec_chLetters.f k a0).bind fun t463 => (if t463 = true then (spec_MirrorWord.l0 k a0 (⟨#[]⟩ : ByteArray) (wrap64 ((a0.size : Int) - 1))) else (some ((⟨#[]⟩ : ByteArray), false)))) = some (r1, r2) := h
 clear h
 replace H := Option.bind_eq_some_iff.mp H
 obtain ⟨t463, A20, H⟩ := H
 replace H : (if t463 = true then (spec_MirrorWord.l0 k a0 (⟨#[]⟩ : ByteArray) (wrap64 ((a0.size : Int) - 1))) else (some ((⟨#[]⟩ : ByteArray), false))) = some (r1, r2) := H
 have A2 := Aside0.mk A20
 clear A20
 by_cases c3 : t463 = true
 ·subst c3
  have H1 : (spec_MirrorWord.l0 k a0 (⟨#[]⟩ : ByteArray) (wrap64 ((a0.size : Int) - 1))) = some (r1, r2) := by rw [if_pos rfl] at H; exact H
  clear H
  have H := H1
  clear H1
  have H' := Aside0.mk H
  clear H
  go_enter Try.func43, Try.ntmps43
  go_wp2_with (first | ((with_reducible refine gate_callee (f := 47) rfl ?_); refine goesL_ (some 7) rfl rfl Try.func47 (by kernel_rfl) rfl #[.string a0] rfl (by (try simp only [List.map_toArray, List.map_cons, List.map_nil]); first | done | rfl | (simp only [List.length_drop, List.length_take]; rfl)) ?_; (with_reducible refine (spec_chLetters.calls k a0 true _ A2.out).mono ?_); rintro e w' ⟨rfl, ⟨nd, rfl⟩⟩; refine ⟨_, rfl, ?_⟩))
  go_loopg [4, 5] k (fun kq v4 v5 w' => ∃ (x4_1 : ByteArray) (x5_1 : Int), v4 = .string x4_1 ∧ v5 = .int .i64 x5_1 ∧ Aside0 (spec_MirrorWord.l0 kq a0 x4_1 x5_1 = some (r1, r2)) ∧ Aside0 (kq ≤ k) ∧ Drawn0 w w')
  case atStart => exact ⟨((⟨#[]⟩ : ByteArray)), (wrap64 ((a0.size : Int) - 1)), (by first | rfl | (simp; done) | (simp [*]; done)), (by first | rfl | (simp; done) | (simp [*]; done)), H', ⟨Nat.le_refl _⟩, by repeat (first | exact Drawn0.refl _ | apply Drawn0.step)⟩
  case round =>
   clear H'
   try clear p2
   try clear c3
   obtain ⟨x4_1, x5_1, rfl, rfl, HA, HK1, ⟨m1, rfl⟩⟩ := hrel
   cases gk with
   | zero => exact absurd HA.out (by simp [spec_MirrorWord.l0])
   | succ k1 =>
    have H := HA.out
    clear HA
    simp only [spec_MirrorWord.l0] at H
    by_cases c4 : x5_1 ≥ 0
    ·rw [if_pos c4] at H
     have c4b0 : decide (0 ≤ x5_1) = true := decide_eq_true c4
     clear c4
     by_cases c5 : 0 ≤ x5_1
     ·rw [if_pos c5] at H
      have c5b0 : decide (0 ≤ x5_1) = true := decide_eq_true c5
      clear c5
      by_cases c6 : x5_1 < (a0.size : Int)
      ·rw [if_pos c6] at H
       have c6b0 : decide (x5_1 < (a0.size : Int)) = true := decide_eq_true c6
       clear c6
       by_cases c8 : (bt a0 x5_1) = 97
       ·rw [if_pos c8] at H
        have c8b0 : ((bt a0 x5_1) == 97) = true := beq_iff_eq.mpr c8
        have c8b1 : ((bt a0 x5_1) != 97) = false := bne_eq_false_iff_eq.mpr c8
        clear c8
        by_cases c9 : x4_1.size + 1 ≤ 9223372036854775807
        ·rw [if_pos c9] at H
         have c9b0 := eq_true c9
         have c9b1 : decide (x4_1.size + 1 ≤ 9223372036854775807) = true := decide_eq_true c9
         try have c9b2 : (9223372036854775807 < x4_1.size + 1) = False := eq_false (Nat.not_lt.2 c9)
         have H' := Aside0.mk H
         clear H
         have p7 : 0 ≤ (x5_1 : Int) := of_decide_eq_true (by first | (with_reducible assumption) | assumption)
         have q7 : x5_1 < (a0.size : Int) := of_decide_eq_true (by first | (with_reducible assumption) | assumption)
         have hx7 := bt_at a0 x5_1
         replace p7 := eq_true p7
         replace q7 := eq_true q7
         go_wp2
         go_roundg k1
         case measure => have := HK1.out; omega
         case rel => exact ⟨(x4_1 ++ (⟨#[98]⟩ : ByteArray)), (wrap64 (x5_1 - 1)), (by first | rfl | (simp; done) | (simp [*]; done)), (by first | rfl | (simp; done) | (simp [*]; done)), H', ⟨by have := HK1.out; omega⟩, by repeat (first | exact Drawn0.refl _ | apply Drawn0.step)⟩
        ·rw [if_neg c9] at H
         exact absurd H (by simp)
       ·rw [if_neg c8] at H
        have c8b0 : ((bt a0 x5_1) == 97) = false := beq_eq_false_iff_ne.mpr c8
        have c8b1 : ((bt a0 x5_1) != 97) = true := bne_iff_ne.mpr c8
        by_cases c10 : x4_1.size + 1 ≤ 9223372036854775807
        ·rw [if_pos c10] at H
         have c10b0 := eq_true c10
         have c10b1 : decide (x4_1.size + 1 ≤ 9223372036854775807) = true := decide_eq_true c10
         try have c10b2 : (9223372036854775807 < x4_1.size + 1) = False := eq_false (Nat.not_lt.2 c10)
         have H' := Aside0.mk H
         clear H
         have p7 : 0 ≤ (x5_1 : Int) := of_decide_eq_true (by first | (with_reducible assumption) | assumption)
         have q7 : x5_1 < (a0.size : Int) := of_decide_eq_true (by first | (with_reducible assumption) | assumption)
         have hx7 := bt_at a0 x5_1
         replace p7 := eq_true p7
         replace q7 := eq_true q7
         go_wp2
         go_roundg k1
         case measure => have := HK1.out; omega
         case rel => exact ⟨(x4_1 ++ (⟨#[97]⟩ : ByteArray)), (wrap64 (x5_1 - 1)), (by first | rfl | (simp; done) | (simp [*]; done)), (by first | rfl | (simp; done) | (simp [*]; done)), H', ⟨by have := HK1.out; omega⟩, by repeat (first | exact Drawn0.refl _ | apply Drawn0.step)⟩
        ·rw [if_neg c10] at H
         exact absurd H (by simp)
      ·rw [if_neg c6] at H
       exact absurd H (by simp)
     ·rw [if_neg c5] at H
      exact absurd H (by simp)
    ·rw [if_neg c4] at H
     have c4b0 : decide (0 ≤ x5_1) = false := decide_eq_false c4
     clear c4
     simp only [Option.some.injEq, Prod.mk.injEq] at H
     obtain ⟨rfl, rfl⟩ := H
     go_wp2
     go_ret2
     exact ⟨by first | rfl | (simp; done) | (simp [*]; done), by repeat (first | exact Drawn0.refl _ | apply Drawn0.step)⟩
 ·replace c3 := Bool.eq_false_iff.mpr c3
  subst c3
  have H1 : (some ((⟨#[]⟩ : ByteArray), false)) = some (r1, r2) := by rw [if_neg (show ¬ (false = true) by decide)] at H; exact H
  clear H
  have H := H1
  clear H1
  simp only [Option.some.injEq, Prod.mk.injEq] at H
  obtain ⟨rfl, rfl⟩ := H
  go_enter Try.func43, Try.ntmps43
  go_wp2_with (first | ((with_reducible refine gate_callee (f := 47) rfl ?_); refine goesL_ (some 7) rfl rfl Try.func47 (by kernel_rfl) rfl #[.string a0] rfl (by (try simp only [List.map_toArray, List.map_cons, List.map_nil]); first | done | rfl | (simp only [List.length_drop, List.length_take]; rfl)) ?_; (with_reducible refine (spec_chLetters.calls k a0 false _ A2.out).mono ?_); rintro e w' ⟨rfl, ⟨nd, rfl⟩⟩; refine ⟨_, rfl, ?_⟩))
  go_ret2
  exact ⟨by first | rfl | (simp; done) | (simp [*]; done), by repeat (first | exact Drawn0.refl _ | apply Drawn0.step)⟩

end Go.Proofs.Ytkphmbcoefkilaa.P

-- UChristoffelOf
namespace Go.Proofs.Ytkphmbcoefkilaa.P
set_option linter.unusedVariables false
set_option linter.unusedSimpArgs false
open Go.RowKit Go.Proofs.YtkphmbcoefkilaaW.PrintWords Go.Proofs.YtkphmbcoefkilaaW.PrintLast Go.Proofs.YtkphmbcoefkilaaW.PrintMore

def chOf (a b : Int) : ByteArray × Bool := if 0 ≤ a ∧ 0 ≤ b ∧ a + b ≤ 40 ∧ (Int.gcd a b : Int) = 1 then (chText a b, true) else ((⟨#[]⟩ : ByteArray), false)
theorem in_is (x lo hi : Int) : spec_l1In.f x lo hi = some (decide (lo ≤ x ∧ x ≤ hi)) := by
  unfold spec_l1In.f
  by_cases h : x ≥ lo
  · rw [if_pos h]
    congr 1
    exact decide_eq_decide.2 (by omega)
  · rw [if_neg h, decide_eq_false (by omega)]
theorem within_is (x lo hi : Int) : impl_within.f x lo hi = some (decide (lo ≤ x ∧ x ≤ hi)) := in_is x lo hi
theorem ChristoffelOf_both (a b : Int) (ha : -9223372036854775808 ≤ a) (ha2 : a ≤ 9223372036854775807) (hb : -9223372036854775808 ≤ b) (hb2 : b ≤ 9223372036854775807) :
    Ev (fun k => spec_ChristoffelOf.f k a b) (chOf a b) ∧ Ev (fun k => impl_ChristoffelOf.f k a b) (chOf a b) := by
  unfold spec_ChristoffelOf.f impl_ChristoffelOf.f chOf
  simp only [in_is, within_is, Option.bind_some, decide_eq_true_eq]
  by_cases h1 : 0 ≤ a ∧ a ≤ 40
  · have hw : wrap64 (40 - a) = 40 - a := w64 (by omega) (by omega)
    simp only [h1, and_self, if_true, hw]
    by_cases h2 : 0 ≤ b ∧ b ≤ 40 - a
    · have hw2 : wrap64 (a + b) = a + b := w64 (by omega) (by omega)
      have h3 : 0 ≤ b ∧ b ≤ 40 := by omega
      obtain ⟨c1, c2⟩ := chText_both a b h1.1 h2.1 (by omega)
      have g1 := foGcd_ev a b (by omega) (by omega) (by omega) (by omega)
      have g2 := divisor_ev a b (by omega) (by omega) (by omega) (by omega)
      simp only [h2, h3, and_self, if_true, hw2]
      by_cases h4 : (Int.gcd a b : Int) = 1
      · have h5 : 1 ≤ a + b := by
          rcases Int.lt_or_le (a + b) 1 with h | h
          · exfalso
            obtain rfl : a = 0 := by omega
            obtain rfl : b = 0 := by omega
            simp at h4
          · exact h
        have h6 : a + b ≤ 40 := by omega
        simp only [h4, h5, h6, and_self, if_true]
        constructor
        · refine Ev.bind g1 ?_
          simp only [h4, if_true]
          exact Ev.bind c1 (Ev.is rfl)
        · refine Ev.bind g2 ?_
          simp only [h4, if_true]
          exact Ev.bind c2 (Ev.is rfl)
      · simp only [h4, and_false, if_false]
        constructor
        · refine Ev.bind g1 ?_
          simp only [h4, if_false]
          exact Ev.is rfl
        · by_cases h5 : 1 ≤ a + b ∧ a + b ≤ 40
          · simp only [h5, and_self, if_true]
            refine Ev.bind g2 ?_
            simp only [h4, if_false]
            exact Ev.is rfl
          · simp only [h5, if_false]
            exact Ev.is rfl
    · have h7 : ¬ (0 ≤ a ∧ 0 ≤ b ∧ a + b ≤ 40 ∧ (Int.gcd a b : Int) = 1) := by omega
      have h8 : ¬ (True ∧ 0 ≤ b ∧ a + b ≤ 40 ∧ (Int.gcd a b : Int) = 1) := by omega
      simp only [h2, h8, if_false]
      refine ⟨Ev.is rfl, ?_⟩
      by_cases h3 : 0 ≤ b ∧ b ≤ 40
      · have hw2 : wrap64 (a + b) = a + b := w64 (by omega) (by omega)
        have h5 : ¬ (1 ≤ a + b ∧ a + b ≤ 40) := by omega
        simp only [h3, and_self, if_true, hw2, h5, if_false]
        exact Ev.is rfl
      · simp only [h3, if_false]
        exact Ev.is rfl
  · have h7 : ¬ (0 ≤ a ∧ 0 ≤ b ∧ a + b ≤ 40 ∧ (Int.gcd a b : Int) = 1) := by omega
    simp only [h1, h7, if_false]
    exact ⟨Ev.is rfl, Ev.is rfl⟩
end Go.Proofs.Ytkphmbcoefkilaa.P

-- PFspecTurnsOf
namespace Go.Proofs.Ytkphmbcoefkilaa.P
open Go.RowKit Go.Proofs.YtkphmbcoefkilaaW.PrintWords Go.Proofs.YtkphmbcoefkilaaW.PrintLast
set_option linter.unusedVariables false
set_option linter.unusedSimpArgs false

/-! ### spec_TurnsOf: function 33 -/
def spec_TurnsOf.f (k : Nat) (a0 : ByteArray) : Option (List ByteArray × Bool) := (spec_chLetters.f k a0).bind fun t305 => (if t305 = true then ((spec_chTurns.f k a0).bind fun t306 => (some (t306, true))) else (some (([] : List ByteArray), false)))
theorem spec_TurnsOf.mono : ∀ a0 k, LeO (spec_TurnsOf.f k a0) (spec_TurnsOf.f (k + 1) a0) := by
 intro a0 k
 unfold spec_TurnsOf.f
 repeat' first
   | (with_reducible exact spec_chLetters.mono _ _)
   | (with_reducible exact spec_chTurns.mono _ _)
   | (with_reducible exact LeO.refl _)
   | (with_reducible exact LeO.none _)
   | (with_reducible refine LeO.ite ?_ ?_)
   | (with_reducible refine LeO.bind ?_ (fun _ => ?_))
   | exact spec_chLetters.mono _ _
   | exact spec_chTurns.mono _ _
   | exact LeO.none _
   | refine LeO.ite ?_ ?_
   | refine LeO.bind ?_ (fun _ => ?_)
set_option maxHeartbeats 8000000 in
set_option maxRecDepth 100000 in
theorem spec_TurnsOf.calls (k : Nat) (a0 : ByteArray) (r1 : List ByteArray) (r2 : Bool) (w : World) (h : spec_TurnsOf.f k a0 = some (r1, r2)) :
  Calls Try.prog 33 #[.string a0] w fun e w' => ∃ v0_ : Value, e = .returned (.tuple #[v0_, .bool r2]) ∧ Kd.R Kd.string 9 w' w.heap.size (fun _ => True) v0_ r1 ∧ Below w.heap.size w w' := by
 have HB := Aside0.mk (Below.refl w.heap.size w)
 have H : ((spec_chLetters.f k a0).bind fun t305 => (if t305 = true then ((spec_chTurns.f k a0).bind fun t306 => (some (t306, true))) else (some (([] : List ByteArray), false)))) = some (r1, r2) := h
 clear h
 replace H := Option.bind_eq_some_iff.mp H
 obtain ⟨t305, A20, H⟩ := H
 replace H : (if t305 = true then ((spec_chTurns.f k a0).bind fun t306 => (some (t306, true))) else (some (([] : List ByteArray), false))) = some (r1, r2) := H
 have A2 := Aside0.mk A20
 clear A20
 by_cases c3 : t305 = true
 ·subst c3
  have H1 : ((spec_chTurns.f k a0).bind fun t306 => (some (t306, true))) = some (r1, r2) := by rw [if_pos rfl] at H; exact H
  clear H
  have H := H1
  clear H1
  replace H := Option.bind_eq_some_iff.mp H
  obtain ⟨t306, A40, H⟩ := H
  replace H : (some (t306, true)) = some (r1, r2) := H
  have A4 := Aside0.mk A40
  clear A40
  simp only [Option.some.injEq, Prod.mk.injEq] at H
  obtain ⟨rfl, rfl⟩ := H
  go_enter Try.func33, Try.ntmps33
  go_wp2_with (first | ((with_reducible refine gate_callee (f := 47) rfl ?_); refine goesL_ (some 5) rfl rfl Try.func47 (by kernel_rfl) rfl #[.string a0] rfl (by (try simp only [List.map_toArray, List.map_cons, List.map_nil]); first | done | rfl | (simp only [List.length_drop, List.length_take]; rfl)) ?_; (with_reducible refine (spec_chLetters.calls k a0 true _ A2.out).mono ?_); rintro e w' ⟨rfl, ⟨nd, rfl⟩⟩; refine ⟨_, rfl, ?_⟩) | ((with_reducible refine gate_callee (f := 57) rfl ?_); refine goesL_ (some 8) rfl rfl Try.func57 (by kernel_rfl) rfl #[.string a0] rfl (by (try simp only [List.map_toArray, List.map_cons, List.map_nil]); first | done | rfl | (simp only [List.length_drop, List.length_take]; rfl)) ?_; (with_reducible refine (spec_chTurns.calls k a0 t306 _ A4.out).mono ?_); rintro e w5 ⟨v307, rfl, ho0, hb⟩; refine ⟨_, rfl, ?_⟩; have n0_ := Aside0.mk (Kd.R_lower ho0 (below_size (by repeat (first | (with_reducible first | exact HB.out | apply below_alloc | apply pw_below_drewN | apply below_drew1) | exact HB.out)))); have n1_ := Aside0.mk (below_step (by repeat (first | (with_reducible first | exact HB.out | apply below_alloc | apply pw_below_drewN | apply below_drew1) | exact HB.out)) hb); clear HB; have HO308 := n0_; have HB := n1_; clear n0_ n1_; (try clear hb); (try clear hb2); (try clear hk); (try clear hi); (try clear ho0)))
  go_ret2
  exact ⟨_, by first | rfl | (simp [errW_none, errW_some] <;> rfl) | (simp [*, errW_none, errW_some] <;> rfl), by (with_reducible repeat (first | apply Kd.R_alloc | apply Kd.R_drewN | apply Kd.R_drew)); exact HO308.out, by repeat (first | (with_reducible first | exact HB.out | apply below_alloc | apply pw_below_drewN | apply below_drew1) | exact HB.out)⟩
 ·replace c3 := Bool.eq_false_iff.mpr c3
  subst c3
  have H1 : (some (([] : List ByteArray), false)) = some (r1, r2) := by rw [if_neg (show ¬ (false = true) by decide)] at H; exact H
  clear H
  have H := H1
  clear H1
  simp only [Option.some.injEq, Prod.mk.injEq] at H
  obtain ⟨rfl, rfl⟩ := H
  go_enter Try.func33, Try.ntmps33
  go_wp2_with (first | ((with_reducible refine gate_callee (f := 47) rfl ?_); refine goesL_ (some 5) rfl rfl Try.func47 (by kernel_rfl) rfl #[.string a0] rfl (by (try simp only [List.map_toArray, List.map_cons, List.map_nil]); first | done | rfl | (simp only [List.length_drop, List.length_take]; rfl)) ?_; (with_reducible refine (spec_chLetters.calls k a0 false _ A2.out).mono ?_); rintro e w' ⟨rfl, ⟨nd, rfl⟩⟩; refine ⟨_, rfl, ?_⟩))
  go_ret2
  exact ⟨_, by first | rfl | (simp [errW_none, errW_some] <;> rfl) | (simp [*, errW_none, errW_some] <;> rfl), by first | exact Kd.R_nil _ _ _ _ _ | exact Kd.N_nil _ _ _ _ _ | exact Kd.V_nil _ _ _ _ _ | exact Kd.Q_nil _ _ _ _ _ | exact Kd.S_nil _ _ _ _ _, by repeat (first | (with_reducible first | exact HB.out | apply below_alloc | apply pw_below_drewN | apply below_drew1) | exact HB.out)⟩

end Go.Proofs.Ytkphmbcoefkilaa.P

-- Udraw
namespace Go.Proofs.Ytkphmbcoefkilaa.P
set_option linter.unusedVariables false
set_option linter.unusedSimpArgs false
open Go.RowKit Go.Proofs.YtkphmbcoefkilaaW.PrintWords Go.Proofs.YtkphmbcoefkilaaW.PrintLast Go.Proofs.YtkphmbcoefkilaaW.PrintMore

theorem wrap_u64 (n : Int) : IntKind.u64.wrap n = n % 18446744073709551616 := by simp [IntKind.wrap, IntKind.bits, IntKind.signed]
theorem mask255 (n : Int) : ∃ v, wrap64 (Go.bits .and .u64 (IntKind.u64.wrap n / 1099511627776) 255) = v ∧ 0 ≤ v ∧ v ≤ 255 := by
  have h0 : 0 ≤ IntKind.u64.wrap n := by rw [wrap_u64]; omega
  have h1 : IntKind.u64.wrap n < 18446744073709551616 := by rw [wrap_u64]; omega
  generalize IntKind.u64.wrap n = m at h0 h1
  have h2 : Go.bits .and .u64 (m / 1099511627776) 255 = (m / 1099511627776) % 256 :=
    bits_mask .u64 64 (by decide) (fun n a b => by rw [wrap_u64]; have : (2 : Int) ^ 64 = 18446744073709551616 := by decide
                                                   omega) 8 (by decide) _ (by omega) (by have : (2 : Int) ^ 64 = 18446744073709551616 := by decide
                                                                                         omega)
  rw [h2]
  exact ⟨_, rfl, by rw [w64 (by omega) (by omega)]; omega, by rw [w64 (by omega) (by omega)]; omega⟩
def Bytes (code : List Int) : Prop := ∀ x ∈ code, 0 ≤ x ∧ x ≤ 255
theorem bytes_of_u8 {code : List Int} (h : ∀ x ∈ code, (Lit.int .u8 x).wf = true) : Bytes code := fun x hx => by
  have := h x hx
  simp [Lit.wf, IntKind.min, IntKind.max, IntKind.signed, IntKind.bits] at this
  omega
theorem next_ok (code : List Int) (hc : Bytes code) (at_ seed : Int) (h0 : 0 ≤ at_) (h1 : at_ ≤ 1000000000) : ∃ v seed', spec_l1Cur_next.f code at_ seed = some (v, at_ + 1, seed') ∧ 0 ≤ v ∧ v ≤ 255 := by
  have w1 : wrap64 (at_ + 1) = at_ + 1 := w64 (by omega) (by omega)
  unfold spec_l1Cur_next.f
  rw [w1]
  by_cases h2 : at_ < (code.length : Int)
  · have hm : rd code at_ ∈ code := by
      have h3 : at_.toNat < code.length := by omega
      have h4 : rd code at_ = code[at_.toNat] := by
        have := rd_lt code at_.toNat h3
        rwa [Int.toNat_of_nonneg h0] at this
      rw [h4]
      exact List.getElem_mem h3
    have hb := hc _ hm
    have w2 : wrap64 (rd code at_) = rd code at_ := w64 (by omega) (by omega)
    rw [if_pos h2, if_pos h0, if_pos (by omega), w2]
    exact ⟨_, _, rfl, hb.1, hb.2⟩
  · rw [if_neg h2, if_neg (by omega)]
    obtain ⟨v, e, hv⟩ := mask255 ((IntKind.u64.wrap ((IntKind.u64.wrap (seed * 6364136223846793005)) + 0)) + 1442695040888963407)
    rw [e]
    exact ⟨_, _, rfl, hv.1, hv.2⟩
theorem pick_ok (code : List Int) (hc : Bytes code) (at_ seed n : Int) (h0 : 0 ≤ at_) (h1 : at_ ≤ 999999999) (hn : n ≤ 1000000000000) : ∃ v at' seed', spec_l1Cur_pick.f code at_ seed n = some (v, at', seed') ∧ 0 ≤ v ∧ (1 ≤ n → v < n) ∧ at_ ≤ at' ∧ at' ≤ at_ + 2 := by
  unfold spec_l1Cur_pick.f
  by_cases h2 : n ≤ 1
  · rw [if_pos h2]
    exact ⟨_, _, _, rfl, by omega, fun _ => by omega, by omega, by omega⟩
  · rw [if_neg h2]
    obtain ⟨v, s1, e1, hv⟩ := next_ok code hc at_ seed h0 (by omega)
    rw [e1]
    simp only [Option.bind_some]
    have hn0 : ¬ n = 0 := by omega
    by_cases h3 : n > 200
    · obtain ⟨v2, s2, e2, hv2⟩ := next_ok code hc (at_ + 1) s1 (by omega) (by omega)
      have w1 : wrap64 (wrap64 (v * 256) + v2) = v * 256 + v2 := by rw [w64 (x := v * 256) (by omega) (by omega), w64 (by omega) (by omega)]
      have t1 : Int.tmod (v * 256 + v2) n = (v * 256 + v2) % n := Int.tmod_eq_emod_of_nonneg (by omega)
      rw [if_pos h3, e2]
      simp only [Option.bind_some, hn0, if_false, w1, t1]
      exact ⟨_, _, _, rfl, Int.emod_nonneg _ hn0, fun _ => Int.emod_lt_of_pos _ (by omega), by omega, by omega⟩
    · have t1 : Int.tmod v n = v % n := Int.tmod_eq_emod_of_nonneg hv.1
      rw [if_neg h3, if_neg hn0, t1]
      exact ⟨_, _, _, rfl, Int.emod_nonneg _ hn0, fun _ => Int.emod_lt_of_pos _ (by omega), by omega, by omega⟩
theorem one_ok (code : List Int) (hc : Bytes code) (at_ seed n : Int) (h0 : 0 ≤ at_) (h1 : at_ ≤ 999999999) (hn : n ≤ 1000000000000) : ∃ v at' seed', spec_l1Cur_one.f code at_ seed n = some (v, at', seed') ∧ at_ ≤ at' ∧ at' ≤ at_ + 2 := by
  obtain ⟨v, a, s, e, _, _, h3, h4⟩ := pick_ok code hc at_ seed n h0 h1 hn
  unfold spec_l1Cur_one.f
  rw [e]
  exact ⟨_, _, _, rfl, h3, h4⟩
theorem among_ok (code : List Int) (hc : Bytes code) (at_ seed : Int) (l : List Int) (h0 : 0 ≤ at_) (h1 : at_ ≤ 999999999) (hl : 1 ≤ l.length) (hl2 : l.length ≤ 1000) : ∃ v at' seed', spec_l1Cur_among.f code at_ seed l = some (v, at', seed') ∧ v ∈ l ∧ at_ ≤ at' ∧ at' ≤ at_ + 2 := by
  obtain ⟨v, a, s, e, h2, h5, h3, h4⟩ := pick_ok code hc at_ seed (l.length : Int) h0 h1 (by omega)
  have h6 := h5 (by omega)
  have h7 : v.toNat < l.length := by omega
  have h8 : rd l v = l[v.toNat] := by
    have := rd_lt l v.toNat h7
    rwa [Int.toNat_of_nonneg h2] at this
  unfold spec_l1Cur_among.f
  rw [e]
  simp only [Option.bind_some]
  rw [if_pos h2, if_pos h6]
  exact ⟨_, _, _, rfl, by rw [h8]; exact List.getElem_mem h7, h3, h4⟩
end Go.Proofs.Ytkphmbcoefkilaa.P

-- UdrawLet
namespace Go.Proofs.Ytkphmbcoefkilaa.P
set_option linter.unusedVariables false
set_option linter.unusedSimpArgs false
open Go.RowKit Go.Proofs.YtkphmbcoefkilaaW.PrintWords Go.Proofs.YtkphmbcoefkilaaW.PrintLast Go.Proofs.YtkphmbcoefkilaaW.PrintMore
theorem spoilt_loop (code : List Int) (hc : Bytes code) (wth : ByteArray) (hw1 : 1 ≤ wth.size) (hw2 : wth.size ≤ 1000) (d : Nat) : ∀ (t : ByteArray) (at_ seed : Int), d ≤ 10 → t.size + d ≤ 1000 → 0 ≤ at_ → at_ + 10 * (d : Int) ≤ 100000 →
    ∃ t' at' seed', Ev (fun k => spec_l1Cur_spoilt.l0 k t wth (d : Int) code at_ seed) (t', at', seed') ∧ t'.size ≤ t.size + d ∧ 0 ≤ at' ∧ at' ≤ at_ + 10 * (d : Int) := by
  induction d with
  | zero =>
    intro t at_ seed hd ht h0 h1
    have c : ¬ ((0 : Nat) : Int) > 0 := by decide
    refine ⟨t, at_, seed, Ev.step (fun k => by simp only [spec_l1Cur_spoilt.l0, c, if_false]; rfl) (Ev.step (f := fun _ => some (t, at_, seed)) (fun k => by simp only [spec_l1Cur_spoilt.j1, Bool.false_eq_true, if_false]) (Ev.is rfl)), by omega, h0, by omega⟩
  | succ d ih =>
    intro t at_ seed hd ht h0 h1
    have c : ((d + 1 : Nat) : Int) > 0 := by omega
    by_cases hp : (t.size : Int) > 0
    · obtain ⟨i, a1, s1, e1, p1, q1, _, _⟩ := pick_ok code hc at_ seed (t.size : Int) h0 (by omega) (by omega)
      obtain ⟨j, a2, s2, e2, p2, q2, _, _⟩ := pick_ok code hc a1 s1 (wth.size : Int) (by omega) (by omega) (by omega)
      obtain ⟨v, a3, s3, e3, p3, q3, _, _⟩ := pick_ok code hc a2 s2 3 (by omega) (by omega) (by decide)
      have q1 := q1 (by omega)
      have q2 := q2 (by omega)
      have w1 : wrap64 (((d + 1 : Nat) : Int) - 1) = (d : Int) := by rw [w64 (by omega) (by omega)]; omega
      have w2 : wrap64 (i + 1) = i + 1 := w64 (by omega) (by omega)
      have k1 : i ≤ (t.size : Int) := by omega
      have k2 : 0 ≤ i + 1 := by omega
      have k3 : i + 1 ≤ (t.size : Int) := by omega
      have z1 : (t.extract 0 i.toNat).size = i.toNat := by rw [ByteArray.size_extract]; omega
      have z2 : (t.extract i.toNat t.size).size = t.size - i.toNat := by rw [ByteArray.size_extract]; omega
      have z3 : (t.extract (i + 1).toNat t.size).size = t.size - (i.toNat + 1) := by rw [ByteArray.size_extract]; omega
      have z4 : (strOfNums ([bt wth j] : List Int)).size = 1 := by rw [strOfNums_size]; rfl
      have y1 : (t.extract 0 i.toNat).size + (strOfNums ([bt wth j] : List Int)).size ≤ 9223372036854775807 := by omega
      have y2 : ((t.extract 0 i.toNat) ++ (strOfNums ([bt wth j] : List Int))).size + (t.extract i.toNat t.size).size ≤ 9223372036854775807 := by rw [ByteArray.size_append]; omega
      have y3 : ((t.extract 0 i.toNat) ++ (strOfNums ([bt wth j] : List Int))).size + (t.extract (i + 1).toNat t.size).size ≤ 9223372036854775807 := by rw [ByteArray.size_append]; omega
      have y4 : (t.extract 0 i.toNat).size + (t.extract (i + 1).toNat t.size).size ≤ 9223372036854775807 := by omega
      have st : ∀ r, Ev (fun k => spec_l1Cur_spoilt.j1 k t wth ((d + 1 : Nat) : Int) true code at_ seed) r → Ev (fun k => spec_l1Cur_spoilt.l0 k t wth ((d + 1 : Nat) : Int) code at_ seed) r := fun r hr => Ev.step (fun k => by simp only [spec_l1Cur_spoilt.l0, c, if_true, decide_eq_true hp]) hr
      by_cases v0 : v = 0
      · obtain ⟨t', at', seed', e, h⟩ := ih (((t.extract 0 i.toNat) ++ (strOfNums ([bt wth j] : List Int))) ++ (t.extract i.toNat t.size)) a3 s3 (by omega) (by rw [ByteArray.size_append, ByteArray.size_append]; omega) (by omega) (by omega)
        rw [ByteArray.size_append, ByteArray.size_append] at h
        exact ⟨t', at', seed', st _ (Ev.step (fun k => by simp only [spec_l1Cur_spoilt.j1, if_true, e1, Option.bind_some, e2, p2, q2, e3, v0, p1, k1, y1, y2, w1]) e), by omega, by omega, by omega⟩
      · by_cases v1 : v = 1
        · have v1' : ¬ ((1 : Int) = 0) := by decide
          obtain ⟨t', at', seed', e, h⟩ := ih (((t.extract 0 i.toNat) ++ (strOfNums ([bt wth j] : List Int))) ++ (t.extract (i + 1).toNat t.size)) a3 s3 (by omega) (by rw [ByteArray.size_append, ByteArray.size_append]; omega) (by omega) (by omega)
          rw [ByteArray.size_append, ByteArray.size_append] at h
          exact ⟨t', at', seed', st _ (Ev.step (fun k => by simp only [spec_l1Cur_spoilt.j1, if_true, e1, Option.bind_some, e2, p2, q2, e3, v1, v1', if_false, p1, k1, y1, y3, w1, w2, k2, k3]) e), by omega, by omega, by omega⟩
        · obtain ⟨t', at', seed', e, h⟩ := ih ((t.extract 0 i.toNat) ++ (t.extract (i + 1).toNat t.size)) a3 s3 (by omega) (by rw [ByteArray.size_append]; omega) (by omega) (by omega)
          rw [ByteArray.size_append] at h
          exact ⟨t', at', seed', st _ (Ev.step (fun k => by simp only [spec_l1Cur_spoilt.j1, if_true, e1, Option.bind_some, e2, p2, q2, e3, v0, v1, if_false, p1, k1, y4, w1, w2, k2, k3]) e), by omega, by omega, by omega⟩
    · exact ⟨t, at_, seed, Ev.step (fun k => by simp only [spec_l1Cur_spoilt.l0, c, if_true, decide_eq_false hp]; rfl) (Ev.step (f := fun _ => some (t, at_, seed)) (fun k => by simp only [spec_l1Cur_spoilt.j1, Bool.false_eq_true, if_false]) (Ev.is rfl)), by omega, h0, by omega⟩
theorem chText_size (a b : Int) : (chText a b).size = (a + b).toNat := by
  unfold chText
  rw [strOfNums_size, chLets_length]
theorem letters_j2 (code : List Int) (hc : Bytes code) (a b at_ seed : Int) (ha : 0 ≤ a) (hb : 0 ≤ b) (h1 : 1 ≤ a + b) (h40 : a + b ≤ 40) (h0 : 0 ≤ at_) (h2 : at_ ≤ 1000) :
    ∃ t' at' seed', Ev (fun k => spec_l1Cur_letters.j2 k a b code at_ seed) (t', at', seed') ∧ t'.size ≤ 1000 ∧ 0 ≤ at' := by
  have eC := (chText_both a b ha hb h40).1
  have hs := chText_size a b
  obtain ⟨v, a1, s1, e1, p1, q1, _, _⟩ := pick_ok code hc at_ seed 14 h0 (by omega) (by decide)
  by_cases v0 : v = 0
  · obtain ⟨u, a2, s2, e2, p2, q2, _, _⟩ := pick_ok code hc a1 s1 2 (by omega) (by omega) (by decide)
    have q2 := q2 (by decide)
    obtain ⟨n, hn⟩ := Int.eq_ofNat_of_zero_le (show 0 ≤ wrap64 (1 + u) by rw [w64 (by omega) (by omega)]; omega)
    have hn2 : n ≤ 2 := by rw [w64 (by omega) (by omega)] at hn; omega
    obtain ⟨t', at', seed', e, h3, h4, _⟩ := spoilt_loop code hc (⟨#[97, 98, 99]⟩ : ByteArray) (by decide) (by decide) n (chText a b) a2 s2 (by omega) (by omega) (by omega) (by omega)
    have hsp : Ev (fun k => spec_l1Cur_spoilt.f k code a1 s1 (chText a b) (⟨#[97, 98, 99]⟩ : ByteArray)) (t', at', seed') := by
      unfold spec_l1Cur_spoilt.f
      rw [e2]
      simp only [Option.bind_some, hn]
      exact e
    refine ⟨t', at', seed', Ev.step (fun k => by simp only [spec_l1Cur_letters.j2]; rfl) (Ev.bind eC ?_), by omega, h4⟩
    simp only [e1, Option.bind_some, v0, if_true]
    exact Ev.bind hsp (Ev.is rfl)
  · by_cases v1 : v = 1
    · obtain ⟨i, a2, s2, e2, p2, q2, _, _⟩ := pick_ok code hc a1 s1 ((chText a b).size : Int) (by omega) (by omega) (by omega)
      have q2 := q2 (by omega)
      have z1 : ((chText a b).extract i.toNat (chText a b).size).size + ((chText a b).extract 0 i.toNat).size = (chText a b).size := by
        rw [ByteArray.size_extract, ByteArray.size_extract]
        omega
      have k1 : i ≤ ((chText a b).size : Int) := by omega
      have y1 : ((chText a b).extract i.toNat (chText a b).size).size + ((chText a b).extract 0 i.toNat).size ≤ 9223372036854775807 := by omega
      have v1' : ¬ ((1 : Int) = 0) := by decide
      refine ⟨((chText a b).extract i.toNat (chText a b).size) ++ ((chText a b).extract 0 i.toNat), a2, s2, Ev.step (fun k => by simp only [spec_l1Cur_letters.j2]; rfl) (Ev.bind eC ?_), by rw [ByteArray.size_append]; omega, by omega⟩
      simp only [e1, Option.bind_some, v1, v1', if_false, if_true, e2, p2, k1, y1]
      exact Ev.is rfl
    · by_cases v2 : v = 2
      · have y1 : (chText a b).size + (chText a b).size ≤ 9223372036854775807 := by omega
        refine ⟨(chText a b) ++ (chText a b), a1, s1, Ev.step (fun k => by simp only [spec_l1Cur_letters.j2]; rfl) (Ev.bind eC ?_), by rw [ByteArray.size_append]; omega, by omega⟩
        have v1' : ¬ ((2 : Int) = 0) := by decide
        have v1'' : ¬ ((2 : Int) = 1) := by decide
        simp only [e1, Option.bind_some, v2, v1', v1'', if_false, if_true, y1]
        exact Ev.is rfl
      · by_cases v3 : v = 3
        · refine ⟨(⟨#[]⟩ : ByteArray), a1, s1, Ev.step (fun k => by simp only [spec_l1Cur_letters.j2]; rfl) (Ev.bind eC ?_), by decide, by omega⟩
          have x0 : ¬ ((3 : Int) = 0) := by decide
          have x1 : ¬ ((3 : Int) = 1) := by decide
          have x2 : ¬ ((3 : Int) = 2) := by decide
          simp only [e1, Option.bind_some, v3, x0, x1, x2, if_false, if_true]
          exact Ev.is rfl
        · refine ⟨chText a b, a1, s1, Ev.step (fun k => by simp only [spec_l1Cur_letters.j2]; rfl) (Ev.bind eC ?_), by omega, by omega⟩
          simp only [e1, Option.bind_some, v0, v1, v2, v3, if_false]
          exact Ev.is rfl
theorem letters_j1 (code : List Int) (hc : Bytes code) (a b at_ seed : Int) (ha : 0 ≤ a) (hb : 0 ≤ b) (h40 : a + b ≤ 40) (h0 : 0 ≤ at_) (h2 : at_ ≤ 1000) :
    ∃ t' at' seed', Ev (fun k => spec_l1Cur_letters.j1 k a b code at_ seed) (t', at', seed') ∧ t'.size ≤ 1000 ∧ 0 ≤ at' := by
  have w1 : wrap64 (a + b) = a + b := w64 (by omega) (by omega)
  by_cases h : a + b = 0
  · obtain ⟨t', at', seed', e, h3⟩ := letters_j2 code hc 1 b at_ seed (by omega) hb (by omega) (by omega) h0 h2
    exact ⟨t', at', seed', Ev.step (fun k => by simp only [spec_l1Cur_letters.j1]; rw [w1, if_pos h]) e, h3⟩
  · obtain ⟨t', at', seed', e, h3⟩ := letters_j2 code hc a b at_ seed ha hb (by omega) h40 h0 h2
    exact ⟨t', at', seed', Ev.step (fun k => by simp only [spec_l1Cur_letters.j1]; rw [w1, if_neg h]) e, h3⟩
theorem letters_ok (code : List Int) (hc : Bytes code) (at_ seed most : Int) (hm : 1 ≤ most) (hm2 : most ≤ 24) (h0 : 0 ≤ at_) (h2 : at_ ≤ 500) :
    ∃ t' at' seed', Ev (fun k => spec_l1Cur_letters.f k code at_ seed most) (t', at', seed') ∧ t'.size ≤ 1000 := by
  unfold spec_l1Cur_letters.f
  obtain ⟨a, a1, s1, e1, p1, q1, _, _⟩ := pick_ok code hc at_ seed most h0 (by omega) (by omega)
  have q1 := q1 hm
  obtain ⟨m, hm3, hm4, hm5⟩ : ∃ m, spec_l1Most.f 1 (wrap64 (most - a)) = some m ∧ 1 ≤ m ∧ a + m ≤ most + 1 := by
    rw [w64 (by omega) (by omega)]
    unfold spec_l1Most.f
    split
    · exact ⟨_, rfl, by omega, by omega⟩
    · exact ⟨_, rfl, by omega, by omega⟩
  obtain ⟨b, a2, s2, e2, p2, q2, _, _⟩ := pick_ok code hc a1 s1 m (by omega) (by omega) (by omega)
  have q2 := q2 hm4
  have eG := foGcd_ev a b (by omega) (by omega) (by omega) (by omega)
  rw [e1]
  simp only [Option.bind_some, hm3, e2]
  by_cases hg : (Int.gcd a b : Int) > 1
  · obtain ⟨o, a3, s3, e3, _, _⟩ := one_ok code hc a2 s2 6 (by omega) (by omega) (by decide)
    cases o with
    | true =>
      obtain ⟨t', at', seed', e, h3, _⟩ := letters_j1 code hc a b a3 s3 p1 p2 (by omega) (by omega) (by omega)
      refine ⟨t', at', seed', Ev.bind eG ?_, h3⟩
      simp only [hg, if_true, e3, Option.bind_some, Bool.not_true]
      exact Ev.step (fun k => by simp only [spec_l1Cur_letters.j0, Bool.false_eq_true, if_false]) e
    | false =>
      have hg0 : ¬ (Int.gcd a b : Int) = 0 := by omega
      have d1 : 0 ≤ a / (Int.gcd a b : Int) := Int.ediv_nonneg p1 (by omega)
      have d2 : a / (Int.gcd a b : Int) ≤ a := Int.ediv_le_self _ p1
      have d3 : 0 ≤ b / (Int.gcd a b : Int) := Int.ediv_nonneg p2 (by omega)
      have d4 : b / (Int.gcd a b : Int) ≤ b := Int.ediv_le_self _ p2
      have w1 : wrap64 (Int.tdiv a (Int.gcd a b : Int)) = a / (Int.gcd a b : Int) := by rw [Int.tdiv_eq_ediv_of_nonneg p1]; exact w64 (by omega) (by omega)
      have w2 : wrap64 (Int.tdiv b (Int.gcd a b : Int)) = b / (Int.gcd a b : Int) := by rw [Int.tdiv_eq_ediv_of_nonneg p2]; exact w64 (by omega) (by omega)
      obtain ⟨t', at', seed', e, h3, _⟩ := letters_j1 code hc (a / (Int.gcd a b : Int)) (b / (Int.gcd a b : Int)) a3 s3 d1 d3 (by omega) (by omega) (by omega)
      refine ⟨t', at', seed', Ev.bind eG ?_, h3⟩
      simp only [hg, if_true, e3, Option.bind_some, Bool.not_false]
      exact Ev.step (fun k => by simp only [spec_l1Cur_letters.j0, if_true, hg0, if_false, w1, w2]) e
  · obtain ⟨t', at', seed', e, h3, _⟩ := letters_j1 code hc a b a2 s2 p1 p2 (by omega) (by omega) (by omega)
    refine ⟨t', at', seed', Ev.bind eG ?_, h3⟩
    simp only [hg, if_false]
    exact Ev.step (fun k => by simp only [spec_l1Cur_letters.j0, Bool.false_eq_true, if_false]) e
theorem DrawIsLetters_ok (code : List Int) (hc : Bytes code) : ∃ t : ByteArray, Ev (fun k => spec_DrawIsLetters.f k code) t ∧ t.size ≤ 1000 := by
  unfold spec_DrawIsLetters.f
  obtain ⟨m, a1, s1, e1, hm, _, _⟩ := among_ok code hc 0 0 [5, 12, 24] (by omega) (by omega) (by decide) (by decide)
  have hv : 1 ≤ m ∧ m ≤ 24 := by
    simp only [List.mem_cons, List.not_mem_nil, or_false] at hm
    omega
  obtain ⟨t, at', seed', e, h⟩ := letters_ok code hc a1 s1 m hv.1 hv.2 (by omega) (by omega)
  exact ⟨t, Ev.bind0 e1 (Ev.bind e (Ev.is rfl)), h⟩
end Go.Proofs.Ytkphmbcoefkilaa.P
