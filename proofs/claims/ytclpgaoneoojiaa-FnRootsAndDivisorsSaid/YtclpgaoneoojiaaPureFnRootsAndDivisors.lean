/- A root is the greatest number whose square is not too great, and a greatest common divisor divides all and is made of them. No condition. -/
import Derived.Test.YtclpgaoneoojiaaPFFnRootsAndDivisors
import Derived.Test.YtclpgaoneoojiaaUdraw
import Derived.Test.YtclpgaoneoojiaaURootOf
import Derived.Test.YtclpgaoneoojiaaUDivisorOf
namespace Go.Proofs.Ytclpgaoneoojiaa.Pure
set_option linter.unusedVariables false
set_option linter.unusedSimpArgs false
open Go.RowKit Go.Proofs.Ytclpgaoneoojiaa.P Go.Proofs.YtclpgaoneoojiaaW.PrintWords Go.Proofs.YtclpgaoneoojiaaW.PrintLast Go.Proofs.YtclpgaoneoojiaaW.PrintMore

theorem gcdFrom_nat (l : List Int) : ∀ d : Nat, ∃ g0 : Nat, gcdFrom 0 l = (g0 : Int) ∧ gcdFrom (d : Int) l = ((Nat.gcd d g0 : Nat) : Int) ∧ ∀ x ∈ l, g0 ∣ x.natAbs := by
  induction l with
  | nil => intro d; exact ⟨0, rfl, by rw [Nat.gcd_zero_right]; rfl, by simp⟩
  | cons x l ih =>
    intro d
    have e : ∀ m : Nat, gcdFrom (m : Int) (x :: l) = gcdFrom ((Nat.gcd m x.natAbs : Nat) : Int) l := fun m => rfl
    obtain ⟨g0, h1, h2, h3⟩ := ih (Nat.gcd d x.natAbs)
    obtain ⟨g1, h4, h5, h6⟩ := ih (Nat.gcd 0 x.natAbs)
    have hg : g1 = g0 := by rw [h4] at h1; omega
    subst hg
    refine ⟨Nat.gcd x.natAbs g1, ?_, ?_, ?_⟩
    · have := e 0
      rw [h5, Nat.gcd_zero_left] at this
      exact this
    · rw [e d, h2, Nat.gcd_assoc]
    · intro y hy
      rcases List.mem_cons.1 hy with rfl | hy
      · exact Nat.gcd_dvd_left _ _
      · exact Nat.dvd_trans (Nat.gcd_dvd_right _ _) (h6 y hy)
theorem drawDivisor_loop (code : List Int) (hc : Bytes code) (m : Int) (d : Nat) : ∀ (l : List Int) (at_ seed : Int), l.length + d ≤ 1000 → 0 ≤ at_ → at_ ≤ 100000 - 2 * (d : Int) → ∃ l' : List Int, l'.length ≤ 1000 ∧ Ev (fun k => spec_DrawDivisorOf.l0 k l m (d : Int) code at_ seed) l' := by
  induction d with
  | zero =>
    intro l at_ seed hl h0 h1
    by_cases hp : (l.length : Int) > 0
    · obtain ⟨v1, a1, s1, e1, _, _⟩ := one_ok code hc at_ seed 12 h0 (by omega) (by decide)
      obtain ⟨v2, a2, s2, e2, _, _, _⟩ := among_ok code hc a1 s1 [1000000000, (-1000000000), 1000000001, (-9223372036854775808)] (by omega) (by omega) (by decide) (by decide)
      cases v1 with
      | true =>
        refine ⟨l.set (0 : Int).toNat v2, by rw [List.length_set]; omega, Ev.step (f := fun _ => some (l.set (0 : Int).toNat v2)) (fun k => ?_) (Ev.is rfl)⟩
        simp only [spec_DrawDivisorOf.l0]
        rw [if_neg (by omega), if_pos hp, e1]
        simp only [Option.bind_some, if_true]
        rw [e2]
        simp only [Option.bind_some]
        rw [if_pos (by omega)]
      | false =>
        refine ⟨l, by omega, Ev.step (f := fun _ => some l) (fun k => ?_) (Ev.is rfl)⟩
        simp only [spec_DrawDivisorOf.l0]
        rw [if_neg (by omega), if_pos hp, e1]
        simp only [Option.bind_some, Bool.false_eq_true, if_false]
    · refine ⟨l, by omega, Ev.step (f := fun _ => some l) (fun k => ?_) (Ev.is rfl)⟩
      simp only [spec_DrawDivisorOf.l0]
      rw [if_neg (by omega), if_neg hp]
  | succ d ih =>
    intro l at_ seed hl h0 h1
    obtain ⟨v1, a1, s1, e1, _, _, _, _⟩ := pick_ok code hc at_ seed 60 h0 (by omega) (by decide)
    have w1 : wrap64 (((d + 1 : Nat) : Int) - 1) = (d : Int) := by rw [w64 (by omega) (by omega)]; omega
    obtain ⟨l', h2, e2⟩ := ih (l ++ [wrap64 (m * wrap64 (v1 - 20))]) a1 s1 (by rw [List.length_append, List.length_singleton]; omega) (by omega) (by omega)
    refine ⟨l', h2, Ev.step (fun k => ?_) e2⟩
    simp only [spec_DrawDivisorOf.l0]
    rw [if_pos (by omega), e1]
    simp only [Option.bind_some]
    rw [if_pos (by omega), w1]
theorem drawDivisor_ok (code : List Int) (hc : Bytes code) : ∃ l : List Int, l.length ≤ 1000 ∧ Ev (fun k => spec_DrawDivisorOf.f k code) l := by
  unfold spec_DrawDivisorOf.f
  obtain ⟨v1, a1, s1, e1, _, _, _⟩ := among_ok code hc 0 0 [1, 2, 6, 30] (by decide) (by decide) (by decide) (by decide)
  obtain ⟨v2, a2, s2, e2, hv, _, _⟩ := among_ok code hc a1 s1 [0, 1, 2, 3, 5, 40, 41] (by omega) (by omega) (by decide) (by decide)
  simp only [e1, e2, Option.bind_some]
  have hv2 : 0 ≤ v2 ∧ v2 ≤ 41 := by simp at hv; omega
  obtain ⟨n, rfl⟩ := Int.eq_ofNat_of_zero_le hv2.1
  exact drawDivisor_loop code hc v1 n [] a2 s2 (by simp; omega) (by omega) (by omega)
theorem drawRoot_ok (code : List Int) (hc : Bytes code) : ∃ n, spec_DrawRootOf.f code = some n ∧ n ≤ 5000000000000000000 := by
  unfold spec_DrawRootOf.f
  obtain ⟨v1, a1, s1, e1, p1, q1, _, _⟩ := pick_ok code hc 0 0 1000000000 (by decide) (by decide) (by decide)
  have q2 := q1 (by decide)
  have hv : 0 ≤ v1 * v1 ∧ v1 * v1 ≤ 1000000000 * 1000000000 := ⟨Int.mul_nonneg p1 p1, Int.mul_le_mul (by omega) (by omega) p1 (by omega)⟩
  have wv : wrap64 (v1 * v1) = v1 * v1 := w64 (by omega) (by omega)
  have wv2 : wrap64 (v1 * v1 - 1) = v1 * v1 - 1 := w64 (by omega) (by omega)
  rw [e1]
  simp only [Option.bind_some, wv, wv2]
  obtain ⟨v2, a2, s2, e2, hm, _, _⟩ := among_ok code hc a1 s1 [0, 1, 2, 3, 4, 1000000000000000000, 1000000000000000001, 999999999999999999, (-1), v1, v1 * v1, v1 * v1 - 1, 4611686018427387904] (by omega) (by omega) (by simp) (by simp)
  rw [e2]
  refine ⟨v2, rfl, ?_⟩
  generalize v1 * v1 = w at hm hv
  simp only [List.mem_cons, List.not_mem_nil, or_false] at hm
  omega
/-- The divisor divides all; then it is made of the first and the others' one. -/
theorem divisor_loop (l : List Int) (hn : l.length ≤ 40) (hw : l.all (inB (-1000000000) 1000000000) = true) (g : Nat) (hg : gcdFrom 0 l = (g : Int)) (hd : ∀ x ∈ l, g ∣ x.natAbs) (d : Nat) : ∀ i : Nat, i + d = l.length → Ev (fun k => laws_FnRootsAndDivisors.l0 k l (g : Int) l (l.length : Int) (i : Int)) true := by
  induction d with
  | zero =>
    intro i hi
    cases l with
    | nil =>
      have h0 : (g : Int) = 0 := by rw [← hg]; rfl
      refine Ev.step (f := fun _ => some true) (fun k => ?_) (Ev.is rfl)
      simp only [laws_FnRootsAndDivisors.l0]
      rw [if_neg (by omega), h0]
      rfl
    | cons x t =>
      have ht : t.all (inB (-1000000000) 1000000000) = true := by
        rw [List.all_cons, Bool.and_eq_true] at hw
        exact hw.2
      have hx : inB (-1000000000) 1000000000 x = true := by
        rw [List.all_cons, Bool.and_eq_true] at hw
        exact hw.1
      have hlt : t.length ≤ 39 := by simpa using hn
      obtain ⟨g0, h1, h2, _⟩ := gcdFrom_nat t x.natAbs
      have hb : 0 ≤ (g0 : Int) ∧ (g0 : Int) ≤ 1000000000 := by
        have key : ∀ (l : List Int) (d : Int), 0 ≤ d → d ≤ 1000000000 → l.all (inB (-1000000000) 1000000000) = true → 0 ≤ gcdFrom d l ∧ gcdFrom d l ≤ 1000000000 := by
          intro l
          induction l with
          | nil => intro d a b _; exact ⟨a, b⟩
          | cons y l ih =>
            intro d a b hh
            rw [List.all_cons, Bool.and_eq_true] at hh
            have := gcd_le d y a b hh.1
            exact ih _ this.1 this.2 hh.2
        have := key t 0 (by decide) (by decide) ht
        rw [h1] at this
        exact this
      have hfirst : gcdFrom 0 (x :: t) = gcdFrom ((x.natAbs : Nat) : Int) t := by
        show gcdFrom ((Nat.gcd 0 x.natAbs : Nat) : Int) t = _
        rw [Nat.gcd_zero_left]
      have e1 := (DivisorOf_both t (by omega)).2
      have e2 := (DivisorOf_both [x, (g0 : Int)] (by simp)).2
      have d1 : divOf t = ((g0 : Int), true) := by unfold divOf; rw [if_pos ⟨by omega, ht⟩, h1]
      have hpair : [x, (g0 : Int)].all (inB (-1000000000) 1000000000) = true := by
        rw [List.all_cons, List.all_cons, List.all_nil, hx, Bool.true_and, Bool.and_true]
        unfold inB
        rw [decide_eq_true (by omega), decide_eq_true (by omega)]
        rfl
      have d2 : divOf [x, (g0 : Int)] = ((g : Int), true) := by
        unfold divOf
        rw [if_pos ⟨by simp, hpair⟩]
        congr 1
        rw [← hg, hfirst, h2]
        show ((Nat.gcd (Nat.gcd 0 x.natAbs) g0 : Nat) : Int) = _
        rw [Nat.gcd_zero_left]
      rw [d1] at e1
      rw [d2] at e2
      have c1 : (((x :: t).length : Nat) : Int) > 0 := by simp only [List.length_cons]; omega
      have c2 : (1 : Int) ≤ ((x :: t).length : Int) := by omega
      have c3 : (0 : Int) < ((x :: t).length : Int) := by omega
      have c4 : (x :: t).drop 1 = t := rfl
      have c5 : rd (x :: t) 0 = x := rfl
      refine Ev.step (f := fun k => (impl_DivisorOf.f k t).bind fun bt234 => (impl_DivisorOf.f k [x, bt234.1]).bind fun bt240 => (if bt234.2 = true then (if bt240.2 = true then (some (bt240.1 == (g : Int))) else (some false)) else (some false))) (fun k => ?_) (Ev.bind e1 (Ev.bind e2 ?_))
      · simp only [laws_FnRootsAndDivisors.l0]
        rw [if_neg (by omega), if_pos c1, if_pos c2, c4, c5]
        simp only [c3, if_true]
      · simp only [if_true, beq_self_eq_true]
        exact Ev.is rfl
  | succ d ih =>
    intro i hi
    have hx := hd (rd l (i : Int)) (by rw [rd_lt l i (by omega)]; exact List.getElem_mem _)
    refine Ev.step (f := fun k => laws_FnRootsAndDivisors.l0 k l (g : Int) l (l.length : Int) ((i + 1 : Nat) : Int)) (fun k => ?_) (ih (i + 1) (by omega))
    simp only [laws_FnRootsAndDivisors.l0]
    rw [if_pos (by omega), if_pos (by omega), if_pos (by omega), w64_succ (n := l.length) (by omega) (by omega)]
    by_cases h0 : g = 0
    · subst h0
      have hz : rd l (i : Int) = 0 := by
        have := Nat.eq_zero_of_zero_dvd hx
        omega
      have z0 : ((0 : Nat) : Int) = 0 := rfl
      have z1 : ¬ ((0 : Int) > 0) := by decide
      simp only [z0, hz, z1, if_true, if_false]
    · have hm : Int.tmod (rd l (i : Int)) (g : Int) = 0 := by
        apply Int.tmod_eq_zero_of_dvd
        exact Int.natAbs_dvd_natAbs.1 (by simpa using hx)
      rw [if_neg (by omega), if_pos (by omega), if_pos hm]
theorem FnRootsAndDivisors : laws_FnRootsAndDivisors.Pure := by
  intro l0 l1 _ _ hb0 _ _ hb1
  refine Ev.rounds ?_
  unfold laws_FnRootsAndDivisors.f
  cases hbig : laws_big.f l0 l1 with
  | none => exact absurd hbig (by unfold laws_big.f; split <;> simp)
  | some t =>
    cases t with
    | true =>
      simp only [Option.bind_some, if_true]
      exact Ev.is rfl
    | false =>
      simp only [Option.bind_some, Bool.false_eq_true, if_false]
      obtain ⟨n, hn, hn5⟩ := drawRoot_ok l0 (bytes_of_u8 hb0)
      obtain ⟨l, hl, hD⟩ := drawDivisor_ok l1 (bytes_of_u8 hb1)
      obtain ⟨r, er1, er2, hr⟩ := RootOf_both n
      rw [hn]
      simp only [Option.bind_some]
      refine Ev.bind er2 (Ev.bind er1 ?_)
      simp only [bne_self_eq_false, Bool.false_eq_true, if_false]
      -- the divisors
      have hdiv : Ev (fun k => laws_FnRootsAndDivisors.j1 k l1 false) true := by
        obtain ⟨e1, e2⟩ := DivisorOf_both l (by omega)
        refine Ev.step (fun k => by simp only [laws_FnRootsAndDivisors.j1, Bool.false_eq_true, if_false]; rfl) (Ev.bind hD (Ev.bind e2 (Ev.bind e1 ?_)))
        simp only [bne_self_eq_false, Bool.false_eq_true, if_false]
        by_cases hc : l.length ≤ 40 ∧ l.all (inB (-1000000000) 1000000000) = true
        · obtain ⟨g, hg, _, hd⟩ := gcdFrom_nat l 0
          have he : divOf l = ((g : Int), true) := by unfold divOf; rw [if_pos hc, hg]
          rw [he]
          refine Ev.step (f := fun k => laws_FnRootsAndDivisors.l0 k l (g : Int) l (l.length : Int) ((0 : Nat) : Int)) (fun k => by simp only [laws_FnRootsAndDivisors.j2, Bool.false_eq_true, if_false, if_true]; rfl) ?_
          exact divisor_loop l hc.1 hc.2 g hg hd l.length 0 (by omega)
        · have he : divOf l = (0, false) := by unfold divOf; rw [if_neg hc]
          rw [he]
          exact Ev.step (f := fun _ => some true) (fun k => by simp only [laws_FnRootsAndDivisors.j2, Bool.false_eq_true, if_false]) (Ev.is rfl)
      obtain ⟨v, ok⟩ := r
      cases ok with
      | false => exact Ev.step (f := fun k => laws_FnRootsAndDivisors.j1 k l1 false) (fun k => by simp only [laws_FnRootsAndDivisors.j0, Bool.false_eq_true, if_false]) hdiv
      | true =>
        obtain ⟨h1, h2, h3⟩ := hr rfl
        simp only at h1 h2 h3
        have hv : v ≤ 3000000000 := by
          rcases Int.lt_or_le 3000000000 v with h4 | h4
          · have := Int.mul_le_mul (show 3000000000 ≤ v by omega) (show 3000000000 ≤ v by omega) (by decide) h1
            omega
          · exact h4
        have b1 : 0 ≤ v * v := Int.mul_nonneg h1 h1
        have b2 : 0 ≤ (v + 1) * (v + 1) ∧ (v + 1) * (v + 1) ≤ 3000000001 * 3000000001 := ⟨Int.mul_nonneg (by omega) (by omega), Int.mul_le_mul (by omega) (by omega) (by omega) (by omega)⟩
        have w1 : wrap64 (v * v) = v * v := w64 (by omega) (by omega)
        have w2 : wrap64 (v + 1) = v + 1 := w64 (by omega) (by omega)
        have w3 : wrap64 ((v + 1) * (v + 1)) = (v + 1) * (v + 1) := w64 (by omega) (by omega)
        refine Ev.step (f := fun k => laws_FnRootsAndDivisors.j1 k l1 false) (fun k => ?_) hdiv
        simp only [laws_FnRootsAndDivisors.j0, Bool.false_eq_true, if_false, if_true]
        rw [w1, w2, w3, if_neg (by omega), if_neg (by omega), decide_eq_false (by omega)]
end Go.Proofs.Ytclpgaoneoojiaa.Pure
