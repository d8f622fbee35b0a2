/- ClimbHurwitz: both texts. -/
import Derived.Test.YtfdjbcbhlfjogaaUhuJump
import Derived.Test.YtfdjbcbhlfjogaaPFimplClimbHurwitz
import Derived.Test.YtfdjbcbhlfjogaaPFspecClimbHurwitz
namespace Go.Proofs.Ytfdjbcbhlfjogaa.P
set_option linter.unusedVariables false
set_option linter.unusedSimpArgs false
open Go.RowKit Go.Proofs.YtfdjbcbhlfjogaaW.PrintWords Go.Proofs.YtfdjbcbhlfjogaaW.PrintLast Go.Proofs.YtfdjbcbhlfjogaaW.PrintMore
def climb (a : Int) : List Int → List Int → List Int × Bool
  | l, [] => (l, true)
  | l, i :: word => if (jumpOf l a i.toNat).2 then climb a (jumpOf l a i.toNat).1 word else ([], false)
def climbOf (l : List Int) (a b : Int) (word : List Int) : List Int × Bool :=
  if huSol l a b && (decide (word.length ≤ 40) && word.all (inB 0 ((l.length : Int) - 1))) then climb a l word else ([], false)
theorem jumpOf_is {l : List Int} {a b : Int} {i : Nat} (hi : i < l.length) (h : huIs l a b = true) (hj : (jumpOf l a i).2 = true) : huIs (jumpOf l a i).1 a b = true ∧ (jumpOf l a i).1.length = l.length := by
  unfold jumpOf at hj ⊢
  cases ho : inB 1 100000 (oth l a i) with
  | false => rw [ho] at hj; simp at hj
  | true =>
    simp only [if_true]
    exact ⟨jmp_is hi h ho, jmp_length l a i⟩
theorem climb_length {a b : Int} (word : List Int) : ∀ l : List Int, huIs l a b = true → (∀ i ∈ word, 0 ≤ i ∧ i ≤ (l.length : Int) - 1) → (climb a l word).1.length ≤ 4 := by
  induction word with
  | nil =>
    intro l h hw
    have := (huIs_iff.1 h).1
    simp only [climb]
    omega
  | cons i word ih =>
    intro l h hw
    have hi := hw i List.mem_cons_self
    rw [climb]
    cases hj : (jumpOf l a i.toNat).2 with
    | false => simp
    | true =>
      simp only [if_true]
      have hh := jumpOf_is (i := i.toNat) (by omega) h hj
      exact ih _ hh.1 (fun x hx => by rw [hh.2]; exact hw x (List.mem_cons_of_mem _ hx))
theorem climb_upto {a b : Int} (hg : huGv a b = true) (word : List Int) (hn : word.length ≤ 1000000) (d : Nat) : ∀ (i : Nat) (l : List Int), i + d = word.length → huIs l a b = true → (∀ x ∈ word, 0 ≤ x ∧ x ≤ (l.length : Int) - 1) →
    Ev (fun k => impl_ClimbHurwitz.l0 k a l word (word.length : Int) (i : Int)) (climb a l (word.drop i)) ∧ Ev (fun k => spec_ClimbHurwitz.l0 k a l word (word.length : Int) (i : Int)) (climb a l (word.drop i)) := by
  induction d with
  | zero =>
    intro i l hid h hw
    rw [List.drop_eq_nil_of_le (by omega), climb]
    exact ⟨Ev.step (f := fun _ => some (l, true)) (fun k => by simp only [impl_ClimbHurwitz.l0]; rw [if_neg (by omega)]) (Ev.is rfl),
      Ev.step (f := fun _ => some (l, true)) (fun k => by simp only [spec_ClimbHurwitz.l0]; rw [if_neg (by omega)]) (Ev.is rfl)⟩
  | succ d ih =>
    intro i l hid h hw
    have hx := hw _ (rd_mem (l := word) (i := i) (by omega))
    have hlt : (rd word (i : Int)).toNat < l.length := by omega
    obtain ⟨e1, e2⟩ := jump_both hg h (rd word (i : Int)).toNat hlt
    rw [Int.toNat_of_nonneg hx.1] at e1 e2
    rw [rd_drop word i (by omega), climb]
    have key : ∀ (g : Nat → Option (List Int × Bool)), ((jumpOf l a (rd word (i : Int)).toNat).2 = true → Ev g (climb a (jumpOf l a (rd word (i : Int)).toNat).1 (word.drop (i + 1)))) →
        Ev (fun k => if (jumpOf l a (rd word (i : Int)).toNat).2 = true then g k else some ([], false)) (if (jumpOf l a (rd word (i : Int)).toNat).2 then climb a (jumpOf l a (rd word (i : Int)).toNat).1 (word.drop (i + 1)) else ([], false)) := by
      intro g hgood
      cases hj : (jumpOf l a (rd word (i : Int)).toNat).2 with
      | false =>
        simp only [Bool.false_eq_true, if_false]
        exact Ev.is rfl
      | true =>
        simp only [if_true]
        exact hgood hj
    constructor
    · refine Ev.step (f := fun k => (impl_jump.f k l a (rd word (i : Int))).bind fun bt => if bt.2 = true then impl_ClimbHurwitz.l0 k a bt.1 word (word.length : Int) ((i + 1 : Nat) : Int) else some ([], false)) (fun k => ?_) (Ev.bind e1 (key _ (fun hj => ?_)))
      · simp only [impl_ClimbHurwitz.l0]
        rw [if_pos (by omega), if_pos (by omega), if_pos (by omega), w64_succ (n := word.length) (by omega) (by omega)]
      · have hh := jumpOf_is hlt h hj
        exact (ih (i + 1) _ (by omega) hh.1 (fun x hx => by rw [hh.2]; exact hw x hx)).1
    · refine Ev.step (f := fun k => (spec_huJump.f k l a (rd word (i : Int))).bind fun bt => if bt.2 = true then spec_ClimbHurwitz.l0 k a bt.1 word (word.length : Int) ((i + 1 : Nat) : Int) else some ([], false)) (fun k => ?_) (Ev.bind e2 (key _ (fun hj => ?_)))
      · simp only [spec_ClimbHurwitz.l0]
        rw [if_pos (by omega), if_pos (by omega), if_pos (by omega), w64_succ (n := word.length) (by omega) (by omega)]
      · have hh := jumpOf_is hlt h hj
        exact (ih (i + 1) _ (by omega) hh.1 (fun x hx => by rw [hh.2]; exact hw x hx)).2
theorem climb_both (l : List Int) (a b : Int) (word : List Int) (hl : l.length ≤ 4611686018427387904) (hn : word.length ≤ 4611686018427387904) :
    Ev (fun k => impl_ClimbHurwitz.f k l a b word) (climbOf l a b word) ∧ Ev (fun k => spec_ClimbHurwitz.f k l a b word) (climbOf l a b word) := by
  unfold impl_ClimbHurwitz.f spec_ClimbHurwitz.f climbOf
  have ni : Ev (fun k => impl_ClimbHurwitz.j0 k l a word true) ([], false) := Ev.step (f := fun _ => some ([], false)) (fun k => by simp only [impl_ClimbHurwitz.j0, if_true]) (Ev.is rfl)
  have ns : Ev (fun k => spec_ClimbHurwitz.j0 k l a word true) ([], false) := Ev.step (f := fun _ => some ([], false)) (fun k => by simp only [spec_ClimbHurwitz.j0, if_true]) (Ev.is rfl)
  have hboth : ∀ hs : huSol l a b = true, (Ev (fun k => if (word.length : Int) > 40 then impl_ClimbHurwitz.j0 k l a word true else (impl_allWithin.f word 0 (wrap64 ((l.length : Int) - 1))).bind fun t394 => impl_ClimbHurwitz.j0 k l a word (!t394)) (if decide (word.length ≤ 40) && word.all (inB 0 ((l.length : Int) - 1)) then climb a l word else ([], false))) ∧
      (Ev (fun k => if (word.length : Int) > 40 then spec_ClimbHurwitz.j0 k l a word true else (spec_l1All.f k word 0 (wrap64 ((l.length : Int) - 1))).bind fun t394 => spec_ClimbHurwitz.j0 k l a word (!t394)) (if decide (word.length ≤ 40) && word.all (inB 0 ((l.length : Int) - 1)) then climb a l word else ([], false))) := by
    intro hs
    have h1 := (huIs_iff.1 (huSol_iff.1 hs).2).1
    rw [w64 (x := (l.length : Int) - 1) (by omega) (by omega)]
    by_cases h40 : (word.length : Int) > 40
    · have h5 : decide (word.length ≤ 40) = false := decide_eq_false (by omega)
      simp only [h40, h5, if_true, Bool.false_and, Bool.false_eq_true, if_false]
      exact ⟨ni, ns⟩
    · have h5 : decide (word.length ≤ 40) = true := decide_eq_true (by omega)
      simp only [h40, h5, if_false, Bool.true_and]
      have hA : impl_allWithin.f word 0 ((l.length : Int) - 1) = some (word.all (inB 0 ((l.length : Int) - 1))) := rfl
      have hS := l1All_ev word 0 ((l.length : Int) - 1) hn
      cases hw : word.all (inB 0 ((l.length : Int) - 1)) with
      | false =>
        rw [hw] at hA hS
        simp only [Bool.false_eq_true, if_false]
        exact ⟨Ev.bind0 hA ni, Ev.bind hS ns⟩
      | true =>
        rw [hw] at hA hS
        simp only [if_true]
        have hc := climb_upto (huSol_iff.1 hs).1 word (by omega) word.length 0 l (by omega) (huSol_iff.1 hs).2 (all_iff.1 hw)
        rw [List.drop_zero] at hc
        refine ⟨Ev.bind0 hA (Ev.step (f := fun k => (slices_Clone_int_int.f l).bind fun t395 => impl_ClimbHurwitz.l0 k a t395 word (word.length : Int) 0) (fun k => by simp only [impl_ClimbHurwitz.j0, Bool.not_true, Bool.false_eq_true, if_false]) (Ev.bind0 (clone_is l (by omega)) hc.1)),
          Ev.bind hS (Ev.step (f := fun k => (spec_l1Own.f l).bind fun t395 => spec_ClimbHurwitz.l0 k a t395 word (word.length : Int) 0) (fun k => by simp only [spec_ClimbHurwitz.j0, Bool.not_true, Bool.false_eq_true, if_false]) (Ev.bind0 (own_is l (by omega)) hc.2))⟩
  constructor
  · refine Ev.bind (isSolution_ev l a b) ?_
    cases hs : huSol l a b with
    | false =>
      simp only [Bool.false_eq_true, if_false, Bool.false_and]
      exact ni
    | true =>
      simp only [if_true, Bool.true_and]
      exact (hboth hs).1
  · refine Ev.bind0 (huGiven_is a b) ?_
    unfold huSol
    cases hg : huGv a b with
    | false =>
      simp only [Bool.false_eq_true, if_false, Bool.false_and]
      exact ns
    | true =>
      simp only [if_true, Bool.true_and]
      refine Ev.bind (huGood_ev l a b hg hl) ?_
      cases hs : huIs l a b with
      | false =>
        simp only [Bool.false_eq_true, if_false, Bool.false_and]
        exact ns
      | true =>
        simp only [if_true, Bool.true_and]
        exact (hboth (by simp [huSol, hg, hs])).2
theorem climbOf_length (l : List Int) (a b : Int) (word : List Int) : (climbOf l a b word).1.length ≤ 4 := by
  unfold climbOf
  cases h : huSol l a b && (decide (word.length ≤ 40) && word.all (inB 0 ((l.length : Int) - 1))) with
  | false => simp
  | true =>
    simp only [Bool.and_eq_true] at h
    simp only [if_true]
    exact climb_length word l (huSol_iff.1 h.1).2 (all_iff.1 h.2.2)
end Go.Proofs.Ytfdjbcbhlfjogaa.P
