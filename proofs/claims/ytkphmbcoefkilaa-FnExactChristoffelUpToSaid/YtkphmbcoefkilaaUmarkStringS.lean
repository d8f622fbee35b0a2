/- laws.markStringS writes the texts of m, m + 1, .. into a list, laws.heldStringS finds them there, and laws.eqStringS tells whether two lists are one. -/
import Derived.Test.YtkphmbcoefkilaaUbase
import Derived.Test.YtkphmbcoefkilaaPFmarkStringS
import Derived.Test.YtkphmbcoefkilaaPFheldStringS
import Derived.Test.YtkphmbcoefkilaaPFeqStringS
namespace Go.Proofs.Ytkphmbcoefkilaa.P
set_option linter.unusedVariables false
set_option linter.unusedSimpArgs false
open Go.RowKit Go.Proofs.YtkphmbcoefkilaaW.PrintWords Go.Proofs.YtkphmbcoefkilaaW.PrintLast

theorem markText_upto (d : Nat) : ∀ (m : Int) (s : ByteArray), 0 ≤ m → m < (d : Int) → s.size + d ≤ 4611686018427387904 → ∃ t, Ev (fun k => laws_markText.l0 k m s) t := by
  induction d with
  | zero => intro m s h0 h1 _; omega
  | succ d ih =>
    intro m s h0 h1 hs
    by_cases hm : m > 0
    · have h10 : Int.tmod m 10 = m % 10 := Int.tmod_eq_emod_of_nonneg h0
      have hd10 : Int.tdiv m 10 = m / 10 := Int.tdiv_eq_ediv_of_nonneg h0
      have hsz : (strOfNums ([(wrap64 (48 + (Int.tmod m 10))) % 256] : List Int)).size = 1 := rfl
      have hw : wrap64 (Int.tdiv m 10) = m / 10 := by rw [hd10]; exact w64 (by omega) (by omega)
      obtain ⟨t, ht⟩ := ih (m / 10) (strOfNums ([(wrap64 (48 + (Int.tmod m 10))) % 256] : List Int) ++ s) (by omega) (by omega) (by rw [ByteArray.size_append, hsz]; omega)
      refine ⟨t, Ev.step (fun k => ?_) ht⟩
      simp only [laws_markText.l0]
      rw [if_pos hm]
      simp only [Option.bind_some]
      rw [if_pos (by rw [hsz]; omega), hw]
    · refine ⟨_, Ev.step (f := fun _ => some ((⟨#[109]⟩ : ByteArray) ++ s)) (fun k => ?_) (Ev.is rfl)⟩
      simp only [laws_markText.l0]
      rw [if_neg hm, if_pos (by omega)]
theorem markText_some (m : Int) (h0 : 0 < m) (h1 : m ≤ 1000000000) : ∃ t, Ev (fun k => laws_markText.f k m) t := by
  obtain ⟨t, ht⟩ := markText_upto 1000000001 m (⟨#[]⟩ : ByteArray) (by omega) (by omega) (by show (0 : Nat) + _ ≤ _; omega)
  refine ⟨t, ?_⟩
  unfold laws_markText.f
  have hm : ¬ m ≤ 0 := by omega
  simp only [hm, if_false]
  exact ht
/-- The text of m, where it has one. -/
noncomputable def mtext (m : Int) : ByteArray := open Classical in if h : ∃ t, Ev (fun k => laws_markText.f k m) t then h.choose else ByteArray.empty
theorem mtext_ev (m : Int) (h0 : 0 < m) (h1 : m ≤ 1000000000) : Ev (fun k => laws_markText.f k m) (mtext m) := by
  have h := markText_some m h0 h1
  unfold mtext
  rw [dif_pos h]
  exact h.choose_spec
noncomputable def textsFrom (m : Int) : Nat → List ByteArray
  | 0 => []
  | n + 1 => mtext m :: textsFrom (m + 1) n
theorem textsFrom_length (m : Int) (n : Nat) : (textsFrom m n).length = n := by
  induction n generalizing m with
  | zero => rfl
  | succ n ih => simp [textsFrom, ih]
theorem textsFrom_snoc (m : Int) (n : Nat) : textsFrom m (n + 1) = textsFrom m n ++ [mtext (m + n)] := by
  induction n generalizing m with
  | zero => simp [textsFrom]
  | succ n ih =>
    rw [textsFrom, ih, textsFrom]
    simp only [List.cons_append, List.cons.injEq, true_and]
    congr 3
    omega
theorem rd_textsFrom (m : Int) (n i : Nat) (h : i < n) : rdOf ByteArray.empty (textsFrom m n) (i : Int) = mtext (m + i) := by
  unfold rdOf
  rw [Int.toNat_natCast]
  induction n generalizing m i with
  | zero => omega
  | succ n ih =>
    cases i with
    | zero => simp [textsFrom]
    | succ i =>
      rw [textsFrom, List.getD_cons_succ, ih (m + 1) i (by omega)]
      congr 1
      omega
theorem markStringS_from (n : Nat) (hn : n ≤ 1000000) (d : Nat) : ∀ (i : Nat) (x : List ByteArray), i + d = n → x.length = n → x.take i = textsFrom 1 i → Ev (fun k => laws_markStringS.l0 k x (1 + i) (i : Int)) (1 + (n : Int), textsFrom 1 n) := by
  induction d with
  | zero =>
    intro i x hi hx ht
    refine Ev.step (fun k => by simp only [laws_markStringS.l0]; rw [if_neg (by omega)]) ?_
    rw [List.take_of_length_le (by omega)] at ht
    obtain rfl : i = n := by omega
    exact Ev.is (by rw [ht])
  | succ d ih =>
    intro i x hi hx ht
    have hw : wrap64 (1 + (i : Int) + 1) = 1 + ((i + 1 : Nat) : Int) := by rw [w64 (by omega) (by omega)]; omega
    have hr := ih (i + 1) (x.set i (mtext (1 + (i : Int)))) (by omega) (by rw [List.length_set]; exact hx) (by
      rw [List.take_succ_eq_append_getElem (by rw [List.length_set]; omega), List.take_set_of_le (Nat.le_refl _), ht, List.getElem_set_self, textsFrom_snoc])
    refine Ev.step (f := fun k => (laws_markText.f k (1 + (i : Int))).bind fun t => laws_markStringS.l0 k (x.set i t) (1 + ((i + 1 : Nat) : Int)) ((i + 1 : Nat) : Int)) (fun k => ?_) (Ev.bind (mtext_ev _ (by omega) (by omega)) hr)
    simp only [laws_markStringS.l0]
    rw [if_pos (by omega)]
    congr 1
    funext t
    rw [if_pos (by omega), w64_succ (n := n) (by omega) (by omega), hw, Int.toNat_natCast]
theorem markStringS_ev (x : List ByteArray) (hn : x.length ≤ 1000000) : Ev (fun k => laws_markStringS.f k x 1) (1 + (x.length : Int), textsFrom 1 x.length) := by
  unfold laws_markStringS.f
  have h := markStringS_from x.length hn x.length 0 x (by omega) rfl rfl
  simpa using h
theorem heldStringS_from (n : Nat) (hn : n ≤ 1000000) (d : Nat) : ∀ (i : Nat), i + d = n → Ev (fun k => laws_heldStringS.l0 k (textsFrom 1 n) (1 + i) (i : Int)) (1 + (n : Int)) := by
  have hl := textsFrom_length 1 n
  induction d with
  | zero =>
    intro i hi
    refine Ev.step (fun k => by simp only [laws_heldStringS.l0]; rw [if_neg (by omega)]) ?_
    obtain rfl : i = n := by omega
    exact Ev.is rfl
  | succ d ih =>
    intro i hi
    have hw : wrap64 (1 + (i : Int) + 1) = 1 + ((i + 1 : Nat) : Int) := by rw [w64 (by omega) (by omega)]; omega
    have he : Ev (fun k => if (rdOf ByteArray.empty (textsFrom 1 n) (i : Int)).toList = (mtext (1 + (i : Int))).toList then laws_heldStringS.l0 k (textsFrom 1 n) (1 + ((i + 1 : Nat) : Int)) ((i + 1 : Nat) : Int) else some (-1)) (1 + (n : Int)) := by
      rw [rd_textsFrom 1 n i (by omega)]
      simp only [if_true]
      exact ih (i + 1) (by omega)
    refine Ev.step (f := fun k => (laws_markText.f k (1 + (i : Int))).bind fun t => if (rdOf ByteArray.empty (textsFrom 1 n) (i : Int)).toList = t.toList then laws_heldStringS.l0 k (textsFrom 1 n) (1 + ((i + 1 : Nat) : Int)) ((i + 1 : Nat) : Int) else some (-1)) (fun k => ?_) (Ev.bind (mtext_ev _ (by omega) (by omega)) he)
    simp only [laws_heldStringS.l0]
    rw [if_pos (by omega), if_pos (by omega), w64_succ (n := n) (by omega) (by omega), hw]
theorem heldStringS_ev (n : Nat) (hn : n ≤ 1000000) : Ev (fun k => laws_heldStringS.f k (textsFrom 1 n) 1) (1 + (n : Int)) := by
  unfold laws_heldStringS.f
  have h := heldStringS_from n hn n 0 (by omega)
  simpa using h
theorem eqStringS_from (a : List ByteArray) (hn : a.length ≤ 4611686018427387904) (d : Nat) : ∀ i : Nat, i + d = a.length → Ev (fun k => laws_eqStringS.l0 k a a (i : Int)) true := by
  induction d with
  | zero =>
    intro i hi
    exact Ev.step (f := fun _ => some true) (fun k => by simp only [laws_eqStringS.l0]; rw [if_neg (by omega)]) (Ev.is rfl)
  | succ d ih =>
    intro i hi
    refine Ev.step (fun k => by simp only [laws_eqStringS.l0]; rw [if_pos (by omega), if_pos (by omega), if_pos (by omega), if_pos trivial, w64_succ (n := a.length) (by omega) hn]) (ih (i + 1) (by omega))
theorem eqStringS_ev (a : List ByteArray) (hn : a.length ≤ 4611686018427387904) : Ev (fun k => laws_eqStringS.f k a a) true := by
  unfold laws_eqStringS.f
  simp only [if_true]
  exact eqStringS_from a hn a.length 0 (by omega)
/-- mark, held, then what follows (with the marked list and the next mark). -/
theorem heldS_then {α : Type} (l : List ByteArray) (no r : α) (f : Nat → Int × List ByteArray → Option α) (hn : l.length ≤ 1000000) (h : Ev (fun k => f k (1 + (l.length : Int), textsFrom 1 l.length)) r) :
    Ev (fun k => (laws_markStringS.f k l 1).bind fun bt => (laws_heldStringS.f k bt.2 1).bind fun t => if t < 0 then some no else if t = bt.1 then f k bt else some no) r := by
  refine Ev.bind (markStringS_ev l hn) (Ev.bind (heldStringS_ev _ hn) ?_)
  have h1 : ¬ (1 + (l.length : Int) < 0) := by omega
  simp only [h1, if_false, if_true]
  exact h
theorem heldS_last (n : Nat) (hn : n ≤ 1000000) : Ev (fun k => (laws_heldStringS.f k (textsFrom 1 n) 1).bind fun t => if t < 0 then some false else if t = 1 + (n : Int) then some true else some false) true := by
  refine Ev.bind (heldStringS_ev _ hn) ?_
  have h1 : ¬ (1 + (n : Int) < 0) := by omega
  simp only [h1, if_false, if_true]
  exact Ev.is rfl
end Go.Proofs.Ytkphmbcoefkilaa.P
