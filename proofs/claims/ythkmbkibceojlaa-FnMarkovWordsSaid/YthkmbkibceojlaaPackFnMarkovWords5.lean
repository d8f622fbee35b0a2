/- The path leads down to 1 1 1, the word and the triple undo each other, the root is a root. No condition. -/
import Derived.Test.YthkmbkibceojlaaPackFnMarkovWords4
-- PFspecMarkovMove
namespace Go.Proofs.Ythkmbkibceojlaa.P
open Go.RowKit Go.Proofs.YthkmbkibceojlaaW.PrintWords Go.Proofs.YthkmbkibceojlaaW.PrintLast
set_option linter.unusedVariables false
set_option linter.unusedSimpArgs false

/-! ### spec_MarkovMove: function 27 -/
end Go.Proofs.Ythkmbkibceojlaa.P

-- PFspecMarkovDown
namespace Go.Proofs.Ythkmbkibceojlaa.P
open Go.RowKit Go.Proofs.YthkmbkibceojlaaW.PrintWords Go.Proofs.YthkmbkibceojlaaW.PrintLast
set_option linter.unusedVariables false
set_option linter.unusedSimpArgs false

/-! ### spec_MarkovDown: function 23 -/
end Go.Proofs.Ythkmbkibceojlaa.P

-- UrevB
namespace Go.Proofs.Ythkmbkibceojlaa.P
set_option linter.unusedVariables false
set_option linter.unusedSimpArgs false
open Go.RowKit Go.Proofs.YthkmbkibceojlaaW.PrintWords Go.Proofs.YthkmbkibceojlaaW.PrintLast

def turnedB (xs : List Int) (i : Nat) : List Int := (List.range xs.length).map fun p => if p < i ∨ xs.length - i ≤ p then xs.getD (xs.length - 1 - p) 0 else xs.getD p 0
theorem turnedB_length (xs : List Int) (i : Nat) : (turnedB xs i).length = xs.length := by simp [turnedB]
theorem turnedB_zero (xs : List Int) : turnedB xs 0 = xs := by
  apply List.ext_getElem
  · simp [turnedB]
  · intro p h1 h2
    simp [turnedB, List.getD_eq_getElem?_getD, h2]
    omega
theorem turnedB_end (xs : List Int) (i : Nat) (h : xs.length ≤ 2 * i + 1) : turnedB xs i = xs.reverse := by
  apply List.ext_getElem
  · simp [turnedB]
  · intro p h1 h2
    have h3 : p < xs.length := by simpa using h2
    rw [List.getElem_reverse]
    simp only [turnedB, List.getElem_map, List.getElem_range]
    by_cases c : p < i ∨ xs.length - i ≤ p
    · rw [if_pos c]
      simp [List.getD_eq_getElem?_getD, show xs.length - 1 - p < xs.length by omega]
    · rw [if_neg c]
      have e : p = xs.length - 1 - p := by omega
      simp only [List.getD_eq_getElem?_getD]
      rw [List.getElem?_eq_getElem h3, Option.getD_some]
      congr 1
theorem turnedB_succ (xs : List Int) (i : Nat) (h : 2 * i + 1 < xs.length) : turnedB xs (i + 1) = ((turnedB xs i).set i ((turnedB xs i).getD (xs.length - 1 - i) 0)).set (xs.length - 1 - i) ((turnedB xs i).getD i 0) := by
  have g : ∀ p, p < xs.length → (turnedB xs i).getD p 0 = if p < i ∨ xs.length - i ≤ p then xs.getD (xs.length - 1 - p) 0 else xs.getD p 0 := by
    intro p hp
    simp [turnedB, List.getD_eq_getElem?_getD, hp]
  rw [g i (by omega), g (xs.length - 1 - i) (by omega), if_neg (by omega), if_neg (by omega)]
  apply List.ext_getElem
  · simp [turnedB]
  · intro p h1 h2
    have h3 : p < xs.length := by simpa [turnedB] using h1
    rw [List.getElem_set, List.getElem_set]
    simp only [turnedB, List.getElem_map, List.getElem_range]
    by_cases e1 : xs.length - 1 - i = p
    · rw [if_pos e1, if_pos (by omega)]
      congr 1
      omega
    · rw [if_neg e1]
      by_cases e2 : i = p
      · rw [if_pos e2, if_pos (by omega)]
        congr 1
        omega
      · rw [if_neg e2]
        by_cases c : p < i ∨ xs.length - i ≤ p
        · rw [if_pos (by omega), if_pos c]
        · rw [if_neg (by omega), if_neg c]
theorem reverseB_upto (xs : List Int) (hn : xs.length ≤ 4611686018427387904) (d : Nat) : ∀ i : Nat, xs.length ≤ 2 * i + 2 * d → Ev (fun k => slices_Reverse_byte_byte.l0 k (turnedB xs i) (i : Int) ((xs.length : Int) - 1 - i)) xs.reverse := by
  induction d with
  | zero =>
    intro i hid
    refine Ev.step (f := fun _ => some (turnedB xs i)) (fun k => by simp only [slices_Reverse_byte_byte.l0]; rw [if_neg (by omega)]) ?_
    exact Ev.is (by rw [turnedB_end xs i (by omega)])
  | succ d ih =>
    intro i hid
    by_cases h : 2 * i + 1 < xs.length
    · have hl := turnedB_length xs i
      have e1 : wrap64 ((i : Int) + 1) = ((i + 1 : Nat) : Int) := w64_succ (n := xs.length) (by omega) hn
      have e2 : wrap64 ((xs.length : Int) - 1 - i - 1) = (xs.length : Int) - 1 - ((i + 1 : Nat) : Int) := by rw [w64 (by omega) (by omega)]; omega
      have e3 : ((xs.length : Int) - 1 - i).toNat = xs.length - 1 - i := by omega
      refine Ev.step (f := fun k => slices_Reverse_byte_byte.l0 k (turnedB xs (i + 1)) ((i + 1 : Nat) : Int) ((xs.length : Int) - 1 - ((i + 1 : Nat) : Int))) (fun k => ?_) (ih (i + 1) (by omega))
      simp only [slices_Reverse_byte_byte.l0]
      rw [if_pos (by omega), if_pos (by omega), if_pos (by omega), if_pos (by omega), if_pos (by omega), e1, e2, turnedB_succ xs i h]
      simp only [rd, e3, Int.toNat_natCast]
    · refine Ev.step (f := fun _ => some (turnedB xs i)) (fun k => by simp only [slices_Reverse_byte_byte.l0]; rw [if_neg (by omega)]) ?_
      exact Ev.is (by rw [turnedB_end xs i (by omega)])
theorem reverseB_ev (xs : List Int) (hn : xs.length ≤ 4611686018427387904) : Ev (fun k => slices_Reverse_byte_byte.f k xs) xs.reverse := by
  unfold slices_Reverse_byte_byte.f
  rw [w64 (by omega) (by omega)]
  have h := reverseB_upto xs hn xs.length 0 (by omega)
  rw [turnedB_zero] at h
  have e : (xs.length : Int) - 1 - ((0 : Nat) : Int) = (xs.length : Int) - 1 := by omega
  rw [e] at h
  exact h
end Go.Proofs.Ythkmbkibceojlaa.P

-- Uinverse
namespace Go.Proofs.Ythkmbkibceojlaa.P
set_option linter.unusedVariables false
set_option linter.unusedSimpArgs false
open Go.RowKit Go.Proofs.YthkmbkibceojlaaW.PrintWords Go.Proofs.YthkmbkibceojlaaW.PrintLast Go.Proofs.YthkmbkibceojlaaW.PrintMore
end Go.Proofs.Ythkmbkibceojlaa.P

-- UdrawWord
namespace Go.Proofs.Ythkmbkibceojlaa.P
set_option linter.unusedVariables false
set_option linter.unusedSimpArgs false
open Go.RowKit Go.Proofs.YthkmbkibceojlaaW.PrintWords Go.Proofs.YthkmbkibceojlaaW.PrintLast Go.Proofs.YthkmbkibceojlaaW.PrintMore
theorem one_byte (x : Int) : (strOfNums [x]).size = 1 := by
  unfold strOfNums
  simp [ByteArray.size]
theorem spoilt_loop (code : List Int) (hc : Bytes code) (x2 : ByteArray) (h2 : 1 ≤ x2.size ∧ x2.size ≤ 1000) (d : Nat) : ∀ (x1 : ByteArray) (at_ seed : Int), x1.size + d ≤ 100000 → 0 ≤ at_ → at_ + 6 * (d : Int) ≤ 900000000 →
    ∃ r, Ev (fun k => spec_l1Cur_spoilt.l0 k x1 x2 (d : Int) code at_ seed) r := by
  have hf : ∀ (x1 : ByteArray) (x7 at_ seed : Int), Ev (fun k => spec_l1Cur_spoilt.j1 k x1 x2 x7 false code at_ seed) (x1, at_, seed) := fun x1 x7 at_ seed => Ev.step (f := fun _ => some (x1, at_, seed)) (fun k => by simp only [spec_l1Cur_spoilt.j1, Bool.false_eq_true, if_false]) (Ev.is rfl)
  induction d with
  | zero =>
    intro x1 at_ seed h1 h0 ha
    exact ⟨_, Ev.step (fun k => by simp only [spec_l1Cur_spoilt.l0]; rw [if_neg (by omega)]) (hf x1 _ at_ seed)⟩
  | succ d ih =>
    intro x1 at_ seed h1 h0 ha
    have w1 : wrap64 (((d + 1 : Nat) : Int) - 1) = (d : Int) := by rw [w64 (by omega) (by omega)]; omega
    by_cases hs : (x1.size : Int) > 0
    · obtain ⟨p, a1, s1, e1, p0, p1, p2, p3⟩ := pick_ok code hc at_ seed (x1.size : Int) h0 (by omega) (by omega)
      obtain ⟨q, a2, s2, e2, q0, q1, q2, q3⟩ := pick_ok code hc a1 s1 (x2.size : Int) (by omega) (by omega) (by omega)
      obtain ⟨m, a3, s3, e3, m0, m1, m2, m3⟩ := pick_ok code hc a2 s2 3 (by omega) (by omega) (by omega)
      have hp := p1 (by omega)
      have hq := q1 (by omega)
      have w2 : wrap64 (p + 1) = p + 1 := w64 (by omega) (by omega)
      have ob := one_byte (bt x2 q)
      have hx1 : (x1.extract 0 p.toNat).size ≤ x1.size := by rw [ByteArray.size_extract]; omega
      have hx0 : (x1.extract 0 p.toNat).size = p.toNat := by rw [ByteArray.size_extract]; omega
      have hx2 : (x1.extract p.toNat x1.size).size = x1.size - p.toNat := by rw [ByteArray.size_extract]; omega
      have hx3 : (x1.extract (p + 1).toNat x1.size).size = x1.size - (p + 1).toNat := by rw [ByteArray.size_extract]; omega
      have c1 : (0 : Int) ≤ p := p0
      have c2 : p ≤ (x1.size : Int) := by omega
      have c3 : (0 : Int) ≤ p + 1 := by omega
      have c4 : p + 1 ≤ (x1.size : Int) := by omega
      have start : ∀ r, Ev (fun k => spec_l1Cur_spoilt.j1 k x1 x2 ((d + 1 : Nat) : Int) true code at_ seed) r → Ev (fun k => spec_l1Cur_spoilt.l0 k x1 x2 ((d + 1 : Nat) : Int) code at_ seed) r := by
        intro r hr
        refine Ev.step (fun k => ?_) hr
        simp only [spec_l1Cur_spoilt.l0]
        rw [if_pos (by omega), decide_eq_true hs]
      by_cases hm0 : m = 0
      · have b1 : (x1.extract 0 p.toNat).size + (strOfNums [bt x2 q]).size ≤ 9223372036854775807 := by omega
        have b2 : (x1.extract 0 p.toNat ++ strOfNums [bt x2 q]).size + (x1.extract p.toNat x1.size).size ≤ 9223372036854775807 := by rw [ByteArray.size_append]; omega
        obtain ⟨r, hr⟩ := ih (x1.extract 0 p.toNat ++ strOfNums [bt x2 q] ++ x1.extract p.toNat x1.size) a3 s3 (by rw [ByteArray.size_append, ByteArray.size_append]; omega) (by omega) (by omega)
        refine ⟨r, start r (Ev.step (fun k => ?_) hr)⟩
        simp only [spec_l1Cur_spoilt.j1, if_true, e1, e2, e3, Option.bind_some, q0, hq, hm0, c1, c2, b1, b2, w1]
      · by_cases hm1 : m = 1
        · have b1 : (x1.extract 0 p.toNat).size + (strOfNums [bt x2 q]).size ≤ 9223372036854775807 := by omega
          have b2 : (x1.extract 0 p.toNat ++ strOfNums [bt x2 q]).size + (x1.extract (p + 1).toNat x1.size).size ≤ 9223372036854775807 := by rw [ByteArray.size_append]; omega
          obtain ⟨r, hr⟩ := ih (x1.extract 0 p.toNat ++ strOfNums [bt x2 q] ++ x1.extract (p + 1).toNat x1.size) a3 s3 (by rw [ByteArray.size_append, ByteArray.size_append]; omega) (by omega) (by omega)
          refine ⟨r, start r (Ev.step (fun k => ?_) hr)⟩
          have n1 : ¬ (1 : Int) = 0 := by decide
          simp only [spec_l1Cur_spoilt.j1, if_true, e1, e2, e3, Option.bind_some, q0, hq, hm1, n1, if_false, c1, c2, c3, c4, b1, b2, w1, w2]
        · have b2 : (x1.extract 0 p.toNat).size + (x1.extract (p + 1).toNat x1.size).size ≤ 9223372036854775807 := by omega
          obtain ⟨r, hr⟩ := ih (x1.extract 0 p.toNat ++ x1.extract (p + 1).toNat x1.size) a3 s3 (by rw [ByteArray.size_append]; omega) (by omega) (by omega)
          refine ⟨r, start r (Ev.step (fun k => ?_) hr)⟩
          simp only [spec_l1Cur_spoilt.j1, if_true, e1, e2, e3, Option.bind_some, q0, hq, hm0, hm1, if_false, c1, c2, c3, c4, b2, w1, w2]
    · refine ⟨_, Ev.step (fun k => ?_) (hf x1 ((d + 1 : Nat) : Int) at_ seed)⟩
      simp only [spec_l1Cur_spoilt.l0]
      rw [if_pos (by omega), decide_eq_false hs]
theorem spoilt_ok (code : List Int) (hc : Bytes code) (x1 x2 : ByteArray) (at_ seed : Int) (h1 : x1.size ≤ 1000) (h2 : 1 ≤ x2.size ∧ x2.size ≤ 1000) (h0 : 0 ≤ at_) (ha : at_ ≤ 100000000) :
    ∃ r, Ev (fun k => spec_l1Cur_spoilt.f k code at_ seed x1 x2) r := by
  obtain ⟨p, a1, s1, e1, p0, p1, p2, p3⟩ := pick_ok code hc at_ seed 2 h0 (by omega) (by omega)
  have hp := p1 (by omega)
  have w1 : wrap64 (1 + p) = ((1 + p.toNat : Nat) : Int) := by rw [w64 (by omega) (by omega)]; omega
  obtain ⟨r, hr⟩ := spoilt_loop code hc x2 h2 (1 + p.toNat) x1 a1 s1 (by omega) (by omega) (by omega)
  unfold spec_l1Cur_spoilt.f
  refine ⟨r, Ev.bind0 e1 ?_⟩
  rw [w1]
  exact hr
theorem of_ok (code : List Int) (hc : Bytes code) (at_ seed : Int) (h0 : 0 ≤ at_) (h1 : at_ ≤ 100000000) : ∃ v at' seed', spec_l1Cur_of.f code at_ seed [(⟨#[108]⟩ : ByteArray), (⟨#[108]⟩ : ByteArray), (⟨#[114]⟩ : ByteArray)] = some (v, at', seed') ∧ v.size = 1 ∧ at_ ≤ at' ∧ at' ≤ at_ + 2 := by
  obtain ⟨p, a1, s1, e1, p0, p1, p2, p3⟩ := pick_ok code hc at_ seed 3 h0 (by omega) (by omega)
  have hp := p1 (by omega)
  unfold spec_l1Cur_of.f
  have hl : (([(⟨#[108]⟩ : ByteArray), (⟨#[108]⟩ : ByteArray), (⟨#[114]⟩ : ByteArray)] : List ByteArray).length : Int) = 3 := rfl
  rw [hl, e1]
  simp only [Option.bind_some, p0, hp, if_true]
  refine ⟨_, _, _, rfl, ?_, p2, p3⟩
  have h3 : p = 0 ∨ p = 1 ∨ p = 2 := by omega
  rcases h3 with rfl | rfl | rfl <;> rfl
theorem word_loop (code : List Int) (hc : Bytes code) (d : Nat) : ∀ (x4 : ByteArray) (at_ seed : Int), x4.size + d ≤ 100 → 0 ≤ at_ → at_ + 2 * (d : Int) ≤ 10000000 →
    ∃ r, Ev (fun k => spec_DrawMarkovOfWord.l0 k x4 (d : Int) code at_ seed) r := by
  induction d with
  | zero =>
    intro x4 at_ seed h1 h0 ha
    obtain ⟨b, a1, s1, e1, p2, p3⟩ := one_ok code hc at_ seed 10 h0 (by omega) (by omega)
    have c1 : ¬ ((0 : Nat) : Int) > 0 := by omega
    cases b with
    | false =>
      refine ⟨x4, Ev.step (f := fun _ => some x4) (fun k => ?_) (Ev.is rfl)⟩
      simp only [spec_DrawMarkovOfWord.l0, c1, if_false, e1, Option.bind_some, Bool.false_eq_true]
    | true =>
      obtain ⟨r, hr⟩ := spoilt_ok code hc (x4 ++ (⟨#[108]⟩ : ByteArray)) (⟨#[108, 114, 120, 32]⟩ : ByteArray) a1 s1 (by rw [ByteArray.size_append]; have : (⟨#[108]⟩ : ByteArray).size = 1 := rfl; omega) ⟨by decide, by decide⟩ (by omega) (by omega)
      have c2 : x4.size + 1 ≤ 9223372036854775807 := by omega
      refine ⟨r.1, Ev.step (f := fun k => (spec_l1Cur_spoilt.f k code a1 s1 (x4 ++ (⟨#[108]⟩ : ByteArray)) (⟨#[108, 114, 120, 32]⟩ : ByteArray)).bind fun bt => some bt.1) (fun k => ?_) (Ev.bind hr (Ev.is rfl))⟩
      simp only [spec_DrawMarkovOfWord.l0, c1, if_false, e1, Option.bind_some, if_true, c2]
  | succ d ih =>
    intro x4 at_ seed h1 h0 ha
    obtain ⟨v, a1, s1, e1, hv, p2, p3⟩ := of_ok code hc at_ seed h0 (by omega)
    obtain ⟨r, hr⟩ := ih (x4 ++ v) a1 s1 (by rw [ByteArray.size_append]; omega) (by omega) (by omega)
    have c1 : ((d + 1 : Nat) : Int) > 0 := by omega
    have c2 : x4.size + v.size ≤ 9223372036854775807 := by omega
    have w1 : wrap64 (((d + 1 : Nat) : Int) - 1) = (d : Int) := by rw [w64 (by omega) (by omega)]; omega
    refine ⟨r, Ev.step (fun k => ?_) hr⟩
    simp only [spec_DrawMarkovOfWord.l0, c1, if_true, e1, Option.bind_some, c2, w1]
theorem drawWord_ok (code : List Int) (hc : Bytes code) : ∃ r, Ev (fun k => spec_DrawMarkovOfWord.f k code) r := by
  obtain ⟨v1, a1, s1, e1, hm, p2, p3⟩ := among_ok code hc 0 0 [0, 1, 2, 3, 4, 5, 8, 20, 40, 41] (by omega) (by omega) (by decide) (by decide)
  have hv : 0 ≤ v1 ∧ v1 ≤ 41 := by
    simp only [List.mem_cons, List.not_mem_nil, or_false] at hm
    omega
  obtain ⟨n, rfl⟩ := Int.eq_ofNat_of_zero_le hv.1
  obtain ⟨r, hr⟩ := word_loop code hc n (⟨#[]⟩ : ByteArray) a1 s1 (by have : (⟨#[]⟩ : ByteArray).size = 0 := rfl; omega) (by omega) (by omega)
  unfold spec_DrawMarkovOfWord.f
  exact ⟨r, Ev.bind0 e1 hr⟩
end Go.Proofs.Ythkmbkibceojlaa.P
