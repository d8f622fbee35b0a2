/- Turns are told in order, mirrored twice letters are the same, and neighbours of a word have its factors. No condition. -/
import Derived.Test.YtkphmbcoefkilaaPackFnLettersTurned5
import Derived.RegionTactic
import Derived.ChangeAlike
-- GMirrorWord
namespace Go.Proofs.Ytkphmbcoefkilaa.P
open Go.RowKit Go.Proofs.YtkphmbcoefkilaaW.PrintWords Go.Proofs.YtkphmbcoefkilaaW.PrintLast
set_option linter.unusedVariables false
set_option linter.unusedSimpArgs false

/-- A row of bytes that a conversion has laid (its block bears a mark): its first cells hold xs. -/
def MRow (W : World) (g : Nat) (xs : List Int) : Prop := ∃ cells : Array Value, W.heap[g]? = some (.cells cells 5 (cells.size, cells.size + 1)) ∧ xs.length ≤ cells.size ∧ ∀ j, j < xs.length → cells[j]? = some (.int .u8 (xs.getD j 0))
theorem MRow.cell {W : World} {g : Nat} {xs : List Int} (h : MRow W g xs) (j : Nat) (hj : j < xs.length) : W.cell? ⟨g, j, none⟩ = some (.int .u8 (xs.getD j 0)) := by
  obtain ⟨cells, hb, hl, hc⟩ := h
  rw [cell_of_row W g j cells 5 _ hb]
  exact hc j hj
theorem MRow.free {W : World} {g : Nat} {xs : List Int} (h : MRow W g xs) (j : Nat) (hj : j < xs.length) : W.frozen? ⟨g, j, none⟩ = false := by
  obtain ⟨cells, hb, hl, hc⟩ := h
  simp [World.frozen?, hb]
  omega
theorem MRow.set {W : World} {g : Nat} {xs : List Int} (h : MRow W g xs) (j : Nat) (x : Int) : MRow (W.setCell ⟨g, j, none⟩ (.int .u8 x)) g (xs.set j x) := by
  obtain ⟨cells, hb, hl, hc⟩ := h
  refine ⟨cells.setIfInBounds j (.int .u8 x), ?_, by simpa using hl, fun i hi => ?_⟩
  · simp [World.setCell, Array.getElem?_modify, hb]
  · rw [List.length_set] at hi
    rw [Array.getElem?_setIfInBounds]
    by_cases e : j = i
    · subst e
      rw [if_pos rfl, if_pos (by omega)]
      simp [List.getD_eq_getElem?_getD, hi]
    · rw [if_neg e, hc i hi]
      simp [List.getD_eq_getElem?_getD, List.getElem?_set, e]
theorem MRow.drewN {W : World} {g : Nat} {xs : List Int} (h : MRow W g xs) (n : Nat) : MRow (W.drewN n) g xs := h
theorem MRow.new (w : World) (s : ByteArray) : MRow (Lib.bytesWorld w 5 s) w.heap.size (bytesOf s) := by
  refine ⟨Lib.bytesCells w 5 s, Lib.bytesWorld_at_new w 5 s, ?_, fun j hj => ?_⟩
  · rw [bytesOf_length]
    simp [Lib.bytesCells]
  · rw [bytesOf_length] at hj
    have h1 : j < s.data.toList.length := by simpa using hj
    have := Lib.bytesWorld_cell w 5 s j hj
    rw [cell_of_row _ _ j _ 5 _ (Lib.bytesWorld_at_new w 5 s)] at this
    rw [this]
    simp [bytesOf, List.getD_eq_getElem?_getD, List.getElem?_eq_getElem h1]
theorem MRow.string {W : World} {g : Nat} {xs : List Int} (h : MRow W g xs) (c : Nat) : (convert 38 9 (.slice (some ⟨g, 0, none⟩) xs.length c)).run Try.prog W = .ok (.string (strOfNums xs)) W :=
  run_convert_bytes_arg W 38 5 Try.underlying38 Try.underlying5 g 0 xs.length c xs rfl (fun i hi => by rw [Nat.zero_add]; exact h.cell i hi) 9 Try.underlying9
/-- The first i and the last i have changed places. -/
def swapped (xs : List Int) (i : Nat) : List Int := (List.range xs.length).map fun p => if p < i ∨ xs.length - i ≤ p then xs.getD (xs.length - 1 - p) 0 else xs.getD p 0
theorem swapped_length (xs : List Int) (i : Nat) : (swapped xs i).length = xs.length := by simp [swapped]
theorem swapped_zero (xs : List Int) : swapped xs 0 = xs := by
  apply List.ext_getElem
  · simp [swapped]
  · intro p h1 h2
    simp [swapped, List.getD_eq_getElem?_getD, h2]
    omega
theorem swapped_end (xs : List Int) (i : Nat) (h : xs.length ≤ 2 * i + 1) : swapped xs i = xs.reverse := by
  apply List.ext_getElem
  · simp [swapped]
  · intro p h1 h2
    have h3 : p < xs.length := by simpa using h2
    rw [List.getElem_reverse]
    simp only [swapped, List.getElem_map, List.getElem_range]
    by_cases c : p < i ∨ xs.length - i ≤ p
    · rw [if_pos c]
      simp [List.getD_eq_getElem?_getD, show xs.length - 1 - p < xs.length by omega]
    · rw [if_neg c]
      have e : p = xs.length - 1 - p := by omega
      simp only [List.getD_eq_getElem?_getD]
      rw [List.getElem?_eq_getElem h3, Option.getD_some]
      congr 1
theorem swapped_succ (xs : List Int) (i : Nat) (h : 2 * i + 1 < xs.length) : swapped xs (i + 1) = ((swapped xs i).set i ((swapped xs i).getD (xs.length - 1 - i) 0)).set (xs.length - 1 - i) ((swapped xs i).getD i 0) := by
  have g : ∀ p, p < xs.length → (swapped xs i).getD p 0 = if p < i ∨ xs.length - i ≤ p then xs.getD (xs.length - 1 - p) 0 else xs.getD p 0 := by
    intro p hp
    simp [swapped, List.getD_eq_getElem?_getD, hp]
  rw [g i (by omega), g (xs.length - 1 - i) (by omega), if_neg (by omega), if_neg (by omega)]
  apply List.ext_getElem
  · simp [swapped]
  · intro p h1 h2
    have h3 : p < xs.length := by simpa [swapped] using h1
    rw [List.getElem_set, List.getElem_set]
    simp only [swapped, List.getElem_map, List.getElem_range]
    by_cases e1 : xs.length - 1 - i = p
    · rw [if_pos e1, if_pos (by omega)]
      congr 1
      omega
    · rw [if_neg e1]
      by_cases e2 : i = p
      · rw [if_pos e2, if_pos (by omega)]
        congr 1
        omega
      · rw [if_neg e2]
        by_cases c : p < i ∨ xs.length - i ≤ p
        · rw [if_pos (by omega), if_pos c]
        · rw [if_neg (by omega), if_neg c]

set_option maxHeartbeats 1000000 in
set_option maxRecDepth 100000 in
theorem mirror_reverse (w : World) (B g c : Nat) (xs : List Int) (hB : B ≤ g) (hM : MRow w g xs) (hl : xs.length ≤ 4611686018427387904) :
    Calls Try.prog 70 #[.slice (some ⟨g, 0, none⟩) xs.length c] w fun e w' => e = .returned (.tuple #[]) ∧ MRow w' g xs.reverse ∧ Below B w w' := by
  have HM := Aside0.mk hM
  clear hM
  go_enter Try.func70, Try.ntmps70
  go_wp2
  go_loopg [2, 3] xs.length (fun gg s2 s3 wr => ∃ (i : Nat) (jz : Int), s2 = .int .i64 i ∧ s3 = .int .i64 jz ∧ jz = (xs.length : Int) - 1 - i ∧ xs.length - i ≤ gg ∧ 2 * i ≤ xs.length + 1 ∧ Aside0 (MRow wr g (swapped xs i)) ∧ Aside0 (Below B w wr))
  case atStart => exact ⟨0, (xs.length : Int) - 1, rfl, by first | rfl | simp, by omega, by omega, by omega, ⟨by rw [swapped_zero]; exact HM.out⟩, ⟨Below.refl _ _⟩⟩
  case round =>
    obtain ⟨i, jz, rfl, rfl, hj, hg, h2, HR, HB⟩ := hrel
    by_cases hlt : 2 * i + 1 < xs.length
    · obtain ⟨jn, hjn⟩ : ∃ jn : Nat, jn = xs.length - 1 - i := ⟨_, rfl⟩
      obtain rfl : jz = (jn : Int) := by omega
      have hij : (i : Int) < (jn : Int) := by omega
      have hls := swapped_length xs i
      have ci := HR.out.cell i (by omega)
      have cj := HR.out.cell jn (by omega)
      have fi := HR.out.free i (by omega)
      have fj := HR.out.free jn (by omega)
      have HS := Aside0.mk (swapped_succ xs i hlt)
      rw [← hjn] at HS
      have hjl : jn < xs.length := by omega
      have hjl2 : (jn : Int) < (xs.length : Int) := by omega
      have HJ := Aside0.mk hjn
      have HJ2 := Aside0.mk hj
      have HI := Aside0.mk hlt
      have HG := Aside0.mk hg
      have H2 := Aside0.mk h2
      clear hjn hls hj hlt hg h2
      generalize (swapped xs i).getD i 0 = x at ci HS
      generalize (swapped xs i).getD jn 0 = y at cj HS
      go_wp2_with fail
      go_region
      go_wp2
      go_roundg (xs.length - (i + 1))
      case measure => have := HI.out; have := HG.out; omega
      case rel =>
        have e0 := HJ.out
        have e1 := HJ2.out
        have e2 := HI.out
        have e3 := H2.out
        refine ⟨i + 1, _, by go_num, rfl, by omega, by omega, by omega, ⟨?_⟩, ⟨?_⟩⟩
        · rw [HS.out]
          exact (HR.out.set i y).set jn x
        · exact ((HB.out.setCell (p := ⟨g, i, none⟩) hB _).setCell (p := ⟨g, jn, none⟩) hB _).drew
    · have hnot : ¬ (i : Int) < jz := by omega
      go_wp2
      go_end0
      exact ⟨rfl, by rw [← swapped_end xs i (by omega)]; exact HR.out, HB.out⟩

/-- A letter's other one. -/
def flip195 (c : Int) : Int := (195 - c) % 256
def mirrored (xs : List Int) (i : Nat) : List Int := (xs.take i).map flip195 ++ xs.drop i
theorem mirrored_length (xs : List Int) (i : Nat) (h : i ≤ xs.length) : (mirrored xs i).length = xs.length := by simp [mirrored]; omega
theorem mirrored_at (xs : List Int) (i : Nat) (h : i < xs.length) : (mirrored xs i).getD i 0 = xs.getD i 0 := by
  have e : xs.drop i = xs[i] :: xs.drop (i + 1) := List.drop_eq_getElem_cons h
  have hl : ((xs.take i).map flip195).length = i := by simp; omega
  simp only [mirrored, List.getD_eq_getElem?_getD]
  rw [List.getElem?_append_right (by omega), hl, Nat.sub_self, e, List.getElem?_eq_getElem h]
  rfl
theorem mirrored_succ (xs : List Int) (i : Nat) (h : i < xs.length) : mirrored xs (i + 1) = (mirrored xs i).set i (flip195 (xs.getD i 0)) := by
  have e : xs.drop i = xs[i] :: xs.drop (i + 1) := List.drop_eq_getElem_cons h
  have hl : ((xs.take i).map flip195).length = i := by simp; omega
  unfold mirrored
  have hd : xs.getD i 0 = xs[i] := by simp [List.getD_eq_getElem?_getD, h]
  rw [List.take_succ_eq_append_getElem h, List.map_append, List.set_append_right _ _ (by omega), hl, Nat.sub_self, e, hd, List.append_assoc]
  rfl
def mirrorOf (s : ByteArray) : ByteArray := strOfNums ((bytesOf s).reverse.map flip195)
def impl_MirrorWord.f (a0 : ByteArray) : Option (ByteArray × Bool) := (impl_IsLetters.f a0).bind fun t => if t = true then some (mirrorOf a0, true) else some ((⟨#[]⟩ : ByteArray), false)

set_option maxHeartbeats 2000000 in
set_option maxRecDepth 100000 in
theorem impl_MirrorWord.calls (a0 : ByteArray) (r1 : ByteArray) (r2 : Bool) (w : World) (h : impl_MirrorWord.f a0 = some (r1, r2)) :
    Calls Try.prog 39 #[.string a0] w fun e w' => e = .returned (.tuple #[.string r1, .bool r2]) ∧ Below w.heap.size w w' := by
  unfold impl_MirrorWord.f at h
  cases hL : impl_IsLetters.f a0 with
  | none => rw [hL] at h; cases h
  | some b =>
    have hC := impl_IsLetters.calls a0 b w hL
    rw [hL] at h
    cases b with
    | false =>
      obtain ⟨rfl, rfl⟩ : (⟨#[]⟩ : ByteArray) = r1 ∧ false = r2 := by simpa using h
      clear h hL
      go_enter Try.func39, Try.ntmps39
      go_wp2_with (go_at_call 37; refine hC.mono ?_; rintro e w' ⟨rfl, hb⟩; have HB := Aside0.mk hb; clear hb)
      go_ret2
      exact ⟨rfl, HB.out⟩
    | true =>
      obtain ⟨rfl, rfl⟩ : mirrorOf a0 = r1 ∧ true = r2 := by simpa using h
      have hs : a0.size ≤ 40 := by
        unfold impl_IsLetters.f impl_isWord.f at hL
        split at hL
        · cases hL
        · simp at hL
          omega
      clear h hL
      go_enter Try.func39, Try.ntmps39
      go_wp2_with (go_at_call 37; refine hC.mono ?_; rintro e w1 ⟨rfl, hb⟩; have hcv := Lib.run_convert_string_bytes (P := Try.prog) w1 9 38 5 a0 Try.underlying9 Try.underlying38 Try.underlying5; have hM := Aside0.mk (MRow.new w1 a0); have hB2 := Aside0.mk (hb.trans ((below_bytes w1 5 a0).mono hb.size)); have hG := Aside0.mk hb.size; clear hb; generalize Lib.bytesWorld w1 5 a0 = W2 at hcv hM hB2; generalize grownCap w1 a0.size 0 5 = cp at hcv; generalize w1.heap.size = g at hcv hM hG)
      have hR := mirror_reverse W2 w.heap.size g cp (bytesOf a0) hG.out hM.out (by rw [bytesOf_length]; omega)
      have hlen : (bytesOf a0).reverse.length = a0.size := by rw [List.length_reverse, bytesOf_length]
      rw [bytesOf_length] at hR
      have HE := Aside0.mk (show mirrorOf a0 = strOfNums ((bytesOf a0).reverse.map flip195) from rfl)
      obtain ⟨res, hres⟩ : ∃ res, res = mirrorOf a0 := ⟨_, rfl⟩
      rw [← hres] at HE
      have HRES := Aside0.mk hres
      clear hres
      generalize (bytesOf a0).reverse = xs at hR hlen HE
      have HL := Aside0.mk hlen
      clear hlen hC hcv
      go_wp2_with (go_at_call 70; refine hR.mono ?_; rintro e w3 ⟨rfl, hm3, hb3⟩; have HM := Aside0.mk hm3; have HB3 := Aside0.mk (hB2.out.trans hb3); clear hm3 hb3)
      go_loopg [5, 6, 16] a0.size (fun gg _ _ s16 wr => ∃ i : Nat, s16 = .int .i64 i ∧ i ≤ a0.size ∧ a0.size - i ≤ gg ∧ Aside0 (MRow wr g (mirrored xs i)) ∧ Aside0 (Below w.heap.size w wr))
      case atStart => exact ⟨0, rfl, by omega, by omega, ⟨by show MRow _ g (mirrored xs 0); exact HM.out⟩, ⟨HB3.out⟩⟩
      case round =>
        obtain ⟨i, rfl, hi, hg, HR, HW⟩ := hrel
        have HGG := Aside0.mk hg
        clear hg
        by_cases hlt : i < a0.size
        · have hltz : (i : Int) < (a0.size : Int) := by omega
          have hil : i < xs.length := by rw [HL.out]; exact hlt
          have hml : i < (mirrored xs i).length := by rw [mirrored_length xs i (by omega)]; exact hil
          have ci := HR.out.cell i hml
          have fi := HR.out.free i hml
          rw [mirrored_at xs i hil] at ci
          have HS := Aside0.mk (mirrored_succ xs i hil)
          clear hil hml
          generalize xs.getD i 0 = x at ci HS
          go_wp2
          go_roundg (a0.size - (i + 1))
          case measure => have := HGG.out; omega
          case rel =>
            refine ⟨i + 1, by go_num, by omega, by omega, ⟨?_⟩, ⟨?_⟩⟩
            · rw [HS.out]
              exact HR.out.set i (flip195 x)
            · exact HW.out.setCell (p := ⟨g, i, none⟩) hG.out _
        · have hltz : ¬ (i : Int) < (a0.size : Int) := by omega
          obtain rfl : i = a0.size := by omega
          have hcb := HR.out.string cp
          rw [mirrored_length xs _ (by rw [HL.out]; omega), HL.out] at hcb
          have he : mirrored xs a0.size = xs.map flip195 := by rw [← HL.out]; simp [mirrored]
          rw [he, ← HE.out] at hcb
          clear he
          go_wp2
          go_ret2
          exact ⟨by rw [← HRES.out]; rfl, HW.out⟩
end Go.Proofs.Ytkphmbcoefkilaa.P

-- Ucounts
namespace Go.Proofs.Ytkphmbcoefkilaa.P
set_option linter.unusedVariables false
set_option linter.unusedSimpArgs false
open Go.RowKit Go.Proofs.YtkphmbcoefkilaaW.PrintWords Go.Proofs.YtkphmbcoefkilaaW.PrintLast Go.Proofs.YtkphmbcoefkilaaW.PrintMore

def numB (l : List Int) : Nat := l.count 98
def numA (l : List Int) : Nat := l.count 97
theorem num_both {l : List Int} (h : l.all (oneOf 97 98) = true) : numA l + numB l = l.length := by
  induction l with
  | nil => rfl
  | cons x l ih =>
    rw [List.all_cons, Bool.and_eq_true] at h
    have h2 := ih h.2
    have h1 : x = 97 ∨ x = 98 := by simpa [oneOf] using h.1
    unfold numA numB at *
    rcases h1 with rfl | rfl <;> simp <;> omega
theorem chMany_from (s : ByteArray) (hn : s.size ≤ 4611686018427387904) (d : Nat) : ∀ (i n : Nat), i + d = s.size → n ≤ i → Ev (fun k => spec_chMany.l0 k s (n : Int) (i : Int)) (((n + numB ((bytesOf s).drop i) : Nat) : Int)) := by
  induction d with
  | zero =>
    intro i n hi h
    refine Ev.step (f := fun _ => some (n : Int)) (fun k => by simp only [spec_chMany.l0]; rw [if_neg (by omega)]) ?_
    rw [List.drop_eq_nil_of_le (by rw [bytesOf_length]; omega)]
    exact Ev.is rfl
  | succ d ih =>
    intro i n hi h
    have e1 : wrap64 ((i : Int) + 1) = ((i + 1 : Nat) : Int) := w64_succ (n := s.size) (by omega) hn
    have e2 : wrap64 ((n : Int) + 1) = ((n + 1 : Nat) : Int) := w64_succ (n := s.size) (by omega) hn
    refine Ev.step (f := fun k => if bt s (i : Int) = 98 then spec_chMany.l0 k s ((n + 1 : Nat) : Int) ((i + 1 : Nat) : Int) else spec_chMany.l0 k s (n : Int) ((i + 1 : Nat) : Int)) (fun k => ?_) ?_
    · simp only [spec_chMany.l0]
      rw [if_pos (by omega), if_pos (by omega), e1, e2]
    · rw [bytes_drop s i (by omega)]
      by_cases h2 : bt s (i : Int) = 98
      · simp only [h2, if_true]
        have e : n + numB (98 :: (bytesOf s).drop (i + 1)) = (n + 1) + numB ((bytesOf s).drop (i + 1)) := by simp [numB]; omega
        rw [e]
        exact ih (i + 1) (n + 1) (by omega) (by omega)
      · simp only [h2, if_false]
        have e : numB (bt s (i : Int) :: (bytesOf s).drop (i + 1)) = numB ((bytesOf s).drop (i + 1)) := by simp [numB, List.count_cons, h2]
        rw [e]
        exact ih (i + 1) n (by omega) (by omega)
theorem chMany_ev (s : ByteArray) (hn : s.size ≤ 4611686018427387904) : Ev (fun k => spec_chMany.f k s) (numB (bytesOf s) : Int) := by
  unfold spec_chMany.f
  have h := chMany_from s hn s.size 0 0 (by omega) (by omega)
  rw [Nat.zero_add, List.drop_zero] at h
  exact h
theorem count_bytes (l : List UInt8) (c : UInt8) : l.count c = (l.map fun b => (b.toNat : Int)).count (c.toNat : Int) := by
  induction l with
  | nil => rfl
  | cons x l ih =>
    rw [List.map_cons, List.count_cons, List.count_cons, ih]
    congr 1
    by_cases h : x = c
    · simp [h]
    · have h2 : ¬ ((x.toNat : Int) = (c.toNat : Int)) := by
        intro h3
        apply h
        apply UInt8.toNat_inj.1
        omega
      simp [h, h2]
theorem count_b (s : ByteArray) : strings_Count.f s (⟨#[98]⟩ : ByteArray) = some (numB (bytesOf s) : Int) := by
  show some ((Go.Lib.countByte s.data.toList 98 : Nat) : Int) = _
  unfold Go.Lib.countByte numB bytesOf
  rw [count_bytes]
  rfl
theorem count_a (s : ByteArray) : strings_Count.f s (⟨#[97]⟩ : ByteArray) = some (numA (bytesOf s) : Int) := by
  show some ((Go.Lib.countByte s.data.toList 97 : Nat) : Int) = _
  unfold Go.Lib.countByte numA bytesOf
  rw [count_bytes]
  rfl
theorem counts_is (s : ByteArray) : impl_counts.f s = some ((numA (bytesOf s) : Int), (numB (bytesOf s) : Int)) := by
  unfold impl_counts.f
  rw [count_a, count_b]
  rfl
theorem isLet_iff {s : ByteArray} : isLet s = true ↔ 1 ≤ s.size ∧ s.size ≤ 40 ∧ (bytesOf s).all (oneOf 97 98) = true := by simp [isLet]
theorem lets_num {s : ByteArray} (h : (bytesOf s).all (oneOf 97 98) = true) : (s.size : Int) - (numB (bytesOf s) : Int) = (numA (bytesOf s) : Int) := by
  have h2 := num_both h
  rw [bytesOf_length] at h2
  omega
/-- A text cut. -/
theorem bytesOf_extract (s : ByteArray) (i j : Nat) : bytesOf (s.extract i j) = ((bytesOf s).take j).drop i := by
  unfold bytesOf
  rw [ByteArray.data_extract, Array.toList_extract, List.extract_eq_drop_take', List.map_drop, List.map_take]
theorem bytesOf_inj {s t : ByteArray} (h : bytesOf s = bytesOf t) : s = t := by
  unfold bytesOf at h
  apply ByteArray.ext
  apply Array.ext'
  exact (List.map_inj_right (fun a b h => by apply UInt8.toNat_inj.1; omega)).1 h
theorem bytesOf_append (s t : ByteArray) : bytesOf (s ++ t) = bytesOf s ++ bytesOf t := by
  unfold bytesOf
  rw [ByteArray.data_append, Array.toList_append, List.map_append]
theorem toList_is (s : ByteArray) : s.toList = s.data.toList := ByteArray.toList_eq s
theorem toList_beq (s t : ByteArray) : (s.toList == t.toList) = decide (bytesOf s = bytesOf t) := by
  rw [toList_is, toList_is]
  by_cases h : s.data.toList = t.data.toList
  · have h2 : bytesOf s = bytesOf t := by unfold bytesOf; rw [h]
    rw [decide_eq_true h2, h, beq_self_eq_true]
  · have h2 : ¬ bytesOf s = bytesOf t := fun h3 => h (by rw [bytesOf_inj h3])
    rw [decide_eq_false h2, beq_eq_false_iff_ne.2 h]
end Go.Proofs.Ytkphmbcoefkilaa.P

-- UchW
namespace Go.Proofs.Ytkphmbcoefkilaa.P
set_option linter.unusedVariables false
set_option linter.unusedSimpArgs false
open Go.RowKit Go.Proofs.YtkphmbcoefkilaaW.PrintWords Go.Proofs.YtkphmbcoefkilaaW.PrintLast Go.Proofs.YtkphmbcoefkilaaW.PrintMore

/-- The letters of a Christoffel word. -/
def wd (a b : Nat) : List Int := chLets b ((a : Int) + b) 0 (a + b)
/-- Letters that are those of a Christoffel word. -/
def isW (l : List Int) : Bool := Nat.gcd (numA l) (numB l) == 1 && wd (numA l) (numB l) == l
theorem chLets_in (b n : Int) (d : Nat) : ∀ i, (chLets b n i d).all (oneOf 97 98) = true := by
  induction d with
  | zero => intro i; rfl
  | succ d ih =>
    intro i
    rw [chLets, List.all_cons, ih, Bool.and_true]
    unfold chLet oneOf
    split <;> rfl
theorem bytes_chLets (l : List Int) (h : l.all (oneOf 97 98) = true) : bytesOf (strOfNums l) = l := by
  unfold bytesOf strOfNums
  induction l with
  | nil => rfl
  | cons x l ih =>
    rw [List.all_cons, Bool.and_eq_true] at h
    have h1 : x = 97 ∨ x = 98 := by simpa [oneOf] using h.1
    have h2 := ih h.2
    simp only [List.map_cons, List.map_map] at h2 ⊢
    rw [List.cons.injEq]
    refine ⟨?_, by simpa using h2⟩
    rcases h1 with rfl | rfl <;> rfl
theorem chText_bytes (a b : Nat) : bytesOf (chText (a : Int) (b : Int)) = wd a b := by
  unfold chText wd
  have e : ((a : Int) + (b : Int)).toNat = a + b := by omega
  rw [e, bytes_chLets _ (chLets_in _ _ _ _)]
theorem chText_beq (a b : Nat) (s : ByteArray) : ((chText (a : Int) (b : Int)).toList == s.toList) = (wd a b == bytesOf s) := by
  rw [toList_beq, chText_bytes]
  by_cases h : wd a b = bytesOf s
  · rw [decide_eq_true h, h, beq_self_eq_true]
  · rw [decide_eq_false h, beq_eq_false_iff_ne.2 h]
theorem gcd_nat (a b : Nat) : (Int.gcd (a : Int) (b : Int) : Int) = ((Nat.gcd a b : Nat) : Int) := rfl
theorem isW_eq (l : List Int) : isW l = if Nat.gcd (numA l) (numB l) = 1 then wd (numA l) (numB l) == l else false := by
  unfold isW
  by_cases h : Nat.gcd (numA l) (numB l) = 1
  · rw [if_pos h, h, beq_self_eq_true, Bool.true_and]
  · rw [if_neg h, beq_eq_false_iff_ne.2 h, Bool.false_and]
theorem isChristoffel_both (s : ByteArray) (h40 : s.size ≤ 40) (hl : (bytesOf s).all (oneOf 97 98) = true) : Ev (fun k => impl_isChristoffel.f k s) (isW (bytesOf s)) ∧ Ev (fun k => spec_chGood.f k s) (isW (bytesOf s)) := by
  have hn := lets_num hl
  have hb := num_both hl
  rw [bytesOf_length] at hb
  unfold impl_isChristoffel.f spec_chGood.f
  have hw : wrap64 ((s.size : Int) - (numB (bytesOf s) : Int)) = (numA (bytesOf s) : Int) := by rw [hn, w64 (by omega) (by omega)]
  have hc := chText_beq (numA (bytesOf s)) (numB (bytesOf s)) s
  have hsz : numA (bytesOf s) + numB (bytesOf s) ≤ 40 := by omega
  obtain ⟨e1, e2⟩ := chText_both (numA (bytesOf s) : Int) (numB (bytesOf s) : Int) (by omega) (by omega) (by omega)
  have g1 := divisor_ev (numA (bytesOf s) : Int) (numB (bytesOf s) : Int) (by omega) (by omega) (by omega) (by omega)
  have g2 := foGcd_ev (numA (bytesOf s) : Int) (numB (bytesOf s) : Int) (by omega) (by omega) (by omega) (by omega)
  rw [gcd_nat] at g1 g2
  rw [isW_eq]
  constructor
  · refine Ev.bind0 (counts_is s) (Ev.bind g1 ?_)
    by_cases h : Nat.gcd (numA (bytesOf s)) (numB (bytesOf s)) = 1
    · have h3 : ((Nat.gcd (numA (bytesOf s)) (numB (bytesOf s)) : Nat) : Int) = 1 := by omega
      rw [if_pos h]
      simp only [h3, if_true]
      exact Ev.bind e2 (Ev.is (by rw [hc]))
    · have h2 : ¬ ((Nat.gcd (numA (bytesOf s)) (numB (bytesOf s)) : Nat) : Int) = 1 := by omega
      rw [if_neg h]
      simp only [h2, if_false]
      exact Ev.is rfl
  · refine Ev.bind (chMany_ev s (by omega)) ?_
    rw [hw]
    refine Ev.bind g2 ?_
    by_cases h : Nat.gcd (numA (bytesOf s)) (numB (bytesOf s)) = 1
    · have h3 : ((Nat.gcd (numA (bytesOf s)) (numB (bytesOf s)) : Nat) : Int) = 1 := by omega
      rw [if_pos h]
      simp only [h3, if_true]
      exact Ev.bind e1 (Ev.is (by rw [hc]))
    · have h2 : ¬ ((Nat.gcd (numA (bytesOf s)) (numB (bytesOf s)) : Nat) : Int) = 1 := by omega
      rw [if_neg h]
      simp only [h2, if_false]
      exact Ev.is rfl
end Go.Proofs.Ytkphmbcoefkilaa.P

-- UchTwo
namespace Go.Proofs.Ytkphmbcoefkilaa.P
set_option linter.unusedVariables false
set_option linter.unusedSimpArgs false
open Go.RowKit Go.Proofs.YtkphmbcoefkilaaW.PrintWords Go.Proofs.YtkphmbcoefkilaaW.PrintLast Go.Proofs.YtkphmbcoefkilaaW.PrintMore
/-- Letters that are a Christoffel word of two letters or more. -/
def isTwo (s : ByteArray) : Bool := isLet s && (decide (2 ≤ s.size) && isW (bytesOf s))
theorem chTwo_ev (s : ByteArray) : Ev (fun k => spec_chTwo.f k s) (isTwo s) := by
  unfold spec_chTwo.f isTwo
  refine Ev.bind (chLetters_ev s) ?_
  cases h : isLet s with
  | false =>
    simp only [Bool.false_eq_true, if_false, Bool.false_and]
    exact Ev.is rfl
  | true =>
    obtain ⟨h1, h40, hl⟩ := isLet_iff.1 h
    simp only [if_true, Bool.true_and]
    by_cases h2 : 2 ≤ s.size
    · have h3 : (s.size : Int) > 1 := by omega
      rw [decide_eq_true h2, Bool.true_and]
      simp only [h3, if_true]
      exact Ev.bind (isChristoffel_both s h40 hl).2 (Ev.is rfl)
    · have h3 : ¬ (s.size : Int) > 1 := by omega
      rw [decide_eq_false h2, Bool.false_and]
      simp only [h3, if_false]
      exact Ev.is rfl
theorem isTwo_iff {s : ByteArray} : isTwo s = true ↔ isLet s = true ∧ 2 ≤ s.size ∧ isW (bytesOf s) = true := by simp [isTwo]
end Go.Proofs.Ytkphmbcoefkilaa.P

-- UchFactors
namespace Go.Proofs.Ytkphmbcoefkilaa.P
set_option linter.unusedVariables false
set_option linter.unusedSimpArgs false
open Go.RowKit Go.Proofs.YtkphmbcoefkilaaW.PrintWords Go.Proofs.YtkphmbcoefkilaaW.PrintLast Go.Proofs.YtkphmbcoefkilaaW.PrintMore

def isSplit (l : List Int) (k : Nat) : Bool := isW (l.take k) && isW (l.drop k)
/-- The first place from i on where a word parts into two words. -/
def sp (l : List Int) : Nat → Nat → Option Nat
  | _, 0 => none
  | i, d + 1 => if isSplit l i then some i else sp l (i + 1) d
theorem sp_some {l : List Int} {k : Nat} (d : Nat) : ∀ i, sp l i d = some k → i ≤ k ∧ k < i + d ∧ isSplit l k = true ∧ ∀ j, i ≤ j → j < k → isSplit l j = false := by
  induction d with
  | zero => intro i h; simp [sp] at h
  | succ d ih =>
    intro i h
    rw [sp] at h
    by_cases hs : isSplit l i = true
    · rw [if_pos hs] at h
      injection h with h
      subst h
      exact ⟨Nat.le_refl _, by omega, hs, fun j h1 h2 => by omega⟩
    · rw [if_neg hs] at h
      obtain ⟨h1, h2, h3, h4⟩ := ih (i + 1) h
      refine ⟨by omega, by omega, h3, fun j h5 h6 => ?_⟩
      by_cases hj : j = i
      · subst hj
        simpa using hs
      · exact h4 j (by omega) h6
theorem sp_none {l : List Int} (d : Nat) : ∀ i, sp l i d = none → ∀ k, i ≤ k → k < i + d → isSplit l k = false := by
  induction d with
  | zero => intro i h k h1 h2; omega
  | succ d ih =>
    intro i h k h1 h2
    rw [sp] at h
    by_cases hs : isSplit l i = true
    · rw [if_pos hs] at h
      simp at h
    · rw [if_neg hs] at h
      by_cases hk : k = i
      · subst hk
        simpa using hs
      · exact ih (i + 1) h k (by omega) (by omega)

def splits (l : List Int) : Bool := (List.range l.length).any fun k => decide (1 ≤ k) && (k * numB l % l.length == 1 && (isW (l.take k) && isW (l.drop k)))
def splitAll (m : Nat) : Bool := (List.range m).all fun a => (List.range (m - a)).all fun b => !(decide (2 ≤ a + b) && Nat.gcd a b == 1) || splits (wd a b)
set_option maxRecDepth 100000 in
theorem splitAll_is : splitAll 41 = true := by decide +kernel
theorem split_exists {l : List Int} (h2 : 2 ≤ l.length) (h40 : l.length ≤ 40) (hl : l.all (oneOf 97 98) = true) (hw : isW l = true) : ∃ k, sp l 1 (l.length - 1) = some k := by
  have hn := num_both hl
  unfold isW at hw
  rw [Bool.and_eq_true, beq_iff_eq, beq_iff_eq] at hw
  have h1 := splitAll_is
  unfold splitAll at h1
  rw [List.all_eq_true] at h1
  have h3 := h1 (numA l) (List.mem_range.2 (by omega))
  rw [List.all_eq_true] at h3
  have h4 := h3 (numB l) (List.mem_range.2 (by omega))
  rw [hw.1, hw.2, decide_eq_true (show 2 ≤ numA l + numB l by omega)] at h4
  simp only [beq_self_eq_true, Bool.and_self, Bool.not_true, Bool.false_or] at h4
  unfold splits at h4
  rw [List.any_eq_true] at h4
  obtain ⟨k, hk, h5⟩ := h4
  simp only [Bool.and_eq_true, decide_eq_true_eq] at h5
  cases hs : sp l 1 (l.length - 1) with
  | some k => exact ⟨k, rfl⟩
  | none =>
    have h6 := sp_none _ _ hs k h5.1 (by have := List.mem_range.1 hk; omega)
    unfold isSplit at h6
    rw [h5.2.2.1, h5.2.2.2] at h6
    simp at h6

theorem all_take {l : List Int} {p : Int → Bool} (h : l.all p = true) (i : Nat) : (l.take i).all p = true := by
  rw [List.all_eq_true] at h ⊢
  exact fun x hx => h x (List.mem_of_mem_take hx)
theorem all_drop {l : List Int} {p : Int → Bool} (h : l.all p = true) (i : Nat) : (l.drop i).all p = true := by
  rw [List.all_eq_true] at h ⊢
  exact fun x hx => h x (List.mem_of_mem_drop hx)
theorem bytes_head (s : ByteArray) (i : Nat) : bytesOf (s.extract 0 i) = (bytesOf s).take i := by rw [bytesOf_extract, List.drop_zero]
theorem bytes_tail (s : ByteArray) (i : Nat) : bytesOf (s.extract i s.size) = (bytesOf s).drop i := by rw [bytesOf_extract, List.take_of_length_le (by rw [bytesOf_length]; omega)]
theorem head_both (s : ByteArray) (h40 : s.size ≤ 40) (hl : (bytesOf s).all (oneOf 97 98) = true) (i : Nat) : Ev (fun k => impl_isChristoffel.f k (s.extract 0 i)) (isW ((bytesOf s).take i)) ∧ Ev (fun k => spec_chGood.f k (s.extract 0 i)) (isW ((bytesOf s).take i)) := by
  rw [← bytes_head]
  refine isChristoffel_both _ (by rw [ByteArray.size_extract]; omega) ?_
  rw [bytes_head]
  exact all_take hl i
theorem tail_both (s : ByteArray) (h40 : s.size ≤ 40) (hl : (bytesOf s).all (oneOf 97 98) = true) (i : Nat) : Ev (fun k => impl_isChristoffel.f k (s.extract i s.size)) (isW ((bytesOf s).drop i)) ∧ Ev (fun k => spec_chGood.f k (s.extract i s.size)) (isW ((bytesOf s).drop i)) := by
  rw [← bytes_tail]
  refine isChristoffel_both _ (by rw [ByteArray.size_extract]; omega) ?_
  rw [bytes_tail]
  exact all_drop hl i
def cutAt (s : ByteArray) : Option Nat → ByteArray × ByteArray × Bool
  | some k => (s.extract 0 k, s.extract k s.size, true)
  | none => ((⟨#[]⟩ : ByteArray), (⟨#[]⟩ : ByteArray), false)
theorem split_step {α : Type} (a b : Bool) (g : Nat → Option α) (f1 f2 : Nat → Option Bool) (x : α) (y : α) (h1 : Ev f1 a) (h2 : Ev f2 b) (hg : Ev g y) :
    Ev (fun k => (f1 k).bind fun t => if t = true then ((f2 k).bind fun t => if t = true then some x else g k) else g k) (if (a && b) = true then x else y) := by
  refine Ev.bind h1 ?_
  cases a with
  | false =>
    simp only [Bool.false_eq_true, if_false, Bool.false_and]
    exact hg
  | true =>
    simp only [if_true, Bool.true_and]
    refine Ev.bind h2 ?_
    cases b with
    | false =>
      simp only [Bool.false_eq_true, if_false]
      exact hg
    | true =>
      simp only [if_true]
      exact Ev.is rfl
theorem factors_from (s : ByteArray) (h40 : s.size ≤ 40) (hl : (bytesOf s).all (oneOf 97 98) = true) (d : Nat) : ∀ i : Nat, i + d = s.size → Ev (fun k => impl_FactorsOf.l0 k s (i : Int)) (cutAt s (sp (bytesOf s) i d)) ∧ Ev (fun k => spec_chSplit.l0 k s (i : Int)) (((sp (bytesOf s) i d).getD 0 : Nat) : Int) := by
  induction d with
  | zero =>
    intro i hi
    exact ⟨Ev.step (f := fun _ => some (cutAt s none)) (fun k => by simp only [impl_FactorsOf.l0]; rw [if_neg (by omega)]; rfl) (Ev.is rfl),
      Ev.step (f := fun _ => some 0) (fun k => by simp only [spec_chSplit.l0]; rw [if_neg (by omega)]) (Ev.is rfl)⟩
  | succ d ih =>
    intro i hi
    obtain ⟨i1, i2⟩ := ih (i + 1) (by omega)
    obtain ⟨a1, a2⟩ := head_both s h40 hl i
    obtain ⟨b1, b2⟩ := tail_both s h40 hl i
    have e1 : wrap64 ((i : Int) + 1) = ((i + 1 : Nat) : Int) := w64_succ (n := s.size) (by omega) (by omega)
    have hr : cutAt s (sp (bytesOf s) i (d + 1)) = if (isW ((bytesOf s).take i) && isW ((bytesOf s).drop i)) = true then (s.extract 0 i, s.extract i s.size, true) else cutAt s (sp (bytesOf s) (i + 1) d) := by
      rw [sp]
      unfold isSplit
      split <;> rfl
    have hr2 : (((sp (bytesOf s) i (d + 1)).getD 0 : Nat) : Int) = if (isW ((bytesOf s).take i) && isW ((bytesOf s).drop i)) = true then (i : Int) else (((sp (bytesOf s) (i + 1) d).getD 0 : Nat) : Int) := by
      rw [sp]
      unfold isSplit
      split <;> rfl
    rw [hr, hr2]
    constructor
    · refine Ev.step (fun k => ?_) (split_step _ _ (fun k => impl_FactorsOf.l0 k s ((i + 1 : Nat) : Int)) _ _ (s.extract 0 i, s.extract i s.size, true) _ a1 b1 i1)
      simp only [impl_FactorsOf.l0]
      rw [if_pos (by omega), if_pos (by omega), if_pos (by omega), e1, Int.toNat_natCast]
    · refine Ev.step (fun k => ?_) (split_step _ _ (fun k => spec_chSplit.l0 k s ((i + 1 : Nat) : Int)) _ _ (i : Int) _ a2 b2 i2)
      simp only [spec_chSplit.l0]
      rw [if_pos (by omega), if_pos (by omega), if_pos (by omega), e1, Int.toNat_natCast]
def factorsOf (s : ByteArray) : ByteArray × ByteArray × Bool := if isTwo s then cutAt s (sp (bytesOf s) 1 (s.size - 1)) else cutAt s none
theorem two_split {s : ByteArray} (h : isTwo s = true) : ∃ k, sp (bytesOf s) 1 (s.size - 1) = some k ∧ 1 ≤ k ∧ k < s.size := by
  obtain ⟨h1, h2, h3⟩ := isTwo_iff.1 h
  obtain ⟨_, h40, hl⟩ := isLet_iff.1 h1
  obtain ⟨k, hk⟩ := split_exists (l := bytesOf s) (by rw [bytesOf_length]; exact h2) (by rw [bytesOf_length]; exact h40) hl h3
  rw [bytesOf_length] at hk
  have := sp_some _ _ hk
  exact ⟨k, hk, by omega, by omega⟩
theorem spec_FactorsOf_ev (s : ByteArray) : Ev (fun k => spec_FactorsOf.f k s) (factorsOf s) := by
  unfold spec_FactorsOf.f factorsOf
  refine Ev.bind (chTwo_ev s) ?_
  cases h : isTwo s with
  | false =>
    simp only [Bool.false_eq_true, if_false]
    exact Ev.is rfl
  | true =>
    obtain ⟨h1, h2, h3⟩ := isTwo_iff.1 h
    obtain ⟨_, h40, hl⟩ := isLet_iff.1 h1
    obtain ⟨k, hk, hk1, hk2⟩ := two_split h
    have hE := (factors_from s h40 hl (s.size - 1) 1 (by omega)).2
    rw [hk] at hE ⊢
    simp only [if_true]
    refine Ev.bind (show Ev (fun k => spec_chSplit.f k s) ((k : Nat) : Int) from hE) ?_
    have c1 : (0 : Int) ≤ (k : Int) := by omega
    have c2 : (k : Int) ≤ (s.size : Int) := by omega
    simp only [c1, c2, if_true, Int.toNat_natCast]
    exact Ev.is rfl
theorem impl_FactorsOf_ev (s : ByteArray) : Ev (fun k => impl_FactorsOf.f k s) (factorsOf s) := by
  unfold impl_FactorsOf.f factorsOf isTwo
  have no : Ev (fun k => impl_FactorsOf.j0 k s true) (cutAt s none) := Ev.step (f := fun _ => some (cutAt s none)) (fun k => by simp only [impl_FactorsOf.j0, if_true]; rfl) (Ev.is rfl)
  refine Ev.bind0 (impl_IsLetters_is s) ?_
  cases h : isLet s with
  | false =>
    simp only [Bool.false_eq_true, if_false, Bool.false_and]
    exact no
  | true =>
    obtain ⟨h1, h40, hl⟩ := isLet_iff.1 h
    simp only [if_true, Bool.true_and]
    refine Ev.bind (isChristoffel_both s h40 hl).1 ?_
    cases hw : isW (bytesOf s) with
    | false =>
      simp only [Bool.and_false, Bool.false_eq_true, if_false, Bool.not_false]
      exact no
    | true =>
      rw [Bool.and_true]
      have hE := (factors_from s h40 hl (s.size - 1) 1 (by omega)).1
      refine Ev.step (f := fun k => impl_FactorsOf.l0 k s 1) (fun k => by simp only [impl_FactorsOf.j0, Bool.not_true, Bool.false_eq_true, if_false]) ?_
      by_cases h2 : 2 ≤ s.size
      · rw [decide_eq_true h2]
        simp only [if_true]
        exact hE
      · rw [decide_eq_false h2]
        have e : s.size - 1 = 0 := by omega
        rw [e] at hE
        simp only [Bool.false_eq_true, if_false]
        exact hE
end Go.Proofs.Ytkphmbcoefkilaa.P

-- UchFacts
namespace Go.Proofs.Ytkphmbcoefkilaa.P
set_option linter.unusedVariables false
set_option linter.unusedSimpArgs false
open Go.RowKit Go.Proofs.YtkphmbcoefkilaaW.PrintWords Go.Proofs.YtkphmbcoefkilaaW.PrintLast Go.Proofs.YtkphmbcoefkilaaW.PrintMore
/-- The letters' numbers up to a place. -/
theorem cnt_from (b n : Nat) (hb : b ≤ n) (hn : 0 < n) (d : Nat) : ∀ i, numB (chLets b n i d) + i * b / n = (i + d) * b / n := by
  induction d with
  | zero => intro i; simp [chLets, numB]
  | succ d ih =>
    intro i
    have h := ih (i + 1)
    have h1 : i * b / n ≤ (i + 1) * b / n := Nat.div_le_div_right (Nat.mul_le_mul_right b (by omega))
    have h2 : (i + 1) * b / n ≤ i * b / n + 1 := by
      have : (i + 1) * b / n ≤ (i * b + n) / n := Nat.div_le_div_right (by rw [Nat.add_mul]; omega)
      rw [Nat.add_div_right _ hn] at this
      omega
    have e1 : ((i : Int) * (b : Int) / (n : Int)) = ((i * b / n : Nat) : Int) := by simp
    have e2 : (((i : Int) + 1) * (b : Int) / (n : Int)) = (((i + 1) * b / n : Nat) : Int) := by simp
    have e3 : (i + 1 + d) * b / n = (i + (d + 1)) * b / n := by rw [show i + 1 + d = i + (d + 1) by omega]
    rw [e3] at h
    rw [chLets]
    by_cases hq : i * b / n = (i + 1) * b / n
    · have hc : chLet b n i = 97 := by unfold chLet; rw [e1, e2, if_pos (by rw [hq])]
      have hcount : numB (chLet b n i :: chLets b n (i + 1) d) = numB (chLets b n (i + 1) d) := by rw [hc]; simp [numB]
      rw [hcount]
      omega
    · have hc : chLet b n i = 98 := by unfold chLet; rw [e1, e2, if_neg (by omega)]
      have hcount : numB (chLet b n i :: chLets b n (i + 1) d) = numB (chLets b n (i + 1) d) + 1 := by rw [hc]; simp [numB]
      rw [hcount]
      omega
theorem chLets_take (b n : Int) (m d : Nat) : ∀ i, m ≤ d → (chLets b n i d).take m = chLets b n i m := by
  induction m generalizing d with
  | zero => intro i _; simp [chLets]
  | succ m ih =>
    intro i h
    cases d with
    | zero => omega
    | succ d => rw [chLets, chLets, List.take_succ_cons, ih d (i + 1) (by omega)]
theorem chLets_drop (b n : Int) (m d : Nat) : ∀ i, m ≤ d → (chLets b n i d).drop m = chLets b n (i + m) (d - m) := by
  induction m generalizing d with
  | zero => intro i _; simp
  | succ m ih =>
    intro i h
    cases d with
    | zero => omega
    | succ d =>
      rw [chLets, List.drop_succ_cons, ih d (i + 1) (by omega)]
      congr 1 <;> omega
theorem wd_is (a b : Nat) : wd a b = chLets b ((a + b : Nat) : Int) 0 (a + b) := by
  unfold wd
  rw [Int.natCast_add]
theorem wd_len (a b : Nat) : (wd a b).length = a + b := by rw [wd_is, chLets_length]
/-- The b's of a part. -/
theorem wd_part (a b : Nat) (h1 : 1 ≤ a + b) (i m : Nat) (hm : i + m ≤ a + b) : numB (((wd a b).drop i).take m) + i * b / (a + b) = (i + m) * b / (a + b) := by
  rw [wd_is, chLets_drop _ _ _ _ _ (by omega), chLets_take _ _ _ _ _ (by omega), Nat.zero_add]
  exact cnt_from b (a + b) (by omega) (by omega) m i
theorem wd_pre (a b : Nat) (h1 : 1 ≤ a + b) (m : Nat) (hm : m ≤ a + b) : numB ((wd a b).take m) = m * b / (a + b) := by
  have h := wd_part a b h1 0 m (by omega)
  simpa using h
theorem wd_letters (a b : Nat) : ∀ x ∈ wd a b, x = 97 ∨ x = 98 := by
  have h : ∀ (d i : Nat) (n : Int), ∀ x ∈ chLets (b : Int) n i d, x = 97 ∨ x = 98 := by
    intro d
    induction d with
    | zero => intro i n x hx; simp [chLets] at hx
    | succ d ih =>
      intro i n x hx
      rw [chLets] at hx
      rcases List.mem_cons.1 hx with rfl | hx
      · unfold chLet
        split
        · exact .inl rfl
        · exact .inr rfl
      · exact ih _ _ x hx
  exact h _ _ _
theorem num_sum {l : List Int} (h : ∀ x ∈ l, x = 97 ∨ x = 98) : numA l + numB l = l.length := by
  induction l with
  | nil => rfl
  | cons x l ih =>
    have h2 := ih (fun y hy => h y (List.mem_cons_of_mem _ hy))
    unfold numA numB at *
    rcases h x List.mem_cons_self with rfl | rfl <;> simp <;> omega
/-- What two factors say in numbers. -/
def okS (n b k : Nat) : Bool := Nat.gcd (k - k * b / n) (k * b / n) == 1 && ((List.range k).all (fun i => i * (k * b / n) / k == i * b / n) && (Nat.gcd (n - k - (b - k * b / n)) (b - k * b / n) == 1 && (List.range (n - k)).all (fun i => i * (b - k * b / n) / (n - k) + k * b / n == (k + i) * b / n)))
theorem isW_parts {l : List Int} (h : isW l = true) : Nat.gcd (numA l) (numB l) = 1 ∧ wd (numA l) (numB l) = l := by
  unfold isW at h
  rw [Bool.and_eq_true, beq_iff_eq, beq_iff_eq] at h
  exact h
theorem split_ok {a b k : Nat} (hk : 1 ≤ k) (hk2 : k < a + b) (h : isSplit (wd a b) k = true) : okS (a + b) b k = true := by
  unfold isSplit at h
  rw [Bool.and_eq_true] at h
  obtain ⟨g1, w1⟩ := isW_parts h.1
  obtain ⟨g2, w2⟩ := isW_parts h.2
  have hlet := wd_letters a b
  have l1 : ((wd a b).take k).length = k := by rw [List.length_take, wd_len]; omega
  have l2 : ((wd a b).drop k).length = a + b - k := by rw [List.length_drop, wd_len]
  have s1 := num_sum (l := (wd a b).take k) (fun x hx => hlet x (List.mem_of_mem_take hx))
  have s2 := num_sum (l := (wd a b).drop k) (fun x hx => hlet x (List.mem_of_mem_drop hx))
  have b1 := wd_pre a b (by omega) k (by omega)
  have b2 := wd_part a b (by omega) k (a + b - k) (by omega)
  rw [List.take_of_length_le (by rw [l2]; omega), show k + (a + b - k) = a + b by omega, Nat.mul_div_cancel_left b (by omega)] at b2
  have b3 : numB ((wd a b).drop k) = b - k * b / (a + b) := by omega
  have a1 : numA ((wd a b).take k) = k - k * b / (a + b) := by omega
  have a2 : numA ((wd a b).drop k) = a + b - k - (b - k * b / (a + b)) := by omega
  have n1 : numA ((wd a b).take k) + numB ((wd a b).take k) = k := by omega
  have n2 : numA ((wd a b).drop k) + numB ((wd a b).drop k) = a + b - k := by omega
  unfold okS
  rw [Bool.and_eq_true, Bool.and_eq_true, Bool.and_eq_true, beq_iff_eq, beq_iff_eq, List.all_eq_true, List.all_eq_true]
  refine ⟨by rw [a1, b1] at g1; exact g1, fun i hi => ?_, by rw [a2, b3] at g2; exact g2, fun i hi => ?_⟩
  · rw [List.mem_range] at hi
    rw [beq_iff_eq]
    have p1 := wd_pre (numA ((wd a b).take k)) (numB ((wd a b).take k)) (by omega) i (by omega)
    rw [w1, n1, b1, List.take_take, Nat.min_eq_left (by omega)] at p1
    rw [← p1, wd_pre a b (by omega) i (by omega)]
  · rw [List.mem_range] at hi
    rw [beq_iff_eq]
    have p1 := wd_pre (numA ((wd a b).drop k)) (numB ((wd a b).drop k)) (by omega) i (by omega)
    rw [w2, n2, b3] at p1
    have p2 := wd_part a b (by omega) k i (by omega)
    omega
def onlyAll : Bool := (List.range 41).all fun n => (List.range (n + 1)).all fun b => !(Nat.gcd (n - b) b == 1) || (List.range n).all fun k => k == 0 || (!okS n b k || k * b % n == 1)
set_option maxRecDepth 100000 in
theorem onlyAll_is : onlyAll = true := by decide +kernel
theorem split_mod {a b k : Nat} (h40 : a + b ≤ 40) (hg : Nat.gcd a b = 1) (hk : 1 ≤ k) (hk2 : k < a + b) (h : isSplit (wd a b) k = true) : k * b % (a + b) = 1 := by
  have h1 := onlyAll_is
  unfold onlyAll at h1
  have h2 := List.all_eq_true.1 (List.all_eq_true.1 h1 (a + b) (List.mem_range.2 (by omega))) b (List.mem_range.2 (by omega))
  rw [show a + b - b = a by omega, hg] at h2
  simp only [beq_self_eq_true, Bool.not_true, Bool.false_or] at h2
  have h3 := List.all_eq_true.1 h2 k (List.mem_range.2 hk2)
  rw [split_ok hk hk2 h] at h3
  simp only [Bool.not_true, Bool.false_or, Bool.or_eq_true, beq_iff_eq] at h3
  rcases h3 with h3 | h3
  · omega
  · exact h3
theorem mod_only {n b k k' : Nat} (hk : k < n) (hk' : k' < n) (h : k * b % n = 1) (h' : k' * b % n = 1) : k = k' := by
  have e1 := Nat.div_add_mod (k * b) n
  have e2 := Nat.div_add_mod (k' * b) n
  rw [h] at e1
  rw [h'] at e2
  have e3 : k' + n * (k' * (k * b / n)) = k + n * (k * (k' * b / n)) := by
    have f1 : k' * (n * (k * b / n) + 1) = k' * (k * b) := by rw [e1]
    have f2 : k * (n * (k' * b / n) + 1) = k * (k' * b) := by rw [e2]
    have f3 : k' * (k * b) = k * (k' * b) := Nat.mul_left_comm _ _ _
    rw [Nat.mul_add, Nat.mul_one, Nat.mul_left_comm] at f1 f2
    omega
  have e4 : (k' + n * (k' * (k * b / n))) % n = (k + n * (k * (k' * b / n))) % n := by rw [e3]
  rw [Nat.add_mul_mod_self_left, Nat.add_mul_mod_self_left, Nat.mod_eq_of_lt hk, Nat.mod_eq_of_lt hk'] at e4
  exact e4.symm
theorem split_only {l : List Int} {k k' : Nat} (hw : isW l = true) (h40 : l.length ≤ 40) (hk : 1 ≤ k) (hk2 : k < l.length) (hk' : 1 ≤ k') (hk2' : k' < l.length) (h : isSplit l k = true) (h' : isSplit l k' = true) : k = k' := by
  obtain ⟨hg, hl⟩ := isW_parts hw
  have hn : l.length = numA l + numB l := by rw [← wd_len, hl]
  rw [← hl] at h h'
  have h1 := split_mod (by omega) hg hk (by omega) h
  have h2 := split_mod (by omega) hg hk' (by omega) h'
  exact mod_only (by omega) (by omega) h1 h2
/-- A check of all words with at most 40 letters. -/
def allW (f : Nat → Nat → Bool) : Bool := (List.range 41).all fun a => (List.range (41 - a)).all fun b => !(Nat.gcd a b == 1) || f a b
theorem allW_use {f : Nat → Nat → Bool} (h : allW f = true) {a b : Nat} (h40 : a + b ≤ 40) (hg : Nat.gcd a b = 1) : f a b = true := by
  have h2 := List.all_eq_true.1 (List.all_eq_true.1 h a (List.mem_range.2 (by omega))) b (List.mem_range.2 (by omega))
  rw [hg] at h2
  simpa using h2
def mirL (l : List Int) : List Int := (l.map (fun c => 195 - c)).reverse
set_option maxRecDepth 100000 in
theorem nbrAll : allW (fun a b => (List.range (a + b)).all fun k => !(k * b % (a + b) == 1) || (decide (40 < a + b + max k (a + b - k)) || (isW ((wd a b).take k ++ wd a b) && isW (wd a b ++ (wd a b).drop k)))) = true := by decide +kernel
end Go.Proofs.Ytkphmbcoefkilaa.P

-- Uturns
namespace Go.Proofs.Ytkphmbcoefkilaa.P
set_option linter.unusedVariables false
set_option linter.unusedSimpArgs false
open Go.RowKit Go.Proofs.YtkphmbcoefkilaaW.PrintWords Go.Proofs.YtkphmbcoefkilaaW.PrintLast Go.Proofs.YtkphmbcoefkilaaW.PrintMore

abbrev BL := List UInt8
theorem bl_lt_of_le_ne {x y : BL} (h : x ≤ y) (hn : x ≠ y) : x < y := by
  rcases List.le_iff_lt_or_eq.1 h with h | h
  · exact h
  · exact absurd h hn
/-- Two lists that rise strictly and hold the same are one. -/
theorem rising_unique {l m : List BL} (hl : l.Pairwise (· < ·)) (hm : m.Pairwise (· < ·)) (h : ∀ x, x ∈ l ↔ x ∈ m) : l = m := by
  induction l generalizing m with
  | nil =>
    cases m with
    | nil => rfl
    | cons y m => exact absurd ((h y).2 List.mem_cons_self) (by simp)
  | cons x l ih =>
    cases m with
    | nil => exact absurd ((h x).1 List.mem_cons_self) (by simp)
    | cons y m =>
      rw [List.pairwise_cons] at hl hm
      have hxy : x = y := by
        rcases List.mem_cons.1 ((h x).1 List.mem_cons_self) with e | e
        · exact e
        · rcases List.mem_cons.1 ((h y).2 List.mem_cons_self) with e2 | e2
          · exact e2.symm
          · exact absurd (List.lt_trans (hm.1 x e) (hl.1 y e2)) (List.lt_irrefl _)
      subst hxy
      congr 1
      refine ih hl.2 hm.2 (fun z => ?_)
      constructor
      · intro hz
        rcases List.mem_cons.1 ((h z).1 (List.mem_cons_of_mem _ hz)) with e | e
        · subst e
          exact absurd (hl.1 z hz) (List.lt_irrefl _)
        · exact e
      · intro hz
        rcases List.mem_cons.1 ((h z).2 (List.mem_cons_of_mem _ hz)) with e | e
        · subst e
          exact absurd (hm.1 z hz) (List.lt_irrefl _)
        · exact e
/-- Insertion, no doubles. -/
def insT (t : BL) : List BL → List BL
  | [] => [t]
  | y :: l => if y < t then y :: insT t l else if y = t then y :: l else t :: y :: l
theorem insT_mem (t : BL) (l : List BL) (x : BL) : x ∈ insT t l ↔ x = t ∨ x ∈ l := by
  induction l with
  | nil => simp [insT]
  | cons y l ih =>
    rw [insT]
    split
    · rw [List.mem_cons, ih, List.mem_cons]
      constructor
      · rintro (h | h | h)
        · exact .inr (.inl h)
        · exact .inl h
        · exact .inr (.inr h)
      · rintro (h | h | h)
        · exact .inr (.inl h)
        · exact .inl h
        · exact .inr (.inr h)
    · split
      · rename_i h
        subst h
        constructor
        · exact fun h => .inr h
        · rintro (h | h)
          · rw [h]; exact List.mem_cons_self
          · exact h
      · rw [List.mem_cons]
theorem insT_rising (t : BL) (l : List BL) (h : l.Pairwise (· < ·)) : (insT t l).Pairwise (· < ·) := by
  induction l with
  | nil => simp [insT]
  | cons y l ih =>
    rw [List.pairwise_cons] at h
    rw [insT]
    split
    · rename_i hy
      rw [List.pairwise_cons]
      refine ⟨fun z hz => ?_, ih h.2⟩
      rcases (insT_mem t l z).1 hz with e | e
      · rw [e]; exact hy
      · exact h.1 z e
    · rename_i hy
      split
      · exact List.pairwise_cons.2 h
      · rename_i hne
        have hlt : t < y := bl_lt_of_le_ne (List.not_lt.1 hy) (fun e => hne e.symm)
        rw [List.pairwise_cons]
        refine ⟨fun z hz => ?_, List.pairwise_cons.2 h⟩
        rcases List.mem_cons.1 hz with e | e
        · rw [e]; exact hlt
        · exact List.lt_trans hlt (h.1 z e)
theorem insT_length (t : BL) (l : List BL) : (insT t l).length ≤ l.length + 1 := by
  induction l with
  | nil => simp [insT]
  | cons y l ih =>
    rw [insT]
    split
    · simp only [List.length_cons]; omega
    · split <;> simp
/-- Compact of what does not fall: rises strictly, holds the same. -/
theorem compact_upto (d : Array BL) (hd : ∀ i j, i ≤ j → j < d.size → d[i]! ≤ d[j]!) (m : Nat) (hm : m ≤ d.size) : (Go.Lib.compactUpTo d m).Pairwise (· < ·) ∧ ∀ x, x ∈ Go.Lib.compactUpTo d m ↔ ∃ j, j < m ∧ d[j]! = x := by
  induction m with
  | zero => exact ⟨by simp [Go.Lib.compactUpTo], by simp [Go.Lib.compactUpTo]⟩
  | succ m ih =>
    obtain ⟨h1, h2⟩ := ih (by omega)
    rw [Go.Lib.compactUpTo_succ]
    cases hk : Go.Lib.keeps d m with
    | true =>
      simp only [if_true]
      constructor
      · rw [List.pairwise_append]
        refine ⟨h1, by simp, fun a ha b hb => ?_⟩
        rw [List.mem_singleton] at hb
        subst hb
        obtain ⟨j, hj, rfl⟩ := (h2 a).1 ha
        have hne : d[m]! ≠ d[m - 1]! := by
          unfold Go.Lib.keeps at hk
          rw [decide_eq_true_eq] at hk
          rcases hk with h | h
          · omega
          · exact h
        have a1 := hd j (m - 1) (by omega) (by omega)
        have a2 := bl_lt_of_le_ne (hd (m - 1) m (by omega) (by omega)) (fun e => hne e.symm)
        exact List.lt_of_le_of_lt a1 a2
      · intro x
        rw [List.mem_append, List.mem_singleton, h2]
        constructor
        · rintro (⟨j, hj, e⟩ | e)
          · exact ⟨j, by omega, e⟩
          · exact ⟨m, by omega, e.symm⟩
        · rintro ⟨j, hj, e⟩
          by_cases h : j = m
          · subst h; exact .inr e.symm
          · exact .inl ⟨j, by omega, e⟩
    | false =>
      simp only [Bool.false_eq_true, if_false, List.append_nil]
      refine ⟨h1, fun x => ?_⟩
      rw [h2]
      unfold Go.Lib.keeps at hk
      rw [decide_eq_false_iff_not] at hk
      constructor
      · rintro ⟨j, hj, e⟩
        exact ⟨j, by omega, e⟩
      · rintro ⟨j, hj, e⟩
        by_cases h : j = m
        · subst h
          refine ⟨j - 1, ?_, ?_⟩
          · rcases Nat.eq_zero_or_pos j with h0 | h0
            · exact absurd (Or.inl h0) hk
            · omega
          · rw [← e]
            by_cases h5 : d[j]! = d[j - 1]!
            · exact h5.symm
            · exact absurd (Or.inr h5) hk
        · exact ⟨j, by omega, e⟩
theorem getElem!_list (zs : List BL) (i : Nat) (h : i < zs.length) : zs.toArray[i]! = zs[i] := by
  simp [getElem!_pos, h]
theorem compact_rising (zs : List BL) (h : zs.Pairwise (· ≤ ·)) : (Go.Lib.compact zs).Pairwise (· < ·) ∧ ∀ x, x ∈ Go.Lib.compact zs ↔ x ∈ zs := by
  have hc := compact_upto zs.toArray (fun i j hij hj => by
    have hj' : j < zs.length := by simpa using hj
    rw [getElem!_list zs i (by omega), getElem!_list zs j hj']
    rcases Nat.lt_or_ge i j with h1 | h1
    · exact List.pairwise_iff_getElem.1 h i j (by omega) hj' h1
    · have : i = j := by omega
      subst this
      exact List.le_refl _) zs.length (by simp)
  unfold Go.Lib.compact
  refine ⟨hc.1, fun x => ?_⟩
  rw [hc.2]
  constructor
  · rintro ⟨j, hj, rfl⟩
    rw [getElem!_list zs j hj]
    exact List.getElem_mem hj
  · intro hx
    obtain ⟨j, hj, rfl⟩ := List.getElem_of_mem hx
    exact ⟨j, hj, getElem!_list zs j hj⟩
theorem sorted_bl (l : List BL) : (l.mergeSort fun x y => decide (x ≤ y)).Pairwise (· ≤ ·) ∧ ∀ x, x ∈ (l.mergeSort fun x y => decide (x ≤ y)) ↔ x ∈ l := by
  constructor
  · have h := List.pairwise_mergeSort (le := fun x y : BL => decide (x ≤ y)) (by intro a b c h1 h2; simp only [decide_eq_true_eq] at *; exact List.le_trans h1 h2) (by intro a b; simp only [Bool.or_eq_true, decide_eq_true_eq]; exact List.le_total a b) l
    exact h.imp (by intro a b h; simpa using h)
  · intro x
    exact (List.mergeSort_perm l _).mem_iff
/-- The turns, one by one. -/
def turnAt (s : ByteArray) (i : Nat) : ByteArray := s.extract i s.size ++ s.extract 0 i
def allT (s : ByteArray) : List BL := (List.range s.size).map fun i => bytesList (turnAt s i)
/-- All different turns, in order. -/
def turnsOf (s : ByteArray) : List BL := (allT s).foldl (fun o t => insT t o) []
theorem foldl_insT (l : List BL) : ∀ o : List BL, o.Pairwise (· < ·) → (l.foldl (fun o t => insT t o) o).Pairwise (· < ·) ∧ ∀ x, x ∈ l.foldl (fun o t => insT t o) o ↔ x ∈ l ∨ x ∈ o := by
  induction l with
  | nil => intro o ho; exact ⟨ho, by simp⟩
  | cons t l ih =>
    intro o ho
    obtain ⟨h1, h2⟩ := ih (insT t o) (insT_rising t o ho)
    refine ⟨h1, fun x => ?_⟩
    rw [List.foldl_cons, h2, insT_mem, List.mem_cons]
    constructor
    · rintro (h | h | h)
      · exact .inl (.inr h)
      · exact .inl (.inl h)
      · exact .inr h
    · rintro ((h | h) | h)
      · exact .inr (.inl h)
      · exact .inl h
      · exact .inr (.inr h)
theorem compact_turns (l : List BL) : Go.Lib.compact (l.mergeSort fun x y => decide (x ≤ y)) = l.foldl (fun o t => insT t o) [] := by
  have h1 := sorted_bl l
  have h2 := compact_rising _ h1.1
  have h3 := foldl_insT l [] List.Pairwise.nil
  refine rising_unique h2.1 h3.1 (fun x => ?_)
  rw [h2.2, h1.2, h3.2]
  simp
end Go.Proofs.Ytkphmbcoefkilaa.P

-- UturnsOf
namespace Go.Proofs.Ytkphmbcoefkilaa.P
set_option linter.unusedVariables false
set_option linter.unusedSimpArgs false
open Go.RowKit Go.Proofs.YtkphmbcoefkilaaW.PrintWords Go.Proofs.YtkphmbcoefkilaaW.PrintLast Go.Proofs.YtkphmbcoefkilaaW.PrintMore

theorem turn_size (s : ByteArray) (i : Nat) (hi : i ≤ s.size) : (s.extract i s.size).size + (s.extract 0 i).size = s.size := by
  rw [ByteArray.size_extract, ByteArray.size_extract]
  omega
theorem back_bytes (o : List BL) : (o.map ofBytes).map bytesList = o := by
  rw [List.map_map]
  have : bytesList ∘ ofBytes = id := by funext x; rfl
  rw [this, List.map_id]
theorem impl_turns_upto (s : ByteArray) (hn : s.size ≤ 1000000) (d : Nat) : ∀ i : Nat, i + d = s.size → Ev (fun k => impl_turns.l0 k s ((List.range i).map (turnAt s)) (s.size : Int) (i : Int)) ((turnsOf s).map ofBytes) := by
  induction d with
  | zero =>
    intro i hi
    have hi2 : i = s.size := by omega
    subst hi2
    have e1 : sortStrings ((List.range s.size).map (turnAt s)) = ((allT s).mergeSort fun x y => decide (x ≤ y)).map ofBytes := by
      unfold sortStrings allT
      rw [List.map_map]
      rfl
    have e2 : compactStrings (sortStrings ((List.range s.size).map (turnAt s))) = (turnsOf s).map ofBytes := by
      unfold compactStrings turnsOf
      rw [e1, back_bytes, compact_turns]
    have hlen : ((List.range s.size).map (turnAt s)).length < 4611686018427387904 := by simp; omega
    refine Ev.step (f := fun _ => some ((turnsOf s).map ofBytes)) (fun k => ?_) (Ev.is rfl)
    simp only [impl_turns.l0]
    rw [if_neg (by omega)]
    unfold slices_Sort_string_string.f slices_Compact_string_string.f
    rw [if_pos hlen]
    simp only [Option.bind_some, e2]
  | succ d ih =>
    intro i hi
    have hsz := turn_size s i (by omega)
    have e : (List.range (i + 1)).map (turnAt s) = (List.range i).map (turnAt s) ++ [s.extract i s.size ++ s.extract 0 i] := by
      rw [List.range_succ, List.map_append]
      rfl
    have h := ih (i + 1) (by omega)
    rw [e] at h
    refine Ev.step (fun k => ?_) h
    simp only [impl_turns.l0]
    rw [Int.toNat_natCast, if_pos (by omega), if_pos (by omega), if_pos (by omega), if_pos (by omega), if_pos (by simp; omega), w64_succ (n := s.size) (by omega) (by omega)]
theorem impl_turns_ev (s : ByteArray) (hn : s.size ≤ 1000000) : Ev (fun k => impl_turns.f k s) ((turnsOf s).map ofBytes) := by
  unfold impl_turns.f
  exact impl_turns_upto s hn s.size 0 (by omega)
theorem rdOf_at (o : List BL) (j : Nat) (hj : j < o.length) : (rdOf ByteArray.empty (o.map ofBytes) (j : Int)).toList = o[j] := by
  unfold rdOf
  rw [toList_is, Int.toNat_natCast, List.getD_eq_getElem?_getD, List.getElem?_eq_getElem (by simpa using hj)]
  simp [ofBytes]
theorem turns_in (s : ByteArray) (hn : s.size ≤ 1000000) (o : List BL) (ho : o.length ≤ 1000000) (t : BL) (i : Nat) (hi : i < s.size) (r : List ByteArray) (d : Nat) : ∀ j : Nat, j + d = o.length → Ev (fun k => spec_chTurns.l0 k s ((o.take j ++ insT t (o.drop j)).map ofBytes) ((i + 1 : Nat) : Int)) r → Ev (fun k => spec_chTurns.l1 k s (o.map ofBytes) (i : Int) (ofBytes t) (j : Int)) r := by
  have hml : (o.map ofBytes).length = o.length := List.length_map _
  have ht : (ofBytes t).toList = t := by rw [toList_is]; rfl
  have e1 : wrap64 ((i : Int) + 1) = ((i + 1 : Nat) : Int) := w64_succ (n := s.size) hi (by omega)
  have hput : ∀ j : Nat, j ≤ o.length → ((o.map ofBytes).take j ++ [ofBytes t]) ++ (o.map ofBytes).drop j = (o.take j ++ t :: o.drop j).map ofBytes := by
    intro j hj
    rw [List.map_append, List.map_cons, List.map_take, List.map_drop, List.append_assoc, List.singleton_append]
  have l1 : ∀ j : Nat, j ≤ o.length → ((o.map ofBytes).take j).length = j := fun j hj => by rw [List.length_take, hml]; omega
  have l2 : ∀ j : Nat, j ≤ o.length → ((o.map ofBytes).drop j).length = o.length - j := fun j hj => by rw [List.length_drop, hml]
  have l3 : ∀ j : Nat, j ≤ o.length → ((o.map ofBytes).take j ++ [ofBytes t]).length = j + 1 := fun j hj => by rw [List.length_append, l1 j hj, List.length_singleton]
  induction d with
  | zero =>
    intro j hid hE
    rw [List.drop_eq_nil_of_le (by omega), insT] at hE
    refine Ev.step (f := fun k => spec_chTurns.l0 k s ((o.take j ++ [t]).map ofBytes) ((i + 1 : Nat) : Int)) (fun k => ?_) hE
    have hp := hput j (by omega)
    rw [List.drop_eq_nil_of_le (by omega : o.length ≤ j)] at hp
    simp only [spec_chTurns.l1]
    rw [if_neg (by omega)]
    simp only [Option.bind_some, List.nil_append, List.length_nil, Int.toNat_natCast]
    rw [if_pos (by omega), if_pos (by omega), l1 j (by omega), if_pos (by omega), if_pos (by omega), l3 j (by omega), l2 j (by omega), if_pos (by omega), e1, hp]
  | succ d ih =>
    intro j hid hE
    have hj : j < o.length := by omega
    have hr := rdOf_at o j hj
    have hdrop : o.drop j = o[j] :: o.drop (j + 1) := List.drop_eq_getElem_cons hj
    rw [hdrop, insT] at hE
    by_cases h : o[j] < t
    · rw [if_pos h] at hE
      refine Ev.step (f := fun k => spec_chTurns.l1 k s (o.map ofBytes) (i : Int) (ofBytes t) ((j + 1 : Nat) : Int)) (fun k => ?_) (ih (j + 1) (by omega) ?_)
      · simp only [spec_chTurns.l1]
        rw [if_pos (by omega), if_pos (by omega), hr, ht, bytesLess_eq, if_pos (decide_eq_true h), w64_succ (n := o.length) hj (by omega)]
      · rw [List.take_succ_eq_append_getElem hj, List.append_assoc, List.singleton_append]
        exact hE
    · rw [if_neg h] at hE
      have hb : ¬ (decide (o[j] < t) = true) := by simpa using h
      by_cases h2 : o[j] = t
      · rw [if_pos h2] at hE
        refine Ev.step (f := fun k => spec_chTurns.l0 k s (o.map ofBytes) ((i + 1 : Nat) : Int)) (fun k => ?_) ?_
        · simp only [spec_chTurns.l1]
          rw [if_pos (by omega), if_pos (by omega), hr, ht, bytesLess_eq, if_neg hb, if_pos h2, e1]
        · rw [← hdrop, List.take_append_drop] at hE
          exact hE
      · rw [if_neg h2, ← hdrop] at hE
        refine Ev.step (f := fun k => spec_chTurns.l0 k s ((o.take j ++ t :: o.drop j).map ofBytes) ((i + 1 : Nat) : Int)) (fun k => ?_) hE
        have hp := hput j (by omega)
        simp only [spec_chTurns.l1]
        rw [if_pos (by omega), if_pos (by omega), hr, ht, bytesLess_eq, if_neg hb, if_neg h2]
        simp only [Option.bind_some, List.nil_append, List.length_nil, Int.toNat_natCast]
        rw [if_pos (by omega), l1 j (by omega), if_pos (by omega), if_pos (by omega), l3 j (by omega), l2 j (by omega), if_pos (by omega), e1, hp]
theorem foldl_length (l : List BL) : ∀ o : List BL, (l.foldl (fun o t => insT t o) o).length ≤ o.length + l.length := by
  induction l with
  | nil => intro o; simp
  | cons t l ih =>
    intro o
    have h1 := ih (insT t o)
    have h2 := insT_length t o
    rw [List.foldl_cons, List.length_cons]
    omega
theorem spec_turns_upto (s : ByteArray) (hn : s.size ≤ 100000) (d : Nat) : ∀ (i : Nat) (o : List BL), i + d = s.size → o.length ≤ i → Ev (fun k => spec_chTurns.l0 k s (o.map ofBytes) (i : Int)) ((((allT s).drop i).foldl (fun o t => insT t o) o).map ofBytes) := by
  have hall : (allT s).length = s.size := by simp [allT]
  induction d with
  | zero =>
    intro i o hi ho
    rw [List.drop_eq_nil_of_le (by omega)]
    exact Ev.step (f := fun _ => some (o.map ofBytes)) (fun k => by simp only [spec_chTurns.l0]; rw [if_neg (by omega)]) (Ev.is rfl)
  | succ d ih =>
    intro i o hi ho
    have hsz := turn_size s i (by omega)
    have hlt : i < (allT s).length := by omega
    have hget : (allT s)[i] = bytesList (turnAt s i) := by simp [allT]
    rw [List.drop_eq_getElem_cons hlt, List.foldl_cons, hget]
    refine Ev.step (f := fun k => spec_chTurns.l1 k s (o.map ofBytes) (i : Int) (ofBytes (bytesList (turnAt s i))) ((0 : Nat) : Int)) (fun k => ?_) ?_
    · simp only [spec_chTurns.l0]
      rw [Int.toNat_natCast, if_pos (by omega), if_pos (by omega), if_pos (by omega), if_pos (by omega), of_bytes]
      rfl
    · refine turns_in s (by omega) o (by omega) _ i (by omega) _ o.length 0 (by omega) ?_
      rw [List.take_zero, List.drop_zero, List.nil_append]
      have h3 := insT_length (bytesList (turnAt s i)) o
      exact ih (i + 1) _ (by omega) (by omega)
theorem spec_turns_ev (s : ByteArray) (hn : s.size ≤ 100000) : Ev (fun k => spec_chTurns.f k s) ((turnsOf s).map ofBytes) := by
  unfold spec_chTurns.f
  have h := spec_turns_upto s hn s.size 0 [] (by omega) (by simp)
  rw [List.drop_zero] at h
  exact h
theorem turnsOf_length (s : ByteArray) : (turnsOf s).length ≤ s.size := by
  have h := foldl_length (allT s) []
  have hall : (allT s).length = s.size := by simp [allT]
  unfold turnsOf
  simp only [List.length_nil] at h
  omega
theorem turnsOf_some (s : ByteArray) (h : 1 ≤ s.size) : 1 ≤ (turnsOf s).length := by
  have h3 := (foldl_insT (allT s) [] List.Pairwise.nil).2 (bytesList (turnAt s 0))
  have hm : bytesList (turnAt s 0) ∈ turnsOf s := by
    unfold turnsOf
    rw [h3]
    refine .inl ?_
    unfold allT
    rw [List.mem_map]
    exact ⟨0, List.mem_range.2 (by omega), rfl⟩
  rcases Nat.eq_zero_or_pos (turnsOf s).length with h0 | h0
  · rw [List.eq_nil_of_length_eq_zero h0] at hm
    simp at hm
  · exact h0
end Go.Proofs.Ytkphmbcoefkilaa.P

-- UturnsLaw
namespace Go.Proofs.Ytkphmbcoefkilaa.P
set_option linter.unusedVariables false
set_option linter.unusedSimpArgs false
open Go.RowKit Go.Proofs.YtkphmbcoefkilaaW.PrintWords Go.Proofs.YtkphmbcoefkilaaW.PrintLast Go.Proofs.YtkphmbcoefkilaaW.PrintMore
def rot {α : Type} (l : List α) (k : Nat) : List α := l.drop k ++ l.take k
theorem rot_length {α : Type} (l : List α) (k : Nat) : (rot l k).length = l.length := by
  unfold rot
  rw [List.length_append, List.length_drop, List.length_take]
  omega
theorem rot_rot {α : Type} (l : List α) (i j : Nat) (h : i + j ≤ l.length) : rot (rot l i) j = rot l (i + j) := by
  unfold rot
  have h1 : j ≤ (l.drop i).length := by rw [List.length_drop]; omega
  rw [List.drop_append_of_le_length h1, List.take_append_of_le_length h1, List.drop_drop, List.append_assoc, List.take_add]
theorem rot_all {α : Type} (l : List α) : rot l l.length = l := by
  unfold rot
  simp
theorem least_nat (P : Nat → Prop) (n : Nat) : P n → ∃ d, d ≤ n ∧ P d ∧ ∀ e, e < d → ¬ P e := by
  induction n using Nat.strongRecOn with
  | ind n ih =>
    intro h
    by_cases he : ∃ e, e < n ∧ P e
    · obtain ⟨e, h1, h2⟩ := he
      obtain ⟨d, h3, h4⟩ := ih e h1 h2
      exact ⟨d, by omega, h4⟩
    · exact ⟨n, Nat.le_refl _, h, fun e h1 h2 => he ⟨e, h1, h2⟩⟩
theorem nodup_len {α : Type} [DecidableEq α] : ∀ (G F : List α), G.Nodup → (∀ x ∈ G, x ∈ F) → G.length ≤ F.length
  | [], F, _, _ => by simp
  | x :: G, F, hn, hs => by
    rw [List.nodup_cons] at hn
    have hx := hs x List.mem_cons_self
    have ih := nodup_len G (F.erase x) hn.2 (fun y hy => by
      have hne : y ≠ x := fun e => hn.1 (e ▸ hy)
      exact (List.mem_erase_of_ne hne).2 (hs y (List.mem_cons_of_mem _ hy)))
    have he := List.length_erase_of_mem hx
    have hp := List.length_pos_of_mem hx
    rw [List.length_cons]
    omega
theorem rot_mul {α : Type} (l : List α) (d : Nat) (hd : rot l d = l) (r m : Nat) : m * d + r ≤ l.length → rot l (m * d + r) = rot l r := by
  induction m with
  | zero => intro _; rw [Nat.zero_mul, Nat.zero_add]
  | succ m ih =>
    intro h
    have e : (m + 1) * d + r = d + (m * d + r) := by rw [Nat.add_mul]; omega
    rw [e] at h ⊢
    rw [← rot_rot l d (m * d + r) h, hd]
    exact ih (by omega)
theorem turn_count {α : Type} [DecidableEq α] (l : List α) (h : 0 < l.length) (T : List (List α)) (hn : T.Nodup) (hm : ∀ x, x ∈ T ↔ ∃ i, i < l.length ∧ x = rot l i) :
    l.length % T.length = 0 ∧ ((∀ k, 0 < k → k < l.length → rot l k ≠ l) → T.length = l.length) := by
  obtain ⟨d, hdn, ⟨hd0, hd⟩, hmin⟩ := least_nat (fun d => 0 < d ∧ rot l d = l) l.length ⟨h, rot_all l⟩
  have hmod : ∀ p, p ≤ l.length → rot l p = rot l (p % d) := by
    intro p hp
    have e := Nat.div_add_mod p d
    have e2 : p / d * d + p % d = p := by rw [Nat.mul_comm]; exact e
    have h1 := rot_mul l d hd (p % d) (p / d) (by omega)
    rw [e2] at h1
    exact h1
  have hdiv : ∀ p, p ≤ l.length → rot l p = l → p % d = 0 := by
    intro p hp hr
    rw [hmod p hp] at hr
    have hlt := Nat.mod_lt p hd0
    by_cases h0 : p % d = 0
    · exact h0
    · exact absurd ⟨by omega, hr⟩ (hmin (p % d) hlt)
  have hdl := hdiv l.length (Nat.le_refl _) (rot_all l)
  have hdist : ∀ i j, i < j → j < d → rot l i ≠ rot l j := by
    intro i j hij hjd e
    have e1 := rot_rot l i (l.length - j) (by omega)
    have e2 := rot_rot l j (l.length - j) (by omega)
    rw [show j + (l.length - j) = l.length by omega, rot_all] at e2
    rw [e, e2] at e1
    have h1 := hdiv (i + (l.length - j)) (by omega) e1.symm
    have q1 := Nat.div_add_mod l.length d
    have q2 := Nat.div_add_mod (i + (l.length - j)) d
    rw [hdl] at q1
    rw [h1] at q2
    have q3 : d * (l.length / d) - d * ((i + (l.length - j)) / d) = j - i := by omega
    rw [← Nat.mul_sub] at q3
    have q4 : d ≤ j - i ∨ j - i = 0 := by
      cases hx : l.length / d - (i + (l.length - j)) / d with
      | zero => rw [hx] at q3; omega
      | succ x => rw [hx, Nat.mul_succ] at q3; omega
    omega
  have hR : ((List.range d).map (rot l)).Nodup := by
    unfold List.Nodup
    rw [List.pairwise_map]
    refine List.Pairwise.imp_of_mem ?_ List.pairwise_lt_range
    intro i j hi hj hij
    exact hdist i j hij (List.mem_range.1 hj)
  have hT : T.length = d := by
    have h1 := nodup_len T ((List.range d).map (rot l)) hn (fun x hx => by
      obtain ⟨i, hi, rfl⟩ := (hm x).1 hx
      rw [List.mem_map]
      exact ⟨i % d, List.mem_range.2 (Nat.mod_lt i hd0), (hmod i (by omega)).symm⟩)
    have h2 := nodup_len ((List.range d).map (rot l)) T hR (fun x hx => by
      rw [List.mem_map] at hx
      obtain ⟨i, hi, rfl⟩ := hx
      exact (hm _).2 ⟨i, by have := List.mem_range.1 hi; omega, rfl⟩)
    rw [List.length_map, List.length_range] at h1 h2
    omega
  refine ⟨by rw [hT]; exact hdl, fun hno => ?_⟩
  rw [hT]
  by_cases hlt : d < l.length
  · exact absurd hd (hno d hd0 hlt)
  · omega
theorem turn_bytes (s : ByteArray) (i : Nat) : bytesList (turnAt s i) = rot (bytesList s) i := by
  unfold turnAt bytesList rot
  rw [ByteArray.data_append, Array.toList_append, ByteArray.data_extract, ByteArray.data_extract, Array.toList_extract, Array.toList_extract, List.extract_eq_drop_take', List.extract_eq_drop_take', List.take_of_length_le (by rw [data_length]; omega), List.drop_zero]
theorem turnsOf_facts (s : ByteArray) : (turnsOf s).Pairwise (· < ·) ∧ ∀ x, x ∈ turnsOf s ↔ ∃ i, i < s.size ∧ x = rot (bytesList s) i := by
  have h := foldl_insT (allT s) [] List.Pairwise.nil
  refine ⟨h.1, fun x => ?_⟩
  have h2 := h.2 x
  rw [show x ∈ turnsOf s ↔ x ∈ allT s ∨ x ∈ [] from h2]
  simp only [List.not_mem_nil, or_false, allT, List.mem_map, List.mem_range]
  constructor
  · rintro ⟨i, hi, rfl⟩
    exact ⟨i, hi, turn_bytes s i⟩
  · rintro ⟨i, hi, rfl⟩
    exact ⟨i, hi, turn_bytes s i⟩
theorem bl_length (s : ByteArray) : (bytesList s).length = s.size := data_length s
theorem turnsOf_nodup (s : ByteArray) : (turnsOf s).Nodup := (turnsOf_facts s).1.imp (fun {a b} h e => by subst e; exact List.lt_irrefl a h)
theorem turnsOf_count (s : ByteArray) (h : 1 ≤ s.size) : s.size % (turnsOf s).length = 0 ∧ ((∀ k, 0 < k → k < s.size → rot (bytesList s) k ≠ bytesList s) → (turnsOf s).length = s.size) := by
  have h2 := turn_count (bytesList s) (by rw [bl_length]; omega) (turnsOf s) (turnsOf_nodup s) (by rw [bl_length]; exact (turnsOf_facts s).2)
  rw [bl_length] at h2
  exact h2
theorem turnsOf_size (s : ByteArray) : ∀ x ∈ turnsOf s, x.length = s.size := by
  intro x hx
  obtain ⟨i, hi, rfl⟩ := ((turnsOf_facts s).2 x).1 hx
  rw [rot_length, bl_length]
end Go.Proofs.Ytkphmbcoefkilaa.P

-- UchCentre
namespace Go.Proofs.Ytkphmbcoefkilaa.P
set_option linter.unusedVariables false
set_option linter.unusedSimpArgs false
open Go.RowKit Go.Proofs.YtkphmbcoefkilaaW.PrintWords Go.Proofs.YtkphmbcoefkilaaW.PrintLast Go.Proofs.YtkphmbcoefkilaaW.PrintMore
end Go.Proofs.Ytkphmbcoefkilaa.P

-- UchBalanced
namespace Go.Proofs.Ytkphmbcoefkilaa.P
set_option linter.unusedVariables false
set_option linter.unusedSimpArgs false
open Go.RowKit Go.Proofs.YtkphmbcoefkilaaW.PrintWords Go.Proofs.YtkphmbcoefkilaaW.PrintLast Go.Proofs.YtkphmbcoefkilaaW.PrintMore

/-- How many b there are in the part of so many letters that begins there. -/
def partB (s : ByteArray) (i n : Nat) : Int := (numB (bytesOf (s.extract i (i + n))) : Int)
/-- The least (not above m) and the greatest of the parts' numbers, from a place on. -/
def leastB (s : ByteArray) (n : Nat) : Nat → Nat → Int → Int
  | _, 0, m => m
  | i, d + 1, m => leastB s n (i + 1) d (if partB s i n < m then partB s i n else m)
def mostB (s : ByteArray) (n : Nat) : Nat → Nat → Int → Int
  | _, 0, m => m
  | i, d + 1, m => mostB s n (i + 1) d (if m < partB s i n then partB s i n else m)
theorem numB_le (l : List Int) : numB l ≤ l.length := List.count_le_length
theorem partB_bd (s : ByteArray) (i n : Nat) : 0 ≤ partB s i n ∧ partB s i n ≤ n := by
  unfold partB
  have := numB_le (bytesOf (s.extract i (i + n)))
  rw [bytesOf_length, ByteArray.size_extract] at this
  omega
theorem leastB_le (s : ByteArray) (n : Nat) (d : Nat) : ∀ (i : Nat) (m : Int), leastB s n i d m ≤ m ∧ (0 ≤ m → 0 ≤ leastB s n i d m) := by
  induction d with
  | zero => intro i m; exact ⟨Int.le_refl _, fun h => h⟩
  | succ d ih =>
    intro i m
    have h1 := ih (i + 1) (if partB s i n < m then partB s i n else m)
    have h2 := partB_bd s i n
    rw [leastB]
    split at h1 <;> rename_i hc
    · rw [if_pos hc]
      exact ⟨by omega, fun _ => h1.2 h2.1⟩
    · rw [if_neg hc]
      exact h1
/-- From two first bounds that no part is above the least is the same, if there is a part. -/
theorem leastB_same (s : ByteArray) (n d i : Nat) (m m' : Int) (h1 : (n : Int) ≤ m) (h2 : (n : Int) ≤ m') (hd : 1 ≤ d) : leastB s n i d m = leastB s n i d m' := by
  cases d with
  | zero => omega
  | succ d =>
    have h3 := partB_bd s i n
    rw [leastB, leastB]
    congr 1
    by_cases a : partB s i n < m <;> by_cases b : partB s i n < m' <;> simp [a, b] <;> omega
def balancedAt (s : ByteArray) (n : Nat) : Bool := decide (¬ mostB s n 0 (s.size + 1 - n) 0 > leastB s n 0 (s.size + 1 - n) n + 1)
def balancedFrom (s : ByteArray) : Nat → Nat → Bool
  | _, 0 => true
  | n, d + 1 => balancedAt s n && balancedFrom s (n + 1) d
theorem impl_inner (s : ByteArray) (h40 : s.size ≤ 40) (n : Nat) (hn : n ≤ s.size) (r : Bool × Bool) (d : Nat) : ∀ (i : Nat) (lo hi : Int), i + d = s.size + 1 - n →
    Ev (fun k => if mostB s n i d hi > wrap64 (leastB s n i d lo + 1) then some (false, true) else impl_IsBalanced.l0 k s ((n + 1 : Nat) : Int)) r → Ev (fun k => impl_IsBalanced.l1 k s (n : Int) lo hi (i : Int)) r := by
  induction d with
  | zero =>
    intro i lo hi hid hE
    refine Ev.step (fun k => ?_) hE
    simp only [impl_IsBalanced.l1]
    rw [w64 (x := (i : Int) + n) (by omega) (by omega), if_neg (by omega), w64_succ (n := 100) (i := n) (by omega) (by omega)]
    rfl
  | succ d ih =>
    intro i lo hi hid hE
    rw [mostB, leastB] at hE
    refine Ev.step (fun k => ?_) (ih (i + 1) _ _ (by omega) hE)
    simp only [impl_IsBalanced.l1]
    have e1 : ((i : Int) + (n : Int)).toNat = i + n := by omega
    rw [w64 (x := (i : Int) + n) (by omega) (by omega), if_pos (by omega), if_pos (by omega), if_pos (by omega), Int.toNat_natCast, e1, count_b, w64_succ (n := 100) (i := i) (by omega) (by omega)]
    rfl
theorem spec_inner (s : ByteArray) (h40 : s.size ≤ 40) (n : Nat) (hn : n ≤ s.size) (r : Bool × Bool) (d : Nat) : ∀ (i : Nat) (lo hi : Int), i + d = s.size + 1 - n →
    Ev (fun k => if mostB s n i d hi > wrap64 (leastB s n i d lo + 1) then some (false, true) else spec_IsBalanced.l0 k s ((n + 1 : Nat) : Int)) r → Ev (fun k => spec_IsBalanced.l1 k s (n : Int) lo hi (i : Int)) r := by
  induction d with
  | zero =>
    intro i lo hi hid hE
    refine Ev.step (fun k => ?_) hE
    simp only [spec_IsBalanced.l1]
    rw [w64 (x := (i : Int) + n) (by omega) (by omega), if_neg (by omega), w64_succ (n := 100) (i := n) (by omega) (by omega)]
    rfl
  | succ d ih =>
    intro i lo hi hid hE
    rw [mostB, leastB] at hE
    have e1 : ((i : Int) + (n : Int)).toNat = i + n := by omega
    refine Ev.step (f := fun k => (spec_chMany.f k (s.extract i (i + n))).bind fun t118 => (spec_l1Least.f lo t118).bind fun t119 => (spec_l1Most.f hi t118).bind fun t120 => spec_IsBalanced.l1 k s (n : Int) t119 t120 ((i + 1 : Nat) : Int)) (fun k => ?_) ?_
    · simp only [spec_IsBalanced.l1]
      rw [w64 (x := (i : Int) + n) (by omega) (by omega), if_pos (by omega), if_pos (by omega), if_pos (by omega), Int.toNat_natCast, e1, w64_succ (n := 100) (i := i) (by omega) (by omega)]
    · refine Ev.bind (chMany_ev (s.extract i (i + n)) (by rw [ByteArray.size_extract]; omega)) ?_
      have c1 : spec_l1Least.f lo (numB (bytesOf (s.extract i (i + n))) : Int) = some (if partB s i n < lo then partB s i n else lo) := by
        unfold spec_l1Least.f partB
        split <;> split <;> first | rfl | (congr 1; omega)
      have c2 : spec_l1Most.f hi (numB (bytesOf (s.extract i (i + n))) : Int) = some (if hi < partB s i n then partB s i n else hi) := by
        unfold spec_l1Most.f partB
        split <;> split <;> first | rfl | (congr 1; omega)
      exact Ev.bind0 c1 (Ev.bind0 c2 (ih (i + 1) _ _ (by omega) hE))
theorem balanced_end (s : ByteArray) (n : Nat) (hn : n ≤ 40) (lo : Int) (hlo : (n : Int) ≤ lo) (h1 : 1 ≤ s.size + 1 - n) (b : Bool) (g : Nat → Option (Bool × Bool)) (hg : Ev g (b, true)) :
    Ev (fun k => if mostB s n 0 (s.size + 1 - n) 0 > wrap64 (leastB s n 0 (s.size + 1 - n) lo + 1) then some (false, true) else g k) (balancedAt s n && b, true) := by
  rw [leastB_same s n (s.size + 1 - n) 0 lo n hlo (Int.le_refl _) h1]
  have hl := leastB_le s n (s.size + 1 - n) 0 (n : Int)
  have hl2 := hl.2 (by omega)
  rw [w64 (by omega) (by omega)]
  unfold balancedAt
  by_cases h : mostB s n 0 (s.size + 1 - n) 0 > leastB s n 0 (s.size + 1 - n) (n : Int) + 1
  · simp only [h, if_true, not_true_eq_false, decide_false, Bool.false_and]
    exact Ev.is rfl
  · simp only [h, if_false, not_false_eq_true, decide_true, Bool.true_and]
    exact hg
theorem balanced_both (s : ByteArray) (h40 : s.size ≤ 40) (d : Nat) : ∀ n : Nat, n + d = s.size → Ev (fun k => impl_IsBalanced.l0 k s (n : Int)) (balancedFrom s n d, true) ∧ Ev (fun k => spec_IsBalanced.l0 k s (n : Int)) (balancedFrom s n d, true) := by
  induction d with
  | zero =>
    intro n hn
    exact ⟨Ev.step (f := fun _ => some (true, true)) (fun k => by simp only [impl_IsBalanced.l0]; rw [if_neg (by omega)]) (Ev.is rfl), Ev.step (f := fun _ => some (true, true)) (fun k => by simp only [spec_IsBalanced.l0]; rw [if_neg (by omega)]) (Ev.is rfl)⟩
  | succ d ih =>
    intro n hn
    obtain ⟨i1, i2⟩ := ih (n + 1) (by omega)
    rw [balancedFrom]
    constructor
    · refine Ev.step (f := fun k => impl_IsBalanced.l1 k s (n : Int) (s.size : Int) 0 ((0 : Nat) : Int)) (fun k => ?_) (impl_inner s h40 n (by omega) _ (s.size + 1 - n) 0 (s.size : Int) 0 (by omega) (balanced_end s n (by omega) _ (by omega) (by omega) _ _ i1))
      simp only [impl_IsBalanced.l0]
      rw [if_pos (by omega)]
      rfl
    · refine Ev.step (f := fun k => spec_IsBalanced.l1 k s (n : Int) (n : Int) 0 ((0 : Nat) : Int)) (fun k => ?_) (spec_inner s h40 n (by omega) _ (s.size + 1 - n) 0 (n : Int) 0 (by omega) (balanced_end s n (by omega) _ (by omega) (by omega) _ _ i2))
      simp only [spec_IsBalanced.l0]
      rw [if_pos (by omega)]
      rfl
def isBal (s : ByteArray) : Bool × Bool := if isLet s then (balancedFrom s 1 (s.size - 1), true) else (false, false)
theorem isBalanced_both (s : ByteArray) : Ev (fun k => spec_IsBalanced.f k s) (isBal s) ∧ Ev (fun k => impl_IsBalanced.f k s) (isBal s) := by
  unfold spec_IsBalanced.f impl_IsBalanced.f isBal
  rw [impl_IsLetters_is]
  have hc := chLetters_ev s
  cases h : isLet s with
  | false =>
    rw [h] at hc
    constructor
    · refine Ev.bind hc ?_
      simp only [Bool.false_eq_true, if_false]
      exact Ev.is rfl
    · simp only [Option.bind_some, Bool.false_eq_true, if_false]
      exact Ev.is rfl
  | true =>
    rw [h] at hc
    obtain ⟨h1, h40, hl⟩ := isLet_iff.1 h
    obtain ⟨b1, b2⟩ := balanced_both s h40 (s.size - 1) 1 (by omega)
    constructor
    · refine Ev.bind hc ?_
      simp only [if_true]
      exact b2
    · simp only [Option.bind_some, if_true]
      exact b1
end Go.Proofs.Ytkphmbcoefkilaa.P

-- UMirrorWord
namespace Go.Proofs.Ytkphmbcoefkilaa.P
set_option linter.unusedVariables false
set_option linter.unusedSimpArgs false
open Go.RowKit Go.Proofs.YtkphmbcoefkilaaW.PrintWords Go.Proofs.YtkphmbcoefkilaaW.PrintLast Go.Proofs.YtkphmbcoefkilaaW.PrintMore

theorem mirror_append (xs ys : List Int) : strOfNums xs ++ strOfNums ys = strOfNums (xs ++ ys) := by
  unfold strOfNums
  apply ByteArray.ext
  simp
theorem mirror_size (xs : List Int) : (strOfNums xs).size = xs.length := by
  unfold strOfNums
  simp [ByteArray.size]
theorem mirror_from (s : ByteArray) (hs : s.size ≤ 40) (hl : (bytesOf s).all (oneOf 97 98) = true) (i : Nat) : ∀ xs : List Int, i ≤ s.size → xs.length + i = s.size →
    Ev (fun k => spec_MirrorWord.l0 k s (strOfNums xs) ((i : Int) - 1)) (strOfNums (xs ++ ((bytesOf s).take i).reverse.map flip195), true) := by
  induction i with
  | zero =>
    intro xs hi hx
    refine Ev.step (f := fun _ => some (strOfNums xs, true)) (fun k => ?_) (Ev.is (by simp))
    simp only [spec_MirrorWord.l0]
    rw [if_neg (by omega)]
  | succ i ih =>
    intro xs hi hx
    have hb : i < (bytesOf s).length := by rw [bytesOf_length]; omega
    have hin : oneOf 97 98 (bt s (i : Int)) = true := by
      rw [← rd_bytesOf, rd_lt _ i hb]
      exact List.all_eq_true.1 hl _ (List.getElem_mem _)
    have e1 : ((i + 1 : Nat) : Int) - 1 = (i : Int) := by omega
    have w1 : wrap64 ((i : Int) - 1) = (i : Int) - 1 := w64 (by omega) (by omega)
    have hsz : (strOfNums xs).size + 1 ≤ 9223372036854775807 := by rw [mirror_size]; omega
    have a97 : strOfNums xs ++ (⟨#[97]⟩ : ByteArray) = strOfNums (xs ++ [97]) := mirror_append xs [97]
    have a98 : strOfNums xs ++ (⟨#[98]⟩ : ByteArray) = strOfNums (xs ++ [98]) := mirror_append xs [98]
    have ht : ((bytesOf s).take (i + 1)).reverse.map flip195 = flip195 (bt s (i : Int)) :: ((bytesOf s).take i).reverse.map flip195 := by
      rw [List.take_succ_eq_append_getElem hb, List.reverse_append, ← rd_lt _ i hb, rd_bytesOf]
      rfl
    rw [ht, e1]
    have hcs : bt s (i : Int) = 97 ∨ bt s (i : Int) = 98 := by
      simp [oneOf] at hin
      exact hin
    rcases hcs with h | h
    · have e : xs ++ flip195 (bt s (i : Int)) :: ((bytesOf s).take i).reverse.map flip195 = (xs ++ [98]) ++ ((bytesOf s).take i).reverse.map flip195 := by rw [h]; simp [flip195]
      rw [e]
      refine Ev.step (f := fun k => spec_MirrorWord.l0 k s (strOfNums (xs ++ [98])) ((i : Int) - 1)) (fun k => ?_) (ih _ (by omega) (by simp; omega))
      simp only [spec_MirrorWord.l0]
      simp only [h, w1, hsz, a97, a98]
      simp
      omega
    · have e : xs ++ flip195 (bt s (i : Int)) :: ((bytesOf s).take i).reverse.map flip195 = (xs ++ [97]) ++ ((bytesOf s).take i).reverse.map flip195 := by rw [h]; simp [flip195]
      rw [e]
      refine Ev.step (f := fun k => spec_MirrorWord.l0 k s (strOfNums (xs ++ [97])) ((i : Int) - 1)) (fun k => ?_) (ih _ (by omega) (by simp; omega))
      simp only [spec_MirrorWord.l0]
      simp only [h, w1, hsz, a97, a98]
      simp
      omega
def mirrorAns (s : ByteArray) : ByteArray × Bool := if isLet s = true then (mirrorOf s, true) else ((⟨#[]⟩ : ByteArray), false)
theorem MirrorWord_both (s : ByteArray) (hn : s.size ≤ 4611686018427387904) : Ev (fun k => spec_MirrorWord.f k s) (mirrorAns s) ∧ impl_MirrorWord.f s = some (mirrorAns s) := by
  unfold spec_MirrorWord.f impl_MirrorWord.f mirrorAns
  constructor
  · refine Ev.bind (chLetters_ev s) ?_
    cases h : isLet s with
    | false =>
      simp only [Bool.false_eq_true, if_false]
      exact Ev.is rfl
    | true =>
      simp only [if_true]
      have h2 := h
      unfold isLet at h2
      simp only [Bool.and_eq_true, decide_eq_true_eq] at h2
      have hw : wrap64 ((s.size : Int) - 1) = (s.size : Int) - 1 := w64 (by omega) (by omega)
      have := mirror_from s h2.2.1 h2.2.2 s.size [] (Nat.le_refl _) (by simp)
      rw [List.nil_append, List.take_of_length_le (by rw [bytesOf_length]; exact Nat.le_refl _)] at this
      rw [hw]
      exact this
  · rw [impl_IsLetters_is]
    cases h : isLet s <;> rfl
end Go.Proofs.Ytkphmbcoefkilaa.P

-- UchTell
namespace Go.Proofs.Ytkphmbcoefkilaa.P
set_option linter.unusedVariables false
set_option linter.unusedSimpArgs false
open Go.RowKit Go.Proofs.YtkphmbcoefkilaaW.PrintWords Go.Proofs.YtkphmbcoefkilaaW.PrintLast Go.Proofs.YtkphmbcoefkilaaW.PrintMore
def countsOf (s : ByteArray) : Int × Int × Bool := if isLet s = true then ((numA (bytesOf s) : Int), (numB (bytesOf s) : Int), true) else (0, 0, false)
theorem CountsOf_is (s : ByteArray) : impl_CountsOf.f s = some (countsOf s) := by
  unfold impl_CountsOf.f countsOf
  rw [impl_IsLetters_is]
  cases hs : isLet s with
  | false => simp only [Option.bind_some, Bool.false_eq_true, if_false]
  | true => simp only [Option.bind_some, if_true, counts_is]
def turnsTold (s : ByteArray) : List ByteArray × Bool := if isLet s then ((turnsOf s).map ofBytes, true) else ([], false)
theorem TurnsOf_both (s : ByteArray) : Ev (fun k => spec_TurnsOf.f k s) (turnsTold s) ∧ Ev (fun k => impl_TurnsOf.f k s) (turnsTold s) := by
  unfold spec_TurnsOf.f impl_TurnsOf.f turnsTold
  refine ⟨Ev.bind (chLetters_ev s) ?_, Ev.bind0 (impl_IsLetters_is s) ?_⟩
  · cases hs : isLet s with
    | false =>
      simp only [Bool.false_eq_true, if_false]
      exact Ev.is rfl
    | true =>
      simp only [if_true]
      obtain ⟨h1, h40, hl⟩ := isLet_iff.1 hs
      exact Ev.bind (spec_turns_ev s (by omega)) (Ev.is rfl)
  · cases hs : isLet s with
    | false =>
      simp only [Bool.false_eq_true, if_false]
      exact Ev.is rfl
    | true =>
      simp only [if_true]
      obtain ⟨h1, h40, hl⟩ := isLet_iff.1 hs
      refine Ev.bind (impl_turns_ev s (by omega)) ?_
      have hl := turnsOf_length s
      unfold slices_Clone_string_string.f
      rw [if_pos (by rw [List.length_map]; omega)]
      exact Ev.is rfl
/- numbers of a word -/
theorem mir_bytes {s : ByteArray} (hl : (bytesOf s).all (oneOf 97 98) = true) : bytesOf (mirrorOf s) = mirL (bytesOf s) ∧ (mirL (bytesOf s)).all (oneOf 97 98) = true := by
  have hx : ∀ x ∈ bytesOf s, x = 97 ∨ x = 98 := fun x h => by
    have := List.all_eq_true.1 hl x h
    simpa [oneOf] using this
  have e : (bytesOf s).reverse.map flip195 = mirL (bytesOf s) := by
    unfold mirL
    rw [← List.map_reverse]
    apply List.map_congr_left
    intro x h
    rcases hx x (List.mem_reverse.1 h) with rfl | rfl <;> rfl
  have ha : (mirL (bytesOf s)).all (oneOf 97 98) = true := by
    rw [List.all_eq_true]
    intro y hy
    unfold mirL at hy
    rw [List.mem_reverse, List.mem_map] at hy
    obtain ⟨x, h, rfl⟩ := hy
    rcases hx x h with rfl | rfl <;> rfl
  refine ⟨?_, ha⟩
  unfold mirrorOf
  rw [e]
  exact bytes_chLets _ ha
theorem mirL_len (l : List Int) : (mirL l).length = l.length := by unfold mirL; rw [List.length_reverse, List.length_map]
theorem mir_let {s : ByteArray} (hs : isLet s = true) : isLet (mirrorOf s) = true := by
  obtain ⟨h1, h40, hl⟩ := isLet_iff.1 hs
  obtain ⟨e, ha⟩ := mir_bytes hl
  have hz : (mirrorOf s).size = s.size := by rw [← bytesOf_length, e, mirL_len, bytesOf_length]
  exact isLet_iff.2 ⟨by omega, by omega, by rw [e]; exact ha⟩
theorem mir_mir {s : ByteArray} (hs : isLet s = true) : mirrorOf (mirrorOf s) = s := by
  obtain ⟨h1, h40, hl⟩ := isLet_iff.1 hs
  obtain ⟨e, ha⟩ := mir_bytes hl
  apply bytesOf_inj
  rw [(mir_bytes (s := mirrorOf s) (by rw [e]; exact ha)).1, e]
  unfold mirL
  rw [← List.map_reverse, List.reverse_reverse, List.map_map]
  have : (fun c : Int => 195 - c) ∘ (fun c : Int => 195 - c) = id := by
    funext x
    simp only [Function.comp, id]
    omega
  rw [this, List.map_id]
theorem mir_counts {s : ByteArray} (hs : isLet s = true) : numA (bytesOf (mirrorOf s)) = numB (bytesOf s) ∧ numB (bytesOf (mirrorOf s)) = numA (bytesOf s) := by
  obtain ⟨h1, h40, hl⟩ := isLet_iff.1 hs
  rw [(mir_bytes hl).1]
  have hx : ∀ x ∈ bytesOf s, x = 97 ∨ x = 98 := fun x h => by
    have := List.all_eq_true.1 hl x h
    simpa [oneOf] using this
  generalize bytesOf s = l at hx
  unfold mirL numA numB
  rw [List.count_reverse, List.count_reverse]
  induction l with
  | nil => exact ⟨rfl, rfl⟩
  | cons x l ih =>
    have h2 := ih (fun y hy => hx y (List.mem_cons_of_mem _ hy))
    rcases hx x List.mem_cons_self with rfl | rfl
    · simp only [List.map_cons]
      rw [show (195 : Int) - 97 = 98 by rfl]
      simp only [List.count_cons_self, List.count_cons_of_ne (show (98 : Int) ≠ 97 by decide), List.count_cons_of_ne (show (97 : Int) ≠ 98 by decide)]
      omega
    · simp only [List.map_cons]
      rw [show (195 : Int) - 98 = 97 by rfl]
      simp only [List.count_cons_self, List.count_cons_of_ne (show (98 : Int) ≠ 97 by decide), List.count_cons_of_ne (show (97 : Int) ≠ 98 by decide)]
      omega
end Go.Proofs.Ytkphmbcoefkilaa.P

-- UchNeighbour
namespace Go.Proofs.Ytkphmbcoefkilaa.P
set_option linter.unusedVariables false
set_option linter.unusedSimpArgs false
open Go.RowKit Go.Proofs.YtkphmbcoefkilaaW.PrintWords Go.Proofs.YtkphmbcoefkilaaW.PrintLast Go.Proofs.YtkphmbcoefkilaaW.PrintMore
def neighboursOf (s : ByteArray) : ByteArray × ByteArray × Bool :=
  if (factorsOf s).2.2 = true then (if (s.size : Int) + mx ((factorsOf s).1.size : Int) ((factorsOf s).2.1.size : Int) > 40 then ((⟨#[]⟩ : ByteArray), (⟨#[]⟩ : ByteArray), false) else ((factorsOf s).1 ++ s, s ++ (factorsOf s).2.1, true)) else ((⟨#[]⟩ : ByteArray), (⟨#[]⟩ : ByteArray), false)
theorem most_mx (a b : Int) : spec_l1Most.f a b = some (mx a b) := by
  unfold spec_l1Most.f mx
  split <;> split <;> first | rfl | (congr 1; omega)
theorem factors_size (s : ByteArray) (h : (factorsOf s).2.2 = true) : s.size ≤ 40 ∧ (factorsOf s).1.size ≤ 40 ∧ (factorsOf s).2.1.size ≤ 40 := by
  unfold factorsOf at h ⊢
  cases ht : isTwo s with
  | false => rw [ht] at h; simp [cutAt] at h
  | true =>
    obtain ⟨h1, h2, h3⟩ := isTwo_iff.1 ht
    obtain ⟨_, h40, hl⟩ := isLet_iff.1 h1
    obtain ⟨k, hk, _, _⟩ := two_split ht
    simp only [if_true, hk, cutAt, ByteArray.size_extract]
    omega
theorem neighbours_both (s : ByteArray) : Ev (fun k => spec_NeighbourWords.f k s) (neighboursOf s) ∧ Ev (fun k => impl_NeighbourWords.f k s) (neighboursOf s) := by
  have e1 := spec_FactorsOf_ev s
  have e2 := impl_FactorsOf_ev s
  have hs := factors_size s
  unfold spec_NeighbourWords.f impl_NeighbourWords.f neighboursOf
  generalize factorsOf s = r at e1 e2 hs
  obtain ⟨u, v, ok⟩ := r
  cases ok with
  | false =>
    refine ⟨Ev.bind e1 ?_, Ev.bind e2 ?_⟩
    · simp only [Bool.false_eq_true, if_false]
      exact Ev.is rfl
    · simp only [Bool.false_eq_true, if_false]
      exact Ev.is rfl
  | true =>
    have hb := hs rfl
    simp only at hb
    have hm : 0 ≤ mx (u.size : Int) (v.size : Int) ∧ mx (u.size : Int) (v.size : Int) ≤ 40 := by unfold mx; split <;> omega
    have w1 : wrap64 ((s.size : Int) + mx (u.size : Int) (v.size : Int)) = (s.size : Int) + mx (u.size : Int) (v.size : Int) := w64 (by omega) (by omega)
    have c1 : u.size + s.size ≤ 9223372036854775807 := by omega
    have c2 : s.size + v.size ≤ 9223372036854775807 := by omega
    refine ⟨Ev.bind e1 ?_, Ev.bind e2 ?_⟩
    · simp only [if_true, most_mx, Option.bind_some, w1, c1, c2]
      by_cases h : (s.size : Int) + mx (u.size : Int) (v.size : Int) > 40
      · simp only [h, if_true]
        exact Ev.is rfl
      · simp only [h, if_false]
        exact Ev.is rfl
    · simp only [if_true, w1, c1, c2]
      by_cases h : (s.size : Int) + mx (u.size : Int) (v.size : Int) > 40
      · simp only [h, if_true]
        exact Ev.is rfl
      · simp only [h, if_false]
        exact Ev.is rfl
end Go.Proofs.Ytkphmbcoefkilaa.P

-- UchNbr
namespace Go.Proofs.Ytkphmbcoefkilaa.P
set_option linter.unusedVariables false
set_option linter.unusedSimpArgs false
open Go.RowKit Go.Proofs.YtkphmbcoefkilaaW.PrintWords Go.Proofs.YtkphmbcoefkilaaW.PrintLast Go.Proofs.YtkphmbcoefkilaaW.PrintMore
theorem all_append {l m : List Int} {p : Int → Bool} (h1 : l.all p = true) (h2 : m.all p = true) : (l ++ m).all p = true := by
  rw [List.all_append, h1, h2]
  rfl
theorem factors_cat {x y : ByteArray} (h1 : 1 ≤ x.size) (h2 : 1 ≤ y.size) (h40 : x.size + y.size ≤ 40) (lx : (bytesOf x).all (oneOf 97 98) = true) (ly : (bytesOf y).all (oneOf 97 98) = true) (wx : isW (bytesOf x) = true) (wy : isW (bytesOf y) = true) (wxy : isW (bytesOf x ++ bytesOf y) = true) : factorsOf (x ++ y) = (x, y, true) := by
  have hb := bytesOf_append x y
  have hz : (x ++ y).size = x.size + y.size := ByteArray.size_append
  have ht : isTwo (x ++ y) = true := isTwo_iff.2 ⟨isLet_iff.2 ⟨by omega, by omega, by rw [hb]; exact all_append lx ly⟩, by omega, by rw [hb]; exact wxy⟩
  obtain ⟨k, hk, k1, k2⟩ := two_split ht
  have hs := (sp_some _ _ hk).2.2.1
  have lenx : (bytesOf x).length = x.size := bytesOf_length x
  have tx : (bytesOf x ++ bytesOf y).take x.size = bytesOf x := by rw [← lenx]; exact List.take_left
  have ty : (bytesOf x ++ bytesOf y).drop x.size = bytesOf y := by rw [← lenx]; exact List.drop_left
  have hs2 : isSplit (bytesOf (x ++ y)) x.size = true := by
    unfold isSplit
    rw [hb, tx, ty, wx, wy]
    rfl
  have hl : (bytesOf (x ++ y)).length = x.size + y.size := by rw [bytesOf_length, hz]
  have e : k = x.size := split_only (by rw [hb]; exact wxy) (by omega) k1 (by omega) h1 (by omega) hs hs2
  subst e
  unfold factorsOf
  rw [if_pos ht, hk]
  show ((x ++ y).extract 0 x.size, (x ++ y).extract x.size (x ++ y).size, true) = (x, y, true)
  have e1 : (x ++ y).extract 0 x.size = x := by
    apply bytesOf_inj
    rw [bytes_head, hb, tx]
  have e2 : (x ++ y).extract x.size (x ++ y).size = y := by
    apply bytesOf_inj
    rw [bytes_tail, hb, ty]
  rw [e1, e2]
theorem neighbours_factors {s : ByteArray} (h : (neighboursOf s).2.2 = true) : (factorsOf s).2.2 = true ∧ factorsOf (neighboursOf s).1 = ((factorsOf s).1, s, true) ∧ factorsOf (neighboursOf s).2.1 = (s, (factorsOf s).2.1, true) := by
  unfold neighboursOf at h ⊢
  cases hf : (factorsOf s).2.2 with
  | false => rw [hf] at h; simp at h
  | true =>
    rw [hf] at h
    simp only [if_true] at h ⊢
    by_cases hm : (s.size : Int) + mx ((factorsOf s).1.size : Int) ((factorsOf s).2.1.size : Int) > 40
    · rw [if_pos hm] at h
      simp at h
    · rw [if_neg hm]
      have ht : isTwo s = true := by
        unfold factorsOf at hf
        cases hx : isTwo s with
        | true => rfl
        | false => rw [hx] at hf; simp [cutAt] at hf
      obtain ⟨hlet, h2, hw⟩ := isTwo_iff.1 ht
      obtain ⟨_, h40, hl⟩ := isLet_iff.1 hlet
      obtain ⟨k, hk, k1, k2⟩ := two_split ht
      have hs := (sp_some _ _ hk).2.2.1
      have hfo : factorsOf s = (s.extract 0 k, s.extract k s.size, true) := by
        unfold factorsOf
        rw [if_pos ht, hk]
        rfl
      rw [hfo] at hm ⊢
      simp only at hm ⊢
      have z1 : (s.extract 0 k).size = k := by rw [ByteArray.size_extract]; omega
      have z2 : (s.extract k s.size).size = s.size - k := by rw [ByteArray.size_extract]; omega
      rw [z1, z2] at hm
      have hmx : s.size + max k (s.size - k) ≤ 40 := by
        unfold mx at hm
        split at hm <;> omega
      obtain ⟨hg, hwd⟩ := isW_parts hw
      have hn := num_both hl
      rw [bytesOf_length] at hn
      have hmod := split_mod (a := numA (bytesOf s)) (b := numB (bytesOf s)) (by omega) hg k1 (by omega) (by rw [hwd]; exact hs)
      have hall := allW_use nbrAll (a := numA (bytesOf s)) (b := numB (bytesOf s)) (by omega) hg
      have h3 := List.all_eq_true.1 hall k (List.mem_range.2 (by omega))
      rw [hmod, hwd, hn, decide_eq_false (by omega)] at h3
      simp only [beq_self_eq_true, Bool.not_true, Bool.false_or, Bool.and_eq_true] at h3
      unfold isSplit at hs
      rw [Bool.and_eq_true] at hs
      refine ⟨trivial, ?_, ?_⟩
      · exact factors_cat (by omega) (by omega) (by omega) (by rw [bytes_head]; exact all_take hl k) hl (by rw [bytes_head]; exact hs.1) hw (by rw [bytes_head]; exact h3.1)
      · exact factors_cat (by omega) (by omega) (by omega) hl (by rw [bytes_tail]; exact all_drop hl k) hw (by rw [bytes_tail]; exact hs.2) (by rw [bytes_tail]; exact h3.2)
end Go.Proofs.Ytkphmbcoefkilaa.P

-- UchUpTo
namespace Go.Proofs.Ytkphmbcoefkilaa.P
set_option linter.unusedVariables false
set_option linter.unusedSimpArgs false
open Go.RowKit Go.Proofs.YtkphmbcoefkilaaW.PrintWords Go.Proofs.YtkphmbcoefkilaaW.PrintLast Go.Proofs.YtkphmbcoefkilaaW.PrintMore
/-- The words with n letters that have b letters b, b from j on, so many. -/
def chRow (n : Nat) : Nat → Nat → List ByteArray
  | _, 0 => []
  | j, d + 1 => (if (Int.gcd ((n : Int) - (j : Int)) (j : Int) : Int) = 1 then [chText ((n : Int) - (j : Int)) (j : Int)] else []) ++ chRow n (j + 1) d
def chAll : Nat → Nat → List ByteArray
  | _, 0 => []
  | i, d + 1 => chRow i 0 (i + 1) ++ chAll (i + 1) d
theorem chRow_length (n d : Nat) : ∀ j, (chRow n j d).length ≤ d := by
  induction d with
  | zero => intro j; simp [chRow]
  | succ d ih =>
    intro j
    rw [chRow, List.length_append]
    have := ih (j + 1)
    split <;> simp <;> omega
theorem chAll_length (d : Nat) : ∀ i, i + d ≤ 13 → (chAll i d).length ≤ 13 * d := by
  induction d with
  | zero => intro i _; simp [chAll]
  | succ d ih =>
    intro i hi
    rw [chAll, List.length_append]
    have h1 := ih (i + 1) (by omega)
    have h2 := chRow_length i (i + 1) 0
    omega
theorem rows_sorted : ∀ n, n < 13 → ((chRow n 0 (n + 1)).map bytesList).Pairwise (· ≤ ·) := by decide +kernel
theorem row_sort (n : Nat) (h : n < 13) : slices_Sort_string_string.f (chRow n 0 (n + 1)) = some (chRow n 0 (n + 1)) := by
  have hl := chRow_length n (n + 1) 0
  unfold slices_Sort_string_string.f sortStrings
  rw [if_pos (by omega), List.mergeSort_of_pairwise ((rows_sorted n h).imp (by intro a b hab; simpa using hab)), List.map_map]
  have hid : ofBytes ∘ bytesList = id := by
    funext x
    exact of_bytes x
  rw [hid, List.map_id]
theorem spec_row (m n : Nat) (hn : 1 ≤ n ∧ n ≤ 12) (r : List ByteArray × Bool) (d : Nat) : ∀ (j : Nat) (o : List ByteArray), j + d = n + 1 → o.length + d ≤ 1000 → Ev (fun k => spec_ChristoffelUpTo.l0 k (m : Int) (o ++ chRow n j d) ((n + 1 : Nat) : Int)) r → Ev (fun k => spec_ChristoffelUpTo.l1 k (m : Int) o (n : Int) (j : Int)) r := by
  induction d with
  | zero =>
    intro j o hj ho hE
    rw [chRow, List.append_nil] at hE
    refine Ev.step (fun k => ?_) hE
    simp only [spec_ChristoffelUpTo.l1]
    rw [if_neg (by omega), w64 (x := (n : Int) + 1) (by omega) (by omega)]
    rfl
  | succ d ih =>
    intro j o hj ho hE
    have w1 : wrap64 ((n : Int) - (j : Int)) = (n : Int) - (j : Int) := w64 (by omega) (by omega)
    have w2 : wrap64 ((j : Int) + 1) = ((j + 1 : Nat) : Int) := by rw [w64 (by omega) (by omega)]; omega
    have hg := foGcd_ev ((n : Int) - (j : Int)) (j : Int) (by omega) (by omega) (by omega) (by omega)
    rw [chRow] at hE
    by_cases h1 : (Int.gcd ((n : Int) - (j : Int)) (j : Int) : Int) = 1
    · rw [if_pos h1, ← List.append_assoc] at hE
      have hc := (chText_both ((n : Int) - (j : Int)) (j : Int) (by omega) (by omega) (by omega)).1
      have hr := ih (j + 1) (o ++ [chText ((n : Int) - (j : Int)) (j : Int)]) (by omega) (by rw [List.length_append, List.length_singleton]; omega) hE
      refine Ev.step (f := fun k => (spec_foGcd.f k ((n : Int) - (j : Int)) (j : Int)).bind fun t => if t = 1 then ((spec_chWord.f k ((n : Int) - (j : Int)) (j : Int)).bind fun t2 => spec_ChristoffelUpTo.l1 k (m : Int) (o ++ [t2]) (n : Int) ((j + 1 : Nat) : Int)) else spec_ChristoffelUpTo.l1 k (m : Int) o (n : Int) ((j + 1 : Nat) : Int)) (fun k => ?_) (Ev.bind hg ?_)
      · simp only [spec_ChristoffelUpTo.l1]
        rw [if_pos (by omega), w1, w2]
        congr 1
        funext t
        have : o.length < 8796093022208 := by omega
        simp only [this, if_true]
      · simp only [h1, if_true]
        exact Ev.bind hc hr
    · rw [if_neg h1, List.nil_append] at hE
      have hr := ih (j + 1) o (by omega) (by omega) hE
      refine Ev.step (f := fun k => (spec_foGcd.f k ((n : Int) - (j : Int)) (j : Int)).bind fun t => if t = 1 then ((spec_chWord.f k ((n : Int) - (j : Int)) (j : Int)).bind fun t2 => spec_ChristoffelUpTo.l1 k (m : Int) (o ++ [t2]) (n : Int) ((j + 1 : Nat) : Int)) else spec_ChristoffelUpTo.l1 k (m : Int) o (n : Int) ((j + 1 : Nat) : Int)) (fun k => ?_) (Ev.bind hg ?_)
      · simp only [spec_ChristoffelUpTo.l1]
        rw [if_pos (by omega), w1, w2]
        congr 1
        funext t
        have : o.length < 8796093022208 := by omega
        simp only [this, if_true]
      · simp only [h1, if_false]
        exact hr
theorem spec_upto (m : Nat) (hm : m ≤ 12) (d : Nat) : ∀ (i : Nat) (o : List ByteArray), 1 ≤ i → i + d = m + 1 → o.length + 13 * d ≤ 200 → Ev (fun k => spec_ChristoffelUpTo.l0 k (m : Int) o (i : Int)) (o ++ chAll i d, true) := by
  induction d with
  | zero =>
    intro i o hi1 hi ho
    rw [chAll, List.append_nil]
    refine Ev.step (f := fun _ => some (o, true)) (fun k => ?_) (Ev.is rfl)
    simp only [spec_ChristoffelUpTo.l0]
    rw [if_neg (by omega)]
  | succ d ih =>
    intro i o hi1 hi ho
    have hl := chRow_length i (i + 1) 0
    have hr := ih (i + 1) (o ++ chRow i 0 (i + 1)) (by omega) (by omega) (by rw [List.length_append]; omega)
    rw [List.append_assoc] at hr
    refine Ev.step (f := fun k => spec_ChristoffelUpTo.l1 k (m : Int) o (i : Int) ((0 : Nat) : Int)) (fun k => ?_) (spec_row m i (by omega) _ (i + 1) 0 o (by omega) (by omega) hr)
    simp only [spec_ChristoffelUpTo.l0]
    rw [if_pos (by omega)]
    rfl
theorem impl_row (m n : Nat) (hn : 1 ≤ n ∧ n ≤ 12) (x : List ByteArray) (hx : x.length ≤ 1000) (r : List ByteArray × Bool) (hE : Ev (fun k => impl_ChristoffelUpTo.l0 k (m : Int) (x ++ chRow n 0 (n + 1)) ((n + 1 : Nat) : Int)) r) (d : Nat) : ∀ (j : Nat) (o : List ByteArray), j + d = n + 1 → o.length + d ≤ 1000 → o ++ chRow n j d = chRow n 0 (n + 1) → Ev (fun k => impl_ChristoffelUpTo.l1 k (m : Int) x (n : Int) o ((n : Int) + 1) (j : Int)) r := by
  have hl := chRow_length n (n + 1) 0
  induction d with
  | zero =>
    intro j o hj ho he
    rw [chRow, List.append_nil] at he
    refine Ev.step (fun k => ?_) hE
    simp only [impl_ChristoffelUpTo.l1]
    rw [if_neg (by omega), he, row_sort n (by omega)]
    simp only [Option.bind_some]
    rw [if_pos (by omega), w64 (x := (n : Int) + 1) (by omega) (by omega)]
    rfl
  | succ d ih =>
    intro j o hj ho he
    have w1 : wrap64 ((n : Int) - (j : Int)) = (n : Int) - (j : Int) := w64 (by omega) (by omega)
    have w2 : wrap64 ((j : Int) + 1) = ((j + 1 : Nat) : Int) := by rw [w64 (by omega) (by omega)]; omega
    have hg := divisor_ev ((n : Int) - (j : Int)) (j : Int) (by omega) (by omega) (by omega) (by omega)
    rw [chRow] at he
    by_cases h1 : (Int.gcd ((n : Int) - (j : Int)) (j : Int) : Int) = 1
    · rw [if_pos h1, ← List.append_assoc] at he
      have hc := (chText_both ((n : Int) - (j : Int)) (j : Int) (by omega) (by omega) (by omega)).2
      have hr := ih (j + 1) (o ++ [chText ((n : Int) - (j : Int)) (j : Int)]) (by omega) (by rw [List.length_append, List.length_singleton]; omega) he
      refine Ev.step (f := fun k => (impl_divisor.f k ((n : Int) - (j : Int)) (j : Int)).bind fun t => if t = 1 then ((impl_christoffel.f k ((n : Int) - (j : Int)) (j : Int)).bind fun t2 => impl_ChristoffelUpTo.l1 k (m : Int) x (n : Int) (o ++ [t2]) ((n : Int) + 1) ((j + 1 : Nat) : Int)) else impl_ChristoffelUpTo.l1 k (m : Int) x (n : Int) o ((n : Int) + 1) ((j + 1 : Nat) : Int)) (fun k => ?_) (Ev.bind hg ?_)
      · simp only [impl_ChristoffelUpTo.l1]
        rw [if_pos (by omega), w1, w2]
        congr 1
        funext t
        have : o.length < 8796093022208 := by omega
        simp only [this, if_true]
      · simp only [h1, if_true]
        exact Ev.bind hc hr
    · rw [if_neg h1, List.nil_append] at he
      have hr := ih (j + 1) o (by omega) (by omega) he
      refine Ev.step (f := fun k => (impl_divisor.f k ((n : Int) - (j : Int)) (j : Int)).bind fun t => if t = 1 then ((impl_christoffel.f k ((n : Int) - (j : Int)) (j : Int)).bind fun t2 => impl_ChristoffelUpTo.l1 k (m : Int) x (n : Int) (o ++ [t2]) ((n : Int) + 1) ((j + 1 : Nat) : Int)) else impl_ChristoffelUpTo.l1 k (m : Int) x (n : Int) o ((n : Int) + 1) ((j + 1 : Nat) : Int)) (fun k => ?_) (Ev.bind hg ?_)
      · simp only [impl_ChristoffelUpTo.l1]
        rw [if_pos (by omega), w1, w2]
        congr 1
        funext t
        have : o.length < 8796093022208 := by omega
        simp only [this, if_true]
      · simp only [h1, if_false]
        exact hr
theorem impl_upto (m : Nat) (hm : m ≤ 12) (d : Nat) : ∀ (i : Nat) (o : List ByteArray), 1 ≤ i → i + d = m + 1 → o.length + 13 * d ≤ 200 → Ev (fun k => impl_ChristoffelUpTo.l0 k (m : Int) o (i : Int)) (o ++ chAll i d, true) := by
  induction d with
  | zero =>
    intro i o hi1 hi ho
    rw [chAll, List.append_nil]
    refine Ev.step (f := fun _ => some (o, true)) (fun k => ?_) (Ev.is rfl)
    simp only [impl_ChristoffelUpTo.l0]
    rw [if_neg (by omega)]
  | succ d ih =>
    intro i o hi1 hi ho
    have hl := chRow_length i (i + 1) 0
    have hr := ih (i + 1) (o ++ chRow i 0 (i + 1)) (by omega) (by omega) (by rw [List.length_append]; omega)
    rw [List.append_assoc] at hr
    refine Ev.step (f := fun k => impl_ChristoffelUpTo.l1 k (m : Int) o (i : Int) [] ((i : Int) + 1) ((0 : Nat) : Int)) (fun k => ?_) (impl_row m i (by omega) o (by omega) _ hr (i + 1) 0 [] (by omega) (by simp; omega) (List.nil_append _))
    simp only [impl_ChristoffelUpTo.l0]
    rw [if_pos (by omega), w64 (x := (i : Int) + 1) (by omega) (by omega)]
    rfl
def chUpTo (n : Int) : List ByteArray × Bool := if 1 ≤ n ∧ n ≤ 12 then (chAll 1 n.toNat, true) else ([], false)
theorem upto_both (n : Int) : Ev (fun k => spec_ChristoffelUpTo.f k n) (chUpTo n) ∧ Ev (fun k => impl_ChristoffelUpTo.f k n) (chUpTo n) := by
  unfold spec_ChristoffelUpTo.f impl_ChristoffelUpTo.f chUpTo
  rw [in_is, within_is]
  by_cases h : 1 ≤ n ∧ n ≤ 12
  · simp only [h, and_self, decide_true, Option.bind_some, if_true]
    obtain ⟨m, rfl⟩ : ∃ m : Nat, n = (m : Int) := ⟨n.toNat, by omega⟩
    rw [Int.toNat_natCast]
    have h1 := spec_upto m (by omega) m 1 [] (by omega) (by omega) (by simp; omega)
    have h2 := impl_upto m (by omega) m 1 [] (by omega) (by omega) (by simp; omega)
    exact ⟨h1, h2⟩
  · have hd : decide (1 ≤ n ∧ n ≤ 12) = false := decide_eq_false h
    rw [hd, if_neg h]
    simp only [Option.bind_some, Bool.false_eq_true, if_false]
    exact ⟨Ev.is rfl, Ev.is rfl⟩
theorem chUpTo_length (n : Int) : (chUpTo n).1.length ≤ 1000 := by
  unfold chUpTo
  split
  · have := chAll_length n.toNat 1 (by omega)
    show (chAll 1 n.toNat).length ≤ 1000
    omega
  · simp
def upOk : List BL → Bool
  | x :: y :: l => (decide (x.length < y.length) || (x.length == y.length && decide (x < y))) && upOk (y :: l)
  | _ => true
theorem upto_up : ∀ n, n < 13 → upOk ((chAll 1 n).map bytesList) = true := by decide +kernel
theorem upOk_at : ∀ (l : List BL), upOk l = true → ∀ i (h : i + 1 < l.length), (l[i]'(by omega)).length < (l[i + 1]).length ∨ ((l[i]'(by omega)).length = (l[i + 1]).length ∧ (l[i]'(by omega)) < l[i + 1])
  | [], _, i, h => absurd h (by simp)
  | [x], _, i, h => absurd h (by simp)
  | x :: y :: l, hu, i, h => by
    unfold upOk at hu
    rw [Bool.and_eq_true, Bool.or_eq_true, Bool.and_eq_true, decide_eq_true_eq, decide_eq_true_eq, beq_iff_eq] at hu
    cases i with
    | zero => exact hu.1
    | succ i => exact upOk_at (y :: l) hu.2 i (by simpa using h)
theorem chUpTo_up (n : Int) (i : Nat) (h : i + 1 < (chUpTo n).1.length) : ((chUpTo n).1[i]'(by omega)).size < ((chUpTo n).1[i + 1]).size ∨ (((chUpTo n).1[i]'(by omega)).size = ((chUpTo n).1[i + 1]).size ∧ bytesList ((chUpTo n).1[i]'(by omega)) < bytesList (chUpTo n).1[i + 1]) := by
  have hu : upOk ((chUpTo n).1.map bytesList) = true := by
    unfold chUpTo
    split
    · exact upto_up n.toNat (by omega)
    · rfl
  have h2 := upOk_at _ hu i (by rw [List.length_map]; exact h)
  simp only [List.getElem_map] at h2
  have hz : ∀ s : ByteArray, (bytesList s).length = s.size := fun s => data_length s
  rw [hz, hz] at h2
  exact h2
end Go.Proofs.Ytkphmbcoefkilaa.P
