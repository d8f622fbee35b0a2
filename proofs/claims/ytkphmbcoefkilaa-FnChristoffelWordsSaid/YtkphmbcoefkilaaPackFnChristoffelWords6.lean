/- A Christoffel word has two factors in one way, is its own least turn, balanced, and has a centre that is the same backwards. No condition. -/
import Derived.Test.YtkphmbcoefkilaaPackFnChristoffelWords5
import Derived.RegionTactic
import Derived.ChangeAlike
-- GMirrorWord
namespace Go.Proofs.Ytkphmbcoefkilaa.P
open Go.RowKit Go.Proofs.YtkphmbcoefkilaaW.PrintWords Go.Proofs.YtkphmbcoefkilaaW.PrintLast
set_option linter.unusedVariables false
set_option linter.unusedSimpArgs false

/-- A row of bytes that a conversion has laid (its block bears a mark): its first cells hold xs. -/
def MRow (W : World) (g : Nat) (xs : List Int) : Prop := ∃ cells : Array Value, W.heap[g]? = some (.cells cells 5 (cells.size, cells.size + 1)) ∧ xs.length ≤ cells.size ∧ ∀ j, j < xs.length → cells[j]? = some (.int .u8 (xs.getD j 0))
theorem MRow.cell {W : World} {g : Nat} {xs : List Int} (h : MRow W g xs) (j : Nat) (hj : j < xs.length) : W.cell? ⟨g, j, none⟩ = some (.int .u8 (xs.getD j 0)) := by
  obtain ⟨cells, hb, hl, hc⟩ := h
  rw [cell_of_row W g j cells 5 _ hb]
  exact hc j hj
theorem MRow.free {W : World} {g : Nat} {xs : List Int} (h : MRow W g xs) (j : Nat) (hj : j < xs.length) : W.frozen? ⟨g, j, none⟩ = false := by
  obtain ⟨cells, hb, hl, hc⟩ := h
  simp [World.frozen?, hb]
  omega
theorem MRow.set {W : World} {g : Nat} {xs : List Int} (h : MRow W g xs) (j : Nat) (x : Int) : MRow (W.setCell ⟨g, j, none⟩ (.int .u8 x)) g (xs.set j x) := by
  obtain ⟨cells, hb, hl, hc⟩ := h
  refine ⟨cells.setIfInBounds j (.int .u8 x), ?_, by simpa using hl, fun i hi => ?_⟩
  · simp [World.setCell, Array.getElem?_modify, hb]
  · rw [List.length_set] at hi
    rw [Array.getElem?_setIfInBounds]
    by_cases e : j = i
    · subst e
      rw [if_pos rfl, if_pos (by omega)]
      simp [List.getD_eq_getElem?_getD, hi]
    · rw [if_neg e, hc i hi]
      simp [List.getD_eq_getElem?_getD, List.getElem?_set, e]
theorem MRow.drewN {W : World} {g : Nat} {xs : List Int} (h : MRow W g xs) (n : Nat) : MRow (W.drewN n) g xs := h
theorem MRow.new (w : World) (s : ByteArray) : MRow (Lib.bytesWorld w 5 s) w.heap.size (bytesOf s) := by
  refine ⟨Lib.bytesCells w 5 s, Lib.bytesWorld_at_new w 5 s, ?_, fun j hj => ?_⟩
  · rw [bytesOf_length]
    simp [Lib.bytesCells]
  · rw [bytesOf_length] at hj
    have h1 : j < s.data.toList.length := by simpa using hj
    have := Lib.bytesWorld_cell w 5 s j hj
    rw [cell_of_row _ _ j _ 5 _ (Lib.bytesWorld_at_new w 5 s)] at this
    rw [this]
    simp [bytesOf, List.getD_eq_getElem?_getD, List.getElem?_eq_getElem h1]
theorem MRow.string {W : World} {g : Nat} {xs : List Int} (h : MRow W g xs) (c : Nat) : (convert 38 9 (.slice (some ⟨g, 0, none⟩) xs.length c)).run Try.prog W = .ok (.string (strOfNums xs)) W :=
  run_convert_bytes_arg W 38 5 Try.underlying38 Try.underlying5 g 0 xs.length c xs rfl (fun i hi => by rw [Nat.zero_add]; exact h.cell i hi) 9 Try.underlying9
/-- The first i and the last i have changed places. -/
def swapped (xs : List Int) (i : Nat) : List Int := (List.range xs.length).map fun p => if p < i ∨ xs.length - i ≤ p then xs.getD (xs.length - 1 - p) 0 else xs.getD p 0
theorem swapped_length (xs : List Int) (i : Nat) : (swapped xs i).length = xs.length := by simp [swapped]
theorem swapped_zero (xs : List Int) : swapped xs 0 = xs := by
  apply List.ext_getElem
  · simp [swapped]
  · intro p h1 h2
    simp [swapped, List.getD_eq_getElem?_getD, h2]
    omega
theorem swapped_end (xs : List Int) (i : Nat) (h : xs.length ≤ 2 * i + 1) : swapped xs i = xs.reverse := by
  apply List.ext_getElem
  · simp [swapped]
  · intro p h1 h2
    have h3 : p < xs.length := by simpa using h2
    rw [List.getElem_reverse]
    simp only [swapped, List.getElem_map, List.getElem_range]
    by_cases c : p < i ∨ xs.length - i ≤ p
    · rw [if_pos c]
      simp [List.getD_eq_getElem?_getD, show xs.length - 1 - p < xs.length by omega]
    · rw [if_neg c]
      have e : p = xs.length - 1 - p := by omega
      simp only [List.getD_eq_getElem?_getD]
      rw [List.getElem?_eq_getElem h3, Option.getD_some]
      congr 1
theorem swapped_succ (xs : List Int) (i : Nat) (h : 2 * i + 1 < xs.length) : swapped xs (i + 1) = ((swapped xs i).set i ((swapped xs i).getD (xs.length - 1 - i) 0)).set (xs.length - 1 - i) ((swapped xs i).getD i 0) := by
  have g : ∀ p, p < xs.length → (swapped xs i).getD p 0 = if p < i ∨ xs.length - i ≤ p then xs.getD (xs.length - 1 - p) 0 else xs.getD p 0 := by
    intro p hp
    simp [swapped, List.getD_eq_getElem?_getD, hp]
  rw [g i (by omega), g (xs.length - 1 - i) (by omega), if_neg (by omega), if_neg (by omega)]
  apply List.ext_getElem
  · simp [swapped]
  · intro p h1 h2
    have h3 : p < xs.length := by simpa [swapped] using h1
    rw [List.getElem_set, List.getElem_set]
    simp only [swapped, List.getElem_map, List.getElem_range]
    by_cases e1 : xs.length - 1 - i = p
    · rw [if_pos e1, if_pos (by omega)]
      congr 1
      omega
    · rw [if_neg e1]
      by_cases e2 : i = p
      · rw [if_pos e2, if_pos (by omega)]
        congr 1
        omega
      · rw [if_neg e2]
        by_cases c : p < i ∨ xs.length - i ≤ p
        · rw [if_pos (by omega), if_pos c]
        · rw [if_neg (by omega), if_neg c]

set_option maxHeartbeats 1000000 in
set_option maxRecDepth 100000 in
theorem mirror_reverse (w : World) (B g c : Nat) (xs : List Int) (hB : B ≤ g) (hM : MRow w g xs) (hl : xs.length ≤ 4611686018427387904) :
    Calls Try.prog 70 #[.slice (some ⟨g, 0, none⟩) xs.length c] w fun e w' => e = .returned (.tuple #[]) ∧ MRow w' g xs.reverse ∧ Below B w w' := by
  have HM := Aside0.mk hM
  clear hM
  go_enter Try.func70, Try.ntmps70
  go_wp2
  go_loopg [2, 3] xs.length (fun gg s2 s3 wr => ∃ (i : Nat) (jz : Int), s2 = .int .i64 i ∧ s3 = .int .i64 jz ∧ jz = (xs.length : Int) - 1 - i ∧ xs.length - i ≤ gg ∧ 2 * i ≤ xs.length + 1 ∧ Aside0 (MRow wr g (swapped xs i)) ∧ Aside0 (Below B w wr))
  case atStart => exact ⟨0, (xs.length : Int) - 1, rfl, by first | rfl | simp, by omega, by omega, by omega, ⟨by rw [swapped_zero]; exact HM.out⟩, ⟨Below.refl _ _⟩⟩
  case round =>
    obtain ⟨i, jz, rfl, rfl, hj, hg, h2, HR, HB⟩ := hrel
    by_cases hlt : 2 * i + 1 < xs.length
    · obtain ⟨jn, hjn⟩ : ∃ jn : Nat, jn = xs.length - 1 - i := ⟨_, rfl⟩
      obtain rfl : jz = (jn : Int) := by omega
      have hij : (i : Int) < (jn : Int) := by omega
      have hls := swapped_length xs i
      have ci := HR.out.cell i (by omega)
      have cj := HR.out.cell jn (by omega)
      have fi := HR.out.free i (by omega)
      have fj := HR.out.free jn (by omega)
      have HS := Aside0.mk (swapped_succ xs i hlt)
      rw [← hjn] at HS
      have hjl : jn < xs.length := by omega
      have hjl2 : (jn : Int) < (xs.length : Int) := by omega
      have HJ := Aside0.mk hjn
      have HJ2 := Aside0.mk hj
      have HI := Aside0.mk hlt
      have HG := Aside0.mk hg
      have H2 := Aside0.mk h2
      clear hjn hls hj hlt hg h2
      generalize (swapped xs i).getD i 0 = x at ci HS
      generalize (swapped xs i).getD jn 0 = y at cj HS
      go_wp2_with fail
      go_region
      go_wp2
      go_roundg (xs.length - (i + 1))
      case measure => have := HI.out; have := HG.out; omega
      case rel =>
        have e0 := HJ.out
        have e1 := HJ2.out
        have e2 := HI.out
        have e3 := H2.out
        refine ⟨i + 1, _, by go_num, rfl, by omega, by omega, by omega, ⟨?_⟩, ⟨?_⟩⟩
        · rw [HS.out]
          exact (HR.out.set i y).set jn x
        · exact ((HB.out.setCell (p := ⟨g, i, none⟩) hB _).setCell (p := ⟨g, jn, none⟩) hB _).drew
    · have hnot : ¬ (i : Int) < jz := by omega
      go_wp2
      go_end0
      exact ⟨rfl, by rw [← swapped_end xs i (by omega)]; exact HR.out, HB.out⟩

/-- A letter's other one. -/
def flip195 (c : Int) : Int := (195 - c) % 256
def mirrored (xs : List Int) (i : Nat) : List Int := (xs.take i).map flip195 ++ xs.drop i
theorem mirrored_length (xs : List Int) (i : Nat) (h : i ≤ xs.length) : (mirrored xs i).length = xs.length := by simp [mirrored]; omega
theorem mirrored_at (xs : List Int) (i : Nat) (h : i < xs.length) : (mirrored xs i).getD i 0 = xs.getD i 0 := by
  have e : xs.drop i = xs[i] :: xs.drop (i + 1) := List.drop_eq_getElem_cons h
  have hl : ((xs.take i).map flip195).length = i := by simp; omega
  simp only [mirrored, List.getD_eq_getElem?_getD]
  rw [List.getElem?_append_right (by omega), hl, Nat.sub_self, e, List.getElem?_eq_getElem h]
  rfl
theorem mirrored_succ (xs : List Int) (i : Nat) (h : i < xs.length) : mirrored xs (i + 1) = (mirrored xs i).set i (flip195 (xs.getD i 0)) := by
  have e : xs.drop i = xs[i] :: xs.drop (i + 1) := List.drop_eq_getElem_cons h
  have hl : ((xs.take i).map flip195).length = i := by simp; omega
  unfold mirrored
  have hd : xs.getD i 0 = xs[i] := by simp [List.getD_eq_getElem?_getD, h]
  rw [List.take_succ_eq_append_getElem h, List.map_append, List.set_append_right _ _ (by omega), hl, Nat.sub_self, e, hd, List.append_assoc]
  rfl
def mirrorOf (s : ByteArray) : ByteArray := strOfNums ((bytesOf s).reverse.map flip195)
def impl_MirrorWord.f (a0 : ByteArray) : Option (ByteArray × Bool) := (impl_IsLetters.f a0).bind fun t => if t = true then some (mirrorOf a0, true) else some ((⟨#[]⟩ : ByteArray), false)

set_option maxHeartbeats 2000000 in
set_option maxRecDepth 100000 in
theorem impl_MirrorWord.calls (a0 : ByteArray) (r1 : ByteArray) (r2 : Bool) (w : World) (h : impl_MirrorWord.f a0 = some (r1, r2)) :
    Calls Try.prog 39 #[.string a0] w fun e w' => e = .returned (.tuple #[.string r1, .bool r2]) ∧ Below w.heap.size w w' := by
  unfold impl_MirrorWord.f at h
  cases hL : impl_IsLetters.f a0 with
  | none => rw [hL] at h; cases h
  | some b =>
    have hC := impl_IsLetters.calls a0 b w hL
    rw [hL] at h
    cases b with
    | false =>
      obtain ⟨rfl, rfl⟩ : (⟨#[]⟩ : ByteArray) = r1 ∧ false = r2 := by simpa using h
      clear h hL
      go_enter Try.func39, Try.ntmps39
      go_wp2_with (go_at_call 37; refine hC.mono ?_; rintro e w' ⟨rfl, hb⟩; have HB := Aside0.mk hb; clear hb)
      go_ret2
      exact ⟨rfl, HB.out⟩
    | true =>
      obtain ⟨rfl, rfl⟩ : mirrorOf a0 = r1 ∧ true = r2 := by simpa using h
      have hs : a0.size ≤ 40 := by
        unfold impl_IsLetters.f impl_isWord.f at hL
        split at hL
        · cases hL
        · simp at hL
          omega
      clear h hL
      go_enter Try.func39, Try.ntmps39
      go_wp2_with (go_at_call 37; refine hC.mono ?_; rintro e w1 ⟨rfl, hb⟩; have hcv := Lib.run_convert_string_bytes (P := Try.prog) w1 9 38 5 a0 Try.underlying9 Try.underlying38 Try.underlying5; have hM := Aside0.mk (MRow.new w1 a0); have hB2 := Aside0.mk (hb.trans ((below_bytes w1 5 a0).mono hb.size)); have hG := Aside0.mk hb.size; clear hb; generalize Lib.bytesWorld w1 5 a0 = W2 at hcv hM hB2; generalize grownCap w1 a0.size 0 5 = cp at hcv; generalize w1.heap.size = g at hcv hM hG)
      have hR := mirror_reverse W2 w.heap.size g cp (bytesOf a0) hG.out hM.out (by rw [bytesOf_length]; omega)
      have hlen : (bytesOf a0).reverse.length = a0.size := by rw [List.length_reverse, bytesOf_length]
      rw [bytesOf_length] at hR
      have HE := Aside0.mk (show mirrorOf a0 = strOfNums ((bytesOf a0).reverse.map flip195) from rfl)
      obtain ⟨res, hres⟩ : ∃ res, res = mirrorOf a0 := ⟨_, rfl⟩
      rw [← hres] at HE
      have HRES := Aside0.mk hres
      clear hres
      generalize (bytesOf a0).reverse = xs at hR hlen HE
      have HL := Aside0.mk hlen
      clear hlen hC hcv
      go_wp2_with (go_at_call 70; refine hR.mono ?_; rintro e w3 ⟨rfl, hm3, hb3⟩; have HM := Aside0.mk hm3; have HB3 := Aside0.mk (hB2.out.trans hb3); clear hm3 hb3)
      go_loopg [5, 6, 16] a0.size (fun gg _ _ s16 wr => ∃ i : Nat, s16 = .int .i64 i ∧ i ≤ a0.size ∧ a0.size - i ≤ gg ∧ Aside0 (MRow wr g (mirrored xs i)) ∧ Aside0 (Below w.heap.size w wr))
      case atStart => exact ⟨0, rfl, by omega, by omega, ⟨by show MRow _ g (mirrored xs 0); exact HM.out⟩, ⟨HB3.out⟩⟩
      case round =>
        obtain ⟨i, rfl, hi, hg, HR, HW⟩ := hrel
        have HGG := Aside0.mk hg
        clear hg
        by_cases hlt : i < a0.size
        · have hltz : (i : Int) < (a0.size : Int) := by omega
          have hil : i < xs.length := by rw [HL.out]; exact hlt
          have hml : i < (mirrored xs i).length := by rw [mirrored_length xs i (by omega)]; exact hil
          have ci := HR.out.cell i hml
          have fi := HR.out.free i hml
          rw [mirrored_at xs i hil] at ci
          have HS := Aside0.mk (mirrored_succ xs i hil)
          clear hil hml
          generalize xs.getD i 0 = x at ci HS
          go_wp2
          go_roundg (a0.size - (i + 1))
          case measure => have := HGG.out; omega
          case rel =>
            refine ⟨i + 1, by go_num, by omega, by omega, ⟨?_⟩, ⟨?_⟩⟩
            · rw [HS.out]
              exact HR.out.set i (flip195 x)
            · exact HW.out.setCell (p := ⟨g, i, none⟩) hG.out _
        · have hltz : ¬ (i : Int) < (a0.size : Int) := by omega
          obtain rfl : i = a0.size := by omega
          have hcb := HR.out.string cp
          rw [mirrored_length xs _ (by rw [HL.out]; omega), HL.out] at hcb
          have he : mirrored xs a0.size = xs.map flip195 := by rw [← HL.out]; simp [mirrored]
          rw [he, ← HE.out] at hcb
          clear he
          go_wp2
          go_ret2
          exact ⟨by rw [← HRES.out]; rfl, HW.out⟩
end Go.Proofs.Ytkphmbcoefkilaa.P
