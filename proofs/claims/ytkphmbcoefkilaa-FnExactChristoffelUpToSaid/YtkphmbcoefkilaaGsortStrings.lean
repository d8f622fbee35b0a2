-- GIVEN slices.Sort[[]string,string] writes
/- The contract of slices.Sort at strings, in the printer's form, out of the library's. -/
import Derived.Test.YtkphmbcoefkilaaUscalar
import Derived.Test.YtkphmbcoefkilaaLib
namespace Go.Proofs.Ytkphmbcoefkilaa.P
open Go.RowKit Go.Proofs.YtkphmbcoefkilaaW.PrintWords Go.Proofs.YtkphmbcoefkilaaW.PrintLast
set_option linter.unusedVariables false
set_option linter.unusedSimpArgs false

def bytesList (s : ByteArray) : List UInt8 := s.data.toList
def ofBytes (l : List UInt8) : ByteArray := ⟨l.toArray⟩
theorem of_bytes (s : ByteArray) : ofBytes (bytesList s) = s := by cases s; rfl
theorem bytes_of (l : List UInt8) : bytesList (ofBytes l) = l := rfl
theorem enc_bytes (xs : List ByteArray) : xs.map Value.string = (xs.map bytesList).map Go.Proofs.encStr := by
  rw [List.map_map]
  rfl
theorem enc_of (ys : List (List UInt8)) : ys.map Go.Proofs.encStr = (ys.map ofBytes).map Value.string := by
  rw [List.map_map]
  rfl
def sortStrings (l0 : List ByteArray) : List ByteArray := ((l0.map bytesList).mergeSort fun x y => decide (x ≤ y)).map ofBytes
def slices_Sort_string_string.f (l0 : List ByteArray) : Option (List ByteArray) := if l0.length < 4611686018427387904 then some (sortStrings l0) else none
theorem slices_Sort_string_string.calls (P0_ : Nat → Prop) (u9000_ : Value) (l0 : List ByteArray) (r : List ByteArray) (w0 w : World) (hB : Below w0.heap.size w0 w) (ho0 : Kd.R Kd.string 9 w w0.heap.size P0_ u9000_ l0) (h : slices_Sort_string_string.f l0 = some r) :
  Calls Try.prog 65 #[u9000_] w fun e w' => e = .returned (.tuple #[]) ∧ Kd.R Kd.string 9 w' w0.heap.size (fun k_ => (P0_ k_ ∨ w.heap.size ≤ k_)) u9000_ r ∧ Below w0.heap.size w0 w' ∧ Kept w w' (fun k_ => P0_ k_) := by
  have hr : sortStrings l0 = r ∧ l0.length < 4611686018427387904 := by
    unfold slices_Sort_string_string.f at h
    split at h
    · exact ⟨by simpa using h, by assumption⟩
    · simp at h
  obtain ⟨rfl, hz⟩ := hr
  rcases scalar_open ho0 with ⟨rfl, rfl⟩ | ⟨g, cap, cur, rfl, hok, hg, hb, hc, hm, hs, ht⟩
  · refine (Go.Proofs.Try.slices_Sort_string_none none 0 w).mono ?_
    rintro e w' ⟨rfl, rfl⟩
    refine ⟨rfl, ?_, hB, Kept.refl _ _⟩
    rw [show sortStrings [] = [] by simp [sortStrings]]
    exact Kd.R_nil _ _ _ _ _
  · have hlt : g < w.heap.size := (Array.getElem?_eq_some_iff.1 hb).1
    have hml : (l0.map bytesList).length = l0.length := List.length_map _
    have ht' : cur.toList.take (l0.map bytesList).length = (l0.map bytesList).map Go.Proofs.encStr := by rw [hml, ht]; exact enc_bytes l0
    have hC := Go.Proofs.Try.slices_Sort_string g 0 cap (l0.map bytesList) w (scalar_holds hb ht') hlt (by rw [hml]; exact hz)
    rw [hml] at hC
    refine hC.mono ?_
    rintro e w' ⟨rfl, n, os, hw⟩
    have hS := scalar_sorted (enc := Go.Proofs.encStr) (h1 := fun _ => rfl) (xs := l0.map bytesList) (cap := cap) hB hok hg hb (by rw [hml]; exact hc) hm hs (List.length_mergeSort _) n os w' hw
    rw [hml] at hS
    exact ⟨rfl, scalar_map hS.1 (enc_of _), hS.2⟩
end Go.Proofs.Ytkphmbcoefkilaa.P
