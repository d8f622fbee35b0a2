-- GIVEN slices.Compact[[]string,string] hands
/- The contract of slices.Compact at strings, in the printer's form, out of the library's. -/
import Derived.Test.YtkphmbcoefkilaaGsortStrings
namespace Go.Proofs.Ytkphmbcoefkilaa.P
open Go.RowKit Go.Proofs.YtkphmbcoefkilaaW.PrintWords Go.Proofs.YtkphmbcoefkilaaW.PrintLast
set_option linter.unusedVariables false
set_option linter.unusedSimpArgs false

def compactStrings (l0 : List ByteArray) : List ByteArray := (Go.Lib.compact (l0.map bytesList)).map ofBytes
theorem compact_length (zs : List (List UInt8)) : (Go.Lib.compact zs).length ≤ zs.length := by
  unfold Go.Lib.compact Go.Lib.compactUpTo
  rw [List.length_map]
  exact Nat.le_trans (List.length_filter_le _ _) (by simp)
def slices_Compact_string_string.f (l0 : List ByteArray) : Option (List ByteArray) := some (compactStrings l0)
theorem slices_Compact_string_string.calls (P0_ : Nat → Prop) (u9000_ : Value) (l0 : List ByteArray) (r : List ByteArray) (w0 w : World) (hB : Below w0.heap.size w0 w) (ho0 : Kd.R Kd.string 9 w w0.heap.size P0_ u9000_ l0) (h : slices_Compact_string_string.f l0 = some r) :
  Calls Try.prog 75 #[u9000_] w fun e w' => ∃ v0_ : Value, e = .returned (v0_) ∧ Kd.R Kd.string 9 w' w0.heap.size (fun k_ => (P0_ k_ ∨ w.heap.size ≤ k_)) v0_ r ∧ Below w0.heap.size w0 w' ∧ Kept w w' (fun k_ => P0_ k_) := by
  have hr : compactStrings l0 = r := by simpa [slices_Compact_string_string.f] using h
  subst hr
  rcases scalar_open ho0 with ⟨rfl, rfl⟩ | ⟨g, cap, cur, rfl, hok, hg, hb, hc, hm, hs, ht⟩
  · refine (Go.Proofs.Try.slices_Compact_string_empty none 0 w).mono ?_
    rintro e w' ⟨rfl, rfl⟩
    refine ⟨_, rfl, ?_, hB, Kept.refl _ _⟩
    rw [show compactStrings [] = [] by simp [compactStrings, Go.Lib.compact, Go.Lib.compactUpTo]]
    exact Kd.R_nil _ _ _ _ _
  · have hml : (l0.map bytesList).length = l0.length := List.length_map _
    have ht' : cur.toList.take (l0.map bytesList).length = (l0.map bytesList).map Go.Proofs.encStr := by rw [hml, ht]; exact enc_bytes l0
    have hC := Go.Proofs.Try.slices_Compact_string g 0 cap (l0.map bytesList) w (scalar_holds hb ht') (by rw [hml]; have : cap ≤ maxLen := hm; simp only [maxLen] at this; omega) (by rw [hml]; exact hc)
    have hcl := compact_length (l0.map bytesList)
    rw [hml] at hC hcl
    refine hC.mono ?_
    rintro e w' ⟨rfl, q, hw⟩
    have hS := scalar_sorted (enc := Go.Proofs.encStr) (h1 := fun _ => rfl) (xs := l0.map bytesList) (ys := Go.Lib.compact (l0.map bytesList) ++ List.replicate (l0.length - (Go.Lib.compact (l0.map bytesList)).length) []) (cap := cap) hB hok hg hb (by rw [hml]; exact hc) hm hs (by rw [List.length_append, List.length_replicate, hml]; omega) q #[] w' (by rw [Go.Sort.grow_empty]; exact hw)
    rw [hml] at hS
    have hT := scalar_take hS.1 (Go.Lib.compact (l0.map bytesList)).length (by rw [List.length_append]; omega)
    rw [List.take_left'  rfl] at hT
    exact ⟨_, rfl, scalar_map hT (enc_of _), hS.2⟩
end Go.Proofs.Ytkphmbcoefkilaa.P
