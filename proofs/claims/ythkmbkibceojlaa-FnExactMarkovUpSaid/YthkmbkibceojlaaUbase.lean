/- Plain lemmas that all pure statements use: numbers that fit, rounds, lists that are read. -/
import Derived.Test.YthkmbkibceojlaaP0
namespace Go.Proofs.Ythkmbkibceojlaa.P
set_option linter.unusedVariables false
set_option linter.unusedSimpArgs false
open Go.RowKit Go.Proofs.YthkmbkibceojlaaW.PrintWords Go.Proofs.YthkmbkibceojlaaW.PrintLast

theorem w64 {x : Int} (h1 : -9223372036854775808 ≤ x) (h2 : x ≤ 9223372036854775807) : wrap64 x = x := by unfold wrap64; omega
theorem i64_of {x : Int} (h : (Lit.int .i64 x).wf = true) : -9223372036854775808 ≤ x ∧ x ≤ 9223372036854775807 := by
  simp [Lit.wf, IntKind.min, IntKind.max, IntKind.signed, IntKind.bits] at h
  omega
theorem w64_succ {i n : Nat} (h : i < n) (hn : n ≤ 4611686018427387904) : wrap64 ((i : Int) + 1) = ((i + 1 : Nat) : Int) := by unfold wrap64; omega
theorem Ev.is {α : Type} {x : Option α} {r : α} (h : x = some r) : Ev (fun _ => x) r := ⟨0, fun _ _ => h⟩
theorem Ev.bind0 {α β : Type} {x : Option α} {f : Nat → α → Option β} {a : α} {r : β} (h : x = some a) (k : Ev (fun n => f n a) r) : Ev (fun n => x.bind (f n)) r := Ev.bind (g := fun _ => x) (Ev.is h) k
theorem rd_lt (l : List Int) (i : Nat) (h : i < l.length) : rd l (i : Int) = l[i] := by simp [rd, List.getD_eq_getElem?_getD, h]
theorem rd_drop (l : List Int) (i : Nat) (h : i < l.length) : l.drop i = rd l (i : Int) :: l.drop (i + 1) := by rw [rd_lt l i h]; exact List.drop_eq_getElem_cons h

/-- m, m + 1, .. -/
def upFrom (m : Int) : Nat → List Int
  | 0 => []
  | n + 1 => m :: upFrom (m + 1) n
theorem upFrom_length (m : Int) (n : Nat) : (upFrom m n).length = n := by induction n generalizing m with
  | zero => rfl
  | succ n ih => simp [upFrom, ih]
theorem upFrom_snoc (m : Int) (n : Nat) : upFrom m (n + 1) = upFrom m n ++ [m + n] := by
  induction n generalizing m with
  | zero => simp [upFrom]
  | succ n ih =>
    rw [upFrom, ih, upFrom]
    simp only [List.cons_append, List.cons.injEq, true_and]
    congr 2
    omega
theorem rd_upFrom (m : Int) (n i : Nat) (h : i < n) : rd (upFrom m n) (i : Int) = m + i := by
  rw [rd_lt _ _ (by rw [upFrom_length]; exact h)]
  induction n generalizing m i with
  | zero => omega
  | succ n ih =>
    cases i with
    | zero => simp [upFrom]
    | succ i =>
      simp only [upFrom, List.getElem_cons_succ]
      rw [ih (m + 1) i (by omega)]
      omega
end Go.Proofs.Ythkmbkibceojlaa.P
