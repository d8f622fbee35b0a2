/- The way down of a Markov triple: both texts. Along it the greatest number falls. -/
import Derived.Test.YthkmbkibceojlaaUmkMove
import Derived.Test.YthkmbkibceojlaaGmkPath
namespace Go.Proofs.Ythkmbkibceojlaa.P
set_option linter.unusedVariables false
set_option linter.unusedSimpArgs false
open Go.RowKit Go.Proofs.YthkmbkibceojlaaW.PrintWords Go.Proofs.YthkmbkibceojlaaW.PrintLast Go.Proofs.YthkmbkibceojlaaW.PrintMore

theorem mk_three {l : List Int} (h : isMk l = true) : ∃ x y z, l = [x, y, z] := by
  match l, h with
  | [x, y, z], _ => exact ⟨x, y, z, rfl⟩
/-- The triple below. -/
def dn (l : List Int) : List Int := match l with
  | [x, y, z] => mv x y z 2
  | _ => l
/-- Above 1 1 1 the greatest number stands alone, and the other root is at most the middle one. -/
theorem below {x y z : Int} (h : isMk [x, y, z] = true) (hz : 1 < z) : y < z ∧ 3 * x * y - z ≤ y := by
  obtain ⟨h1, h2, h3, h4, h5, h6⟩ := isMk_iff.1 h
  have ho := other_root h1 h2 h3 h6
  have h7 := mkEq_iff.1 h6
  have hyz : y < z := by
    rcases Int.lt_or_le y z with h8 | h8
    · exact h8
    · obtain rfl : y = z := by omega
      -- x x + 2 y y = 3 x y y
      have e1 : x * x + 2 * (y * y) = 3 * (x * (y * y)) := by grind
      have e2 : x * x ≤ y * y := Int.mul_le_mul h4 h4 (by omega) (by omega)
      rcases Int.lt_or_le 1 x with h9 | h9
      · have e3 : 2 * (y * y) ≤ x * (y * y) := Int.mul_le_mul_of_nonneg_right (by omega) (by have := mul_one_le (a := y) (b := y) (by omega) (by omega); omega)
        have e4 := mul_one_le (a := y) (b := y) (by omega) (by omega)
        omega
      · obtain rfl : x = 1 := by omega
        have e4 : y * y = 1 := by omega
        have e5 : 2 * y ≤ y * y := Int.mul_le_mul_of_nonneg_right (show (2 : Int) ≤ y by omega) (by omega)
        omega
  refine ⟨hyz, ?_⟩
  rcases Int.lt_or_le y (3 * x * y - z) with h8 | h8
  · have e1 : (z - y) * (3 * x * y - z - y) = x * x + 2 * (y * y) - 3 * (x * (y * y)) := by grind
    have e2 : 0 < (z - y) * (3 * x * y - z - y) := Int.mul_pos (by omega) (by omega)
    have e3 : x * x ≤ y * y := Int.mul_le_mul h4 h4 (by omega) (by omega)
    have e4 : y * y ≤ x * (y * y) := by
      have := Int.mul_le_mul_of_nonneg_right (show 1 ≤ x by omega) (show 0 ≤ y * y by have := mul_one_le (a := y) (b := y) (by omega) (by omega); omega)
      omega
    omega
  · exact h8
theorem dn_is {x y z : Int} (h : isMk [x, y, z] = true) (hz : 1 < z) : isMk (dn [x, y, z]) = true ∧ rd (dn [x, y, z]) 2 < z := by
  obtain ⟨h1, h2, h3, h4, h5, h6⟩ := isMk_iff.1 h
  obtain ⟨b1, b2⟩ := below h hz
  have hn : mvN x y z 2 ≤ 1000000000 := by
    show 3 * x * y - z ≤ _
    omega
  refine ⟨mv_is h 2 (by omega) hn, ?_⟩
  show rd (srt x y (3 * x * y - z)) 2 < z
  rw [srt_two]
  unfold hi2
  split <;> split <;> omega
theorem mk_pos {l : List Int} (h : isMk l = true) : 1 ≤ rd l 2 ∧ rd l 2 ≤ 1000000000 := by
  obtain ⟨x, y, z, rfl⟩ := mk_three h
  obtain ⟨h1, h2, h3, h4, h5, h6⟩ := isMk_iff.1 h
  exact h3
theorem dn_good {l : List Int} (h : isMk l = true) (hz : 1 < rd l 2) : isMk (dn l) = true ∧ rd (dn l) 2 < rd l 2 := by
  obtain ⟨x, y, z, rfl⟩ := mk_three h
  exact dn_is h hz
theorem moved_dn {l : List Int} (h : isMk l = true) : impl_moved.f l 2 = some (dn l) := by
  obtain ⟨x, y, z, rfl⟩ := mk_three h
  exact moved_is h 2 (by omega)
theorem down_dn {l : List Int} (h : isMk l = true) : spec_mkDown.f l = some (dn l) := by
  obtain ⟨x, y, z, rfl⟩ := mk_three h
  exact mkDown_is h
theorem mk_len {l : List Int} (h : isMk l = true) : l.length = 3 := by
  obtain ⟨x, y, z, rfl⟩ := mk_three h
  rfl
def mkp : Nat → List Int → List (List Int)
  | 0, l => [l]
  | d + 1, l => if rd l 2 > 1 then l :: mkp d (dn l) else [l]
theorem mkp_both (d : Nat) : ∀ (l : List Int) (o : List (List Int)), isMk l = true → rd l 2 ≤ d → o.length + d ≤ 3000000000000 →
    Ev (fun k => spec_mkPath.l0 k l (o ++ [l])) (o ++ mkp d l) ∧ Ev (fun k => impl_MarkovPath.l0 k l (o ++ [l])) (o ++ mkp d l, true) := by
  induction d with
  | zero =>
    intro l o h hs ho
    have := (mk_pos h).1
    omega
  | succ d ih =>
    intro l o h hs ho
    have hl : (2 : Int) < (l.length : Int) := by rw [mk_len h]; decide
    rw [mkp]
    by_cases hz : rd l 2 > 1
    · obtain ⟨g1, g2⟩ := dn_good h hz
      obtain ⟨r1, r2⟩ := ih (dn l) (o ++ [l]) g1 (by omega) (by rw [List.length_append, List.length_singleton]; omega)
      have hlen : (o ++ [l]).length < 4000000000000 := by rw [List.length_append, List.length_singleton]; omega
      have happ : o ++ l :: mkp d (dn l) = (o ++ [l]) ++ mkp d (dn l) := by simp
      rw [if_pos hz, happ]
      constructor
      · refine Ev.step (fun k => by simp only [spec_mkPath.l0, hl, hz, down_dn h, if_true, Option.bind_some, hlen]) r1
      · refine Ev.step (fun k => by simp only [impl_MarkovPath.l0, hl, hz, moved_dn h, clone_is _ (show (dn l).length < 17592186044416 by rw [mk_len g1]; decide), if_true, Option.bind_some, hlen]) r2
    · rw [if_neg hz]
      constructor
      · refine Ev.step (f := fun _ => some (o ++ [l])) (fun k => by simp only [spec_mkPath.l0, hl, hz, if_true, if_false]) (Ev.is rfl)
      · refine Ev.step (f := fun _ => some (o ++ [l], true)) (fun k => by simp only [impl_MarkovPath.l0, hl, hz, if_true, if_false]) (Ev.is rfl)
/-- The whole way. -/
def pathOf (l : List Int) : List (List Int) := mkp 1000000000 l
theorem mkPath_ev {l : List Int} (h : isMk l = true) : Ev (fun k => spec_mkPath.f k l) (pathOf l) := by
  have hp := mk_pos h
  have hl := mk_len h
  unfold spec_mkPath.f
  have he : spec_l1Own.f l = some l := by
    unfold spec_l1Own.f
    simp only [List.nil_append, List.length_nil, Option.bind_some]
    rw [if_pos (by omega)]
  refine Ev.bind0 he ?_
  exact (mkp_both 1000000000 l [] h (by omega) (by simp)).1
def pathAll (l : List Int) : List (List Int) × Bool := if isMk l then (pathOf l, true) else ([], false)
theorem MarkovPath_ev (l : List Int) : Ev (fun k => impl_MarkovPath.f k l) (pathAll l) := by
  unfold impl_MarkovPath.f pathAll
  refine Ev.bind (IsMarkov_ev l) ?_
  cases h : isMk l with
  | false =>
    simp only [Bool.false_eq_true, if_false]
    exact Ev.is rfl
  | true =>
    have hp := mk_pos h
    have hl := mk_len h
    simp only [if_true]
    refine Ev.bind0 (clone_is l (by omega)) ?_
    exact (mkp_both 1000000000 l [] h (by omega) (by simp)).2
theorem mkp_length (d : Nat) : ∀ l, 1 ≤ (mkp d l).length ∧ (mkp d l).length ≤ d + 1 := by
  induction d with
  | zero => intro l; simp [mkp]
  | succ d ih =>
    intro l
    rw [mkp]
    have := ih (dn l)
    split
    · simp only [List.length_cons]; omega
    · simp
theorem mkp_head (d : Nat) (l : List Int) : (mkp d l)[0]? = some l := by
  cases d with
  | zero => rfl
  | succ d => rw [mkp]; split <;> rfl
theorem mkp_all (d : Nat) : ∀ l, isMk l = true → ∀ x ∈ mkp d l, isMk x = true := by
  induction d with
  | zero =>
    intro l h x hx
    rw [mkp] at hx
    rw [List.mem_singleton.1 hx]
    exact h
  | succ d ih =>
    intro l h x hx
    rw [mkp] at hx
    split at hx
    · rename_i hz
      rcases List.mem_cons.1 hx with rfl | hx
      · exact h
      · exact ih _ (dn_good h hz).1 x hx
    · rw [List.mem_singleton.1 hx]
      exact h
end Go.Proofs.Ythkmbkibceojlaa.P
