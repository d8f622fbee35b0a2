/- spec.mkSort puts three numbers into order. -/
import Derived.Test.YthkmbkibceojlaaUmarkov
import Derived.Test.YthkmbkibceojlaaPFspecmkSort
namespace Go.Proofs.Ythkmbkibceojlaa.P
set_option linter.unusedVariables false
set_option linter.unusedSimpArgs false
open Go.RowKit Go.Proofs.YthkmbkibceojlaaW.PrintWords Go.Proofs.YthkmbkibceojlaaW.PrintLast Go.Proofs.YthkmbkibceojlaaW.PrintMore

def lo2 (a b : Int) : Int := if a < b then a else b
def hi2 (a b : Int) : Int := if a > b then a else b
theorem least_is (a b : Int) : spec_l1Least.f a b = some (lo2 a b) := by unfold spec_l1Least.f lo2; split <;> rfl
theorem most_is (a b : Int) : spec_l1Most.f a b = some (hi2 a b) := by unfold spec_l1Most.f hi2; split <;> rfl
/-- Three numbers in order. -/
def srt (x y z : Int) : List Int := [lo2 x (lo2 y z), x + y + z - lo2 x (lo2 y z) - hi2 x (hi2 y z), hi2 x (hi2 y z)]
theorem srt_cases (x y z : Int) : (x ≤ y ∧ y ≤ z ∧ srt x y z = [x, y, z]) ∨ (x ≤ z ∧ z ≤ y ∧ srt x y z = [x, z, y]) ∨ (y ≤ x ∧ x ≤ z ∧ srt x y z = [y, x, z]) ∨ (y ≤ z ∧ z ≤ x ∧ srt x y z = [y, z, x]) ∨ (z ≤ x ∧ x ≤ y ∧ srt x y z = [z, x, y]) ∨ (z ≤ y ∧ y ≤ x ∧ srt x y z = [z, y, x]) := by
  have e : ∀ a b c : Int, lo2 x (lo2 y z) = a → hi2 x (hi2 y z) = c → x + y + z = a + b + c → srt x y z = [a, b, c] := by
    intro a b c h1 h2 h3
    unfold srt
    rw [h1, h2]
    congr 2
    omega
  have l : ∀ a b : Int, a ≤ b → lo2 a b = a ∧ lo2 b a = a ∧ hi2 a b = b ∧ hi2 b a = b := by
    intro a b h
    unfold lo2 hi2
    refine ⟨?_, ?_, ?_, ?_⟩ <;> split <;> omega
  rcases Int.le_total x y with h1 | h1 <;> rcases Int.le_total y z with h2 | h2 <;> rcases Int.le_total x z with h3 | h3
  · exact .inl ⟨h1, h2, e _ _ _ (by rw [(l y z h2).1, (l x y h1).1]) (by rw [(l y z h2).2.2.1, (l x z h3).2.2.1]) (by omega)⟩
  · exact .inl ⟨h1, h2, e _ _ _ (by rw [(l y z h2).1, (l x y h1).1]) (by rw [(l y z h2).2.2.1, (l z x h3).2.2.2]; omega) (by omega)⟩
  · exact .inr (.inl ⟨h3, h2, e _ _ _ (by rw [(l z y h2).2.1, (l x z h3).1]) (by rw [(l z y h2).2.2.2, (l x y h1).2.2.1]) (by omega)⟩)
  · exact .inr (.inr (.inr (.inr (.inl ⟨h3, h1, e _ _ _ (by rw [(l z y h2).2.1, (l z x h3).2.1]) (by rw [(l z y h2).2.2.2, (l x y h1).2.2.1]) (by omega)⟩))))
  · exact .inr (.inr (.inl ⟨h1, h3, e _ _ _ (by rw [(l y z h2).1, (l y x h1).2.1]) (by rw [(l y z h2).2.2.1, (l x z h3).2.2.1]) (by omega)⟩))
  · exact .inr (.inr (.inr (.inl ⟨h2, h3, e _ _ _ (by rw [(l y z h2).1, (l y x h1).2.1]) (by rw [(l y z h2).2.2.1, (l z x h3).2.2.2]) (by omega)⟩)))
  · exact .inr (.inr (.inr (.inr (.inr ⟨h2, h1, e _ _ _ (by rw [(l z y h2).2.1, (l x z h3).1]; omega) (by rw [(l z y h2).2.2.2, (l y x h1).2.2.2]) (by omega)⟩))))
  · exact .inr (.inr (.inr (.inr (.inr ⟨h2, h1, e _ _ _ (by rw [(l z y h2).2.1, (l z x h3).2.1]) (by rw [(l z y h2).2.2.2, (l y x h1).2.2.2]) (by omega)⟩))))
theorem mkSort_srt (x y z : Int) (hx : 0 ≤ x ∧ x ≤ 1000000000000) (hy : 0 ≤ y ∧ y ≤ 1000000000000) (hz : 0 ≤ z ∧ z ≤ 1000000000000) : spec_mkSort.f x y z = some (srt x y z) := by
  have hlo : 0 ≤ lo2 x (lo2 y z) ∧ lo2 x (lo2 y z) ≤ 1000000000000 := by unfold lo2; split <;> split <;> omega
  have hhi : 0 ≤ hi2 x (hi2 y z) ∧ hi2 x (hi2 y z) ≤ 1000000000000 := by unfold hi2; split <;> split <;> omega
  have w1 : wrap64 (x + y) = x + y := w64 (by omega) (by omega)
  have w2 : wrap64 (x + y + z) = x + y + z := w64 (by omega) (by omega)
  have w3 : wrap64 (x + y + z - lo2 x (lo2 y z)) = x + y + z - lo2 x (lo2 y z) := w64 (by omega) (by omega)
  have w4 : wrap64 (x + y + z - lo2 x (lo2 y z) - hi2 x (hi2 y z)) = x + y + z - lo2 x (lo2 y z) - hi2 x (hi2 y z) := w64 (by omega) (by omega)
  unfold spec_mkSort.f srt
  simp only [least_is, most_is, Option.bind_some, w1, w2, w3, w4]
theorem mkEq_srt {x y z a b c : Int} (h : srt x y z = [a, b, c]) : mkEq a b c = mkEq x y z := by
  have g : ∀ p q r : Int, (mkEq p q r = mkEq p r q) ∧ (mkEq p q r = mkEq q p r) := by
    intro p q r
    unfold mkEq
    constructor
    · rw [Bool.eq_iff_iff]; simp only [beq_iff_eq]; constructor <;> intro h <;> grind
    · rw [Bool.eq_iff_iff]; simp only [beq_iff_eq]; constructor <;> intro h <;> grind
  rcases srt_cases x y z with ⟨_, _, e⟩ | ⟨_, _, e⟩ | ⟨_, _, e⟩ | ⟨_, _, e⟩ | ⟨_, _, e⟩ | ⟨_, _, e⟩ <;> (rw [e] at h; injection h with h1 h; injection h with h2 h; injection h with h3 _; subst h1 h2 h3)
  · rfl
  · exact (g _ _ _).1
  · exact (g _ _ _).2
  · rw [(g y z x).1, (g y x z).2]
  · rw [(g z x y).2, (g x z y).1]
  · rw [(g z y x).1, (g z x y).2, (g x z y).1]
theorem srt_three (x y z : Int) : ∃ a b c, srt x y z = [a, b, c] ∧ a ≤ b ∧ b ≤ c := by
  rcases srt_cases x y z with ⟨h1, h2, e⟩ | ⟨h1, h2, e⟩ | ⟨h1, h2, e⟩ | ⟨h1, h2, e⟩ | ⟨h1, h2, e⟩ | ⟨h1, h2, e⟩ <;> exact ⟨_, _, _, e, h1, h2⟩
theorem mkSort_is (x y z : Int) (hx : 1 ≤ x ∧ x ≤ 1000000000) (hy : 1 ≤ y ∧ y ≤ 1000000000) (hz : 1 ≤ z ∧ z ≤ 1000000000) : ∃ a b c, spec_mkSort.f x y z = some [a, b, c] ∧ a ≤ b ∧ b ≤ c ∧ 1 ≤ a ∧ c ≤ 1000000000 ∧ mkEq a b c = mkEq x y z := by
  have h := mkSort_srt x y z (by omega) (by omega) (by omega)
  rcases srt_cases x y z with ⟨h1, h2, e⟩ | ⟨h1, h2, e⟩ | ⟨h1, h2, e⟩ | ⟨h1, h2, e⟩ | ⟨h1, h2, e⟩ | ⟨h1, h2, e⟩ <;> exact ⟨_, _, _, by rw [h, e], h1, h2, by omega, by omega, mkEq_srt e⟩
end Go.Proofs.Ythkmbkibceojlaa.P
