/- plain: fractions in order, told by their differences' signs. -/
import Derived.Test.YtlkoenpdmlbhlaaA9
set_option linter.unusedVariables false
set_option linter.unusedSimpArgs false
namespace Go.Proofs.Ytlkoenpdmlbhlaa

theorem num_pos_iff {q : Rat} : 0 < q.num ↔ 0 < q := by
  rw [Rat.lt_iff_le_and_ne, ← Rat.num_nonneg]
  constructor
  · intro h
    exact ⟨by omega, fun e => by rw [← e] at h; exact absurd h (by decide)⟩
  · rintro ⟨h1, h2⟩
    have : q.num ≠ 0 := fun e => h2 (Rat.num_eq_zero.1 e).symm
    omega
theorem sgn_turn (p q : Rat) : (q - p).num.sign = -(p - q).num.sign := by
  rw [← Rat.neg_sub, Rat.neg_num, Int.sign_neg]
theorem sgn_one {p q : Rat} : (p - q).num.sign = 1 ↔ q < p := by
  rw [Int.sign_eq_one_iff_pos, num_pos_iff, ← Rat.lt_iff_sub_pos]
theorem sgn_neg1 {p q : Rat} : (p - q).num.sign = -1 ↔ p < q := by
  rw [← sgn_one (p := q), sgn_turn p q]
  omega
theorem sgn_zero {p q : Rat} : (p - q).num.sign = 0 ↔ p = q := by
  rw [Int.sign_eq_zero_iff_zero, Rat.num_eq_zero]
  constructor
  · intro h
    have := Rat.sub_add_cancel (a := p) (b := q)
    rw [h, Rat.zero_add] at this
    exact this.symm
  · rintro rfl; exact Rat.sub_self
theorem sgn_any (p q : Rat) : (p - q).num.sign = 1 ∨ (p - q).num.sign = 0 ∨ (p - q).num.sign = -1 := by
  rcases Int.lt_trichotomy (p - q).num 0 with h | h | h
  · exact .inr (.inr (Int.sign_eq_neg_one_of_neg h))
  · exact .inr (.inl (by rw [h]; rfl))
  · exact .inl (Int.sign_eq_one_of_pos h)
theorem sgn_trans {p q r : Rat} (h1 : (p - q).num.sign = -1) (h2 : (q - r).num.sign = -1) : (p - r).num.sign = -1 := by
  rw [sgn_neg1] at h1 h2 ⊢
  rw [Rat.lt_iff_le_and_ne]
  refine ⟨Rat.le_trans (Rat.le_of_lt h1) (Rat.le_of_lt h2), ?_⟩
  rintro rfl
  exact Rat.not_le.2 h1 (Rat.le_of_lt h2)
theorem add_sub_add (p q r : Rat) : p + r - (q + r) = p - q := by
  rw [Rat.sub_eq_add_neg, Rat.neg_add, Rat.add_assoc, Rat.add_comm (-q) (-r), ← Rat.add_assoc r, Rat.add_neg_cancel, Rat.zero_add, Rat.sub_eq_add_neg]

end Go.Proofs.Ytlkoenpdmlbhlaa
