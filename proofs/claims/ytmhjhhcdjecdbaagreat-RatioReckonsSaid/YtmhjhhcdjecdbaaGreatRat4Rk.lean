import Derived.Test.YtmhjhhcdjecdbaaGreatS0Rk
import Derived.Test.YtmhjhhcdjecdbaaGreatA9Rk
set_option linter.unusedVariables false
set_option linter.unusedSimpArgs false
namespace Go.Proofs.YtmhjhhcdjecdbaaGreat
theorem num_pos_iff {q : Rat} : 0 < q.num ↔ 0 < q := by
 rw [Rat.lt_iff_le_and_ne, ← Rat.num_nonneg]
 constructor
 · intro h
   exact ⟨by omega, fun e => by rw [← e] at h; exact absurd h (by decide)⟩
 · rintro ⟨h1, h2⟩
   have : q.num ≠ 0 := fun e => h2 (Rat.num_eq_zero.1 e).symm
   omega
theorem sgn_turn (p q : Rat) : (q - p).num.sign = -(p - q).num.sign := by
 rw [← Rat.neg_sub, Rat.neg_num, Int.sign_neg]
theorem sgn_one {p q : Rat} : (p - q).num.sign = 1 ↔ q < p := by
 rw [Int.sign_eq_one_iff_pos, num_pos_iff, ← Rat.lt_iff_sub_pos]
theorem sgn_neg1 {p q : Rat} : (p - q).num.sign = -1 ↔ p < q := by
 rw [← sgn_one (p := q), sgn_turn p q]
 omega
theorem sgn_zero {p q : Rat} : (p - q).num.sign = 0 ↔ p = q := by
 rw [Int.sign_eq_zero_iff_zero, Rat.num_eq_zero]
 constructor
 · intro h
   have := Rat.sub_add_cancel (a := p) (b := q)
   rw [h, Rat.zero_add] at this
   exact this.symm
 · rintro rfl; exact Rat.sub_self
end Go.Proofs.YtmhjhhcdjecdbaaGreat
