import Derived.Test.YtoecndogaklngaaS0Do
import Derived.Test.YtoecndogaklngaaNum3Do
set_option linter.unusedVariables false
namespace Go.Proofs.Ytoecndogaklngaa
structure Guess (h l u d0 d1 q r : Nat) : Prop where
 eq : q * d1 + r = h
 le : q ≤ 4294967297
 ge : (h * 4294967296 + u) / (d1 * 4294967296 + d0) ≤ q
 lt : r < 4294967296
theorem guess_pre {h u d0 d1 : Nat} (hd1 : 2147483648 ≤ d1) (hd1' : d1 < 4294967296) (hd0 : d0 < 4294967296) (hu : u < 4294967296) (hh : h < d1 * 4294967296 + d0) :
 (h * 4294967296 + u) / (d1 * 4294967296 + d0) < 4294967296 := by
 rw [Nat.div_lt_iff_lt_mul (by omega)]
 rw [Nat.mul_comm 4294967296]
 have : (h + 1) * 4294967296 ≤ (d1 * 4294967296 + d0) * 4294967296 := Nat.mul_le_mul_right _ hh
 omega
theorem guess_start {h u d0 d1 : Nat} (hd1 : 2147483648 ≤ d1) (hd1' : d1 < 4294967296) (hd0 : d0 < 4294967296) (hu : u < 4294967296) (hh : h < d1 * 4294967296 + d0) : Guess h 0 u d0 d1 (h / d1) (h % d1) := by
 refine ⟨Nat.div_add_mod' h d1, ?_, ?_, by have := Nat.mod_lt h (show 0 < d1 by omega); omega⟩
 · have : h / d1 < 4294967298 := by
    rw [Nat.div_lt_iff_lt_mul (by omega)]
    omega
   omega
 · rw [Nat.le_div_iff_mul_le (by omega)]
   have h1 := Nat.div_mul_le_self (h * 4294967296 + u) (d1 * 4294967296 + d0)
   generalize (h * 4294967296 + u) / (d1 * 4294967296 + d0) = q at *
   rw [Nat.mul_add, ← Nat.mul_assoc] at h1
   omega
theorem guess_down {h u d0 d1 q r : Nat} (g : Guess h 0 u d0 d1 q r) (hd1 : 2147483648 ≤ d1) (hd1' : d1 < 4294967296) (hd0 : d0 < 4294967296) (hu : u < 4294967296) (hh : h < d1 * 4294967296 + d0)
 (hc : 4294967296 ≤ q ∨ 4294967296 * r + u < q * d0) : 0 < q ∧ (q - 1) * d1 + (r + d1) = h ∧ q - 1 ≤ 4294967296 ∧ (h * 4294967296 + u) / (d1 * 4294967296 + d0) ≤ q - 1 := by
 have hlt := guess_pre hd1 hd1' hd0 hu hh
 have hq : (h * 4294967296 + u) / (d1 * 4294967296 + d0) < q := by
  rcases hc with hc | hc
  · omega
  · rw [Nat.div_lt_iff_lt_mul (by omega), Nat.mul_add, ← Nat.mul_assoc, ← g.eq]
    omega
 have hp : 0 < q := Nat.lt_of_le_of_lt (Nat.zero_le _) hq
 refine ⟨hp, ?_, by have := g.le; omega, Nat.le_sub_one_of_lt hq⟩
 obtain ⟨k, rfl⟩ : ∃ k, q = k + 1 := ⟨q - 1, by omega⟩
 have := g.eq
 rw [Nat.add_mul, Nat.one_mul] at this
 rw [Nat.add_sub_cancel]
 omega
theorem guess_next {h u d0 d1 q r : Nat} (g : Guess h 0 u d0 d1 q r) (hd1 : 2147483648 ≤ d1) (hd1' : d1 < 4294967296) (hd0 : d0 < 4294967296) (hu : u < 4294967296) (hh : h < d1 * 4294967296 + d0)
 (hc : 4294967296 ≤ q ∨ 4294967296 * r + u < q * d0) (hr : r + d1 < 4294967296) : Guess h 0 u d0 d1 (q - 1) (r + d1) := by
 obtain ⟨h1, h2, h3, h4⟩ := guess_down g hd1 hd1' hd0 hu hh hc
 exact ⟨h2, by omega, h4, hr⟩
theorem guess_end {h u d0 d1 q r : Nat} (g : Guess h 0 u d0 d1 q r) (hd1 : 2147483648 ≤ d1) (hc : q * d0 ≤ 4294967296 * r + u) : q = (h * 4294967296 + u) / (d1 * 4294967296 + d0) := by
 refine Nat.le_antisymm ?_ g.ge
 rw [Nat.le_div_iff_mul_le (by omega), Nat.mul_add, ← Nat.mul_assoc, ← g.eq]
 omega
theorem guess_stop {h u d0 d1 q r : Nat} (g : Guess h 0 u d0 d1 q r) (hd1 : 2147483648 ≤ d1) (hd1' : d1 < 4294967296) (hd0 : d0 < 4294967296) (hu : u < 4294967296) (hh : h < d1 * 4294967296 + d0)
 (hc : 4294967296 ≤ q ∨ 4294967296 * r + u < q * d0) (hr : 4294967296 ≤ r + d1) : q - 1 = (h * 4294967296 + u) / (d1 * 4294967296 + d0) := by
 obtain ⟨h1, h2, h3, h4⟩ := guess_down g hd1 hd1' hd0 hu hh hc
 refine Nat.le_antisymm ?_ h4
 rw [Nat.le_div_iff_mul_le (by omega), Nat.mul_add, ← Nat.mul_assoc, ← h2]
 have : (q - 1) * d0 ≤ 4294967296 * 4294967296 := Nat.mul_le_mul h3 (by omega)
 omega
theorem div_part {v B u0 y : Nat} (hy : 0 < y) : (v * B + u0) / y = v / y * B + (v % y * B + u0) / y ∧ (v * B + u0) % y = (v % y * B + u0) % y := by
 have e : v * B + u0 = (v % y * B + u0) + y * (v / y * B) := by
  have := Nat.div_add_mod v y
  have e2 : v * B = (y * (v / y) + v % y) * B := by rw [this]
  rw [e2, Nat.add_mul, Nat.mul_assoc]
  omega
 refine ⟨?_, ?_⟩
 · rw [e, Nat.add_mul_div_left _ _ hy]; omega
 · rw [e]; exact Nat.add_mul_mod_self_left _ _ _
theorem div_halves {h u1 u0 y : Nat} (hy : 0 < y) :
 ((h * 4294967296 + u1) * 4294967296 + u0) / y = (h * 4294967296 + u1) / y * 4294967296 + ((h * 4294967296 + u1) % y * 4294967296 + u0) / y ∧
 ((h * 4294967296 + u1) * 4294967296 + u0) % y = ((h * 4294967296 + u1) % y * 4294967296 + u0) % y := div_part hy
theorem div_moved {n y s : Nat} (hy : 0 < y) : n * 2 ^ s / (y * 2 ^ s) = n / y ∧ n * 2 ^ s % (y * 2 ^ s) / 2 ^ s = n % y := by
 have hs : 0 < 2 ^ s := Nat.pow_pos (by decide)
 exact ⟨Nat.mul_div_mul_right _ _ hs, by rw [Nat.mul_mod_mul_right, Nat.mul_div_cancel _ hs]⟩
end Go.Proofs.Ytoecndogaklngaa
