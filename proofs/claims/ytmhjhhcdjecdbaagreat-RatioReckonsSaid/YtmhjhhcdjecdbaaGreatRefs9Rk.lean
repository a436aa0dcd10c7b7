import Derived.Test.YtmhjhhcdjecdbaaGreatS0Rk
import Derived.Test.YtmhjhhcdjecdbaaGreatA5Rk
import Derived.Test.YtmhjhhcdjecdbaaGreatA3Rk
import Derived.Test.YtmhjhhcdjecdbaaGreatTimes5Rk
set_option linter.unusedVariables false
set_option linter.unusedSimpArgs false
namespace Go.Proofs.YtmhjhhcdjecdbaaGreat
open Go.RowKit
theorem and_pow (e j : Nat) (he : e ≤ 65536) (hj : j ≤ 16) : bits .and .i64 (e : Int) ((2 ^ j : Nat) : Int) = ((e / 2 ^ j % 2 * 2 ^ j : Nat) : Int) := by
 have hp : 2 ^ j ≤ 65536 := Nat.pow_le_pow_right (n := 2) (by decide) hj
 have h1 : (BitVec.ofInt 64 ((2 ^ j : Nat) : Int)).toNat = 2 ^ j := by
  rw [BitVec.ofInt_natCast, BitVec.toNat_ofNat]; exact Nat.mod_eq_of_lt (by omega)
 have h2 : (BitVec.ofInt 64 (e : Int)).toNat = e := by
  rw [BitVec.ofInt_natCast, BitVec.toNat_ofNat]; exact Nat.mod_eq_of_lt (by omega)
 have h3 : e &&& 2 ^ j = e / 2 ^ j % 2 * 2 ^ j := by
  by_cases h : e / 2 ^ j % 2 = 1
  · have hb : e.testBit j = true := by rw [Nat.testBit_eq_decide_div_mod_eq]; simp [h]
    rw [h, Nat.one_mul]
    refine Nat.eq_of_testBit_eq fun i => ?_
    rw [Nat.testBit_and, Nat.testBit_two_pow]
    by_cases hi : j = i
    · subst hi; simp [hb]
    · simp [hi]
  · have h0 : e / 2 ^ j % 2 = 0 := by omega
    have hb : e.testBit j = false := by rw [Nat.testBit_eq_decide_div_mod_eq]; simp [h0]
    rw [h0, Nat.zero_mul]
    refine Nat.eq_of_testBit_eq fun i => ?_
    rw [Nat.testBit_and, Nat.testBit_two_pow, Nat.zero_testBit]
    by_cases hi : j = i
    · subst hi; simp [hb]
    · simp [hi]
 have h4 : e / 2 ^ j % 2 * 2 ^ j ≤ 65536 := by
  have : e / 2 ^ j % 2 * 2 ^ j ≤ 1 * 2 ^ j := Nat.mul_le_mul_right _ (by omega)
  omega
 show IntKind.i64.wrap ((BitVec.ofInt 64 (e : Int) &&& BitVec.ofInt 64 ((2 ^ j : Nat) : Int)).toNat : Nat) = _
 rw [BitVec.toNat_and, h1, h2, h3, IntKind.wrap_i64]
 omega
end Go.Proofs.YtmhjhhcdjecdbaaGreat
