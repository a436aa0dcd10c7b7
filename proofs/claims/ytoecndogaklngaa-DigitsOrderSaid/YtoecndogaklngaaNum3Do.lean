import Derived.Test.YtoecndogaklngaaS0Do
import Derived.Test.YtoecndogaklngaaNum2Do
set_option linter.unusedVariables false
set_option linter.unusedSimpArgs false
namespace Go.Proofs.Ytoecndogaklngaa
theorem D_of_hi {a b : List Nat} {i : Nat} (h : hi a i = hi b i) (ha : Dig a) (hb : Dig b) : D a i = D b i := by
 rw [hi_step a i, hi_step b i] at h
 have := ha.at_ i
 have := hb.at_ i
 omega
theorem hi_of_hi {a b : List Nat} {i : Nat} (h : hi a i = hi b i) (ha : Dig a) (hb : Dig b) : hi a (i + 1) = hi b (i + 1) := by
 rw [hi_step a i, hi_step b i] at h
 have := ha.at_ i
 have := hb.at_ i
 omega
theorem digit_fits {x y c z s k : Nat} (hx : x < 18446744073709551616) (hy : y < 18446744073709551616) (hc : c < 18446744073709551616) (hz : z < 18446744073709551616) (h : s + 18446744073709551616 * k = x * y + z + c) : k < 18446744073709551616 := by
 have h1 : x * y ≤ 18446744073709551615 * 18446744073709551615 := Nat.mul_le_mul (by omega) (by omega)
 omega
end Go.Proofs.Ytoecndogaklngaa
