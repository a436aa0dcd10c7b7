/- the reference of limbs, sixth part: Up. -/
import Derived.Test.YtdjhgalaianifaaRefs1m
import Derived.Test.YtdjhgalaianifaaRefs2
import Derived.Test.YtdjhgalaianifaaNum2
set_option linter.unusedVariables false
set_option linter.unusedSimpArgs false
namespace Go.Proofs.Ytdjhgalaianifaa
open Go.RowKit

theorem rup_bits {x z r : Nat} (hz : z < 18446744073709551616) (hr : r ≤ 63) :
    bits .or .u64 (IntKind.u64.wrap ((x : Int) * 2 ^ r)) ((z : Int) / 2 ^ (64 - r)) = ((z / 2 ^ (64 - r) + x * 2 ^ r % 18446744073709551616 : Nat) : Int) := by
  have e1 : (z : Int) / 2 ^ (64 - r) = ((z / 2 ^ (64 - r) : Nat) : Int) := by rw [Int.natCast_ediv, Int.natCast_pow]; rfl
  have e2 : IntKind.u64.wrap ((x : Int) * 2 ^ r) = ((x * 2 ^ r % 18446744073709551616 : Nat) : Int) := by
    rw [IntKind.wrap_u64]
    simp only [Int.natCast_emod, Int.natCast_mul, Int.natCast_pow]
    rfl
  rw [e1, e2, u64_or_nat _ _ (Nat.mod_lt _ (by decide)) (Nat.lt_of_le_of_lt (Nat.div_le_self _ _) hz), rup_or hr hz]

end Go.Proofs.Ytdjhgalaianifaa
