import Derived.Test.YtoecndogaklngaaS0Dn
import Derived.Test.YtoecndogaklngaaLimbs2Dn
import Derived.Test.YtoecndogaklngaaRefs1Dn
import Derived.Test.YtoecndogaklngaaNum2Dn
import Derived.Test.YtoecndogaklngaaLen64Dn
set_option linter.unusedVariables false
set_option linter.unusedSimpArgs false
namespace Go.Proofs.Ytoecndogaklngaa
open Go.RowKit
theorem len64_any (x : Nat) (w : World) (h : x < 18446744073709551616) :
 Calls Try.prog 38 #[.int .u64 ((x : Nat) : Int)] w fun e w' => e = .returned (.int .i64 ((nbits x : Nat) : Int)) ∧ w = w' := by
 have := len64_kit x w (by omega) (by omega)
 rw [Int.toNat_natCast, bitLen_nbits h] at this
 exact this.mono fun _ _ ⟨h1, h2⟩ => ⟨h1, h2.symm⟩
end Go.Proofs.Ytoecndogaklngaa
