import Derived.Test.YtoecndogaklngaaGreatDoorS0Df
import Derived.Test.YtoecndogaklngaaGreatDoorLimbs1Df
import Derived.Test.YtoecndogaklngaaGreatDoorRefs1Df
import Derived.Test.YtoecndogaklngaaGreatDoorNumDf
import Derived.Test.YtoecndogaklngaaGreatDoorLen64Df
set_option linter.unusedVariables false
set_option linter.unusedSimpArgs false
namespace Go.Proofs.YtoecndogaklngaaGreatDoor
open Go.RowKit
theorem len64_any (x : Nat) (w : World) (h : x < 18446744073709551616) :
 Calls Tryz.prog 98 #[.int .u64 ((x : Nat) : Int)] w fun e w' => e = .returned (.int .i64 ((nbits x : Nat) : Int)) ∧ w = w' := by
 have := len64_kit x w (by omega) (by omega)
 rw [Int.toNat_natCast, bitLen_nbits h] at this
 exact this.mono fun _ _ ⟨h1, h2⟩ => ⟨h1, h2.symm⟩
end Go.Proofs.YtoecndogaklngaaGreatDoor
