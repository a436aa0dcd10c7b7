import Derived.Test.YtlkoenpdmlbhlaaGreatS0Sm
import Derived.Test.YtlkoenpdmlbhlaaGreatSoli1Sm
import Derived.Test.YtlkoenpdmlbhlaaGreatRat5Sm
set_option linter.unusedVariables false
set_option linter.unusedSimpArgs false
namespace Go.Proofs.YtlkoenpdmlbhlaaGreat
open Go.RowKit
def tabL (W : Nat → Int) (K : Nat) : List Int := (List.range K).map fun i => W (i + 1)
theorem tabL_len (W : Nat → Int) (K : Nat) : (tabL W K).length = K := by simp [tabL]
def upS (g : Nat → Int) : Nat → Int
 | 0 => 0
 | i + 1 => upS g i + g i * ((i + 1 : Nat) : Int)
def sumS (f : Nat → Nat → Rat) (d : Nat) : Nat → Rat
 | 0 => 0
 | i + 1 => sumS f d i + f i d
def shR (k sp : Nat) (m : Rat) (i d : Nat) : Rat := if i = 0 then idealR k d else spikeR sp m d
def wtR (f : Nat → Nat → Rat) (n : Nat) (s : Int) (d : Nat) : Int := rndR (sumS f d n * (mkRat s 1))
theorem sumS_one (k sp : Nat) (m : Rat) (d : Nat) : sumS (shR k sp m) d 1 = idealR k d := Rat.zero_add _
theorem sumS_two (k sp : Nat) (m : Rat) (d : Nat) : sumS (shR k sp m) d 2 = idealR k d + spikeR sp m d := by
 show 0 + idealR k d + spikeR sp m d = _
 rw [Rat.zero_add]
end Go.Proofs.YtlkoenpdmlbhlaaGreat
