import Derived.Test.YtlkoenpdmlbhlaaGreatS0Sm
import Derived.Test.YtlkoenpdmlbhlaaGreatA9Sm
import Derived.Test.YtlkoenpdmlbhlaaGreatB1Sm
set_option linter.unusedVariables false
set_option linter.unusedSimpArgs false
namespace Go.Proofs.YtlkoenpdmlbhlaaGreat
open Go.RowKit
def fr (x : Int) (d : Nat) (h : d ≠ 0 := by decide) (h2 : x.natAbs.Coprime d := by decide) : Rat := ⟨x, d, h, h2⟩
end Go.Proofs.YtlkoenpdmlbhlaaGreat
