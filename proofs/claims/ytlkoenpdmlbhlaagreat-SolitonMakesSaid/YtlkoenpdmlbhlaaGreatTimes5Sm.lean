import Derived.Test.YtlkoenpdmlbhlaaGreatS0Sm
import Derived.Test.YtlkoenpdmlbhlaaGreatA2Sm
import Derived.Test.YtlkoenpdmlbhlaaGreatA5Sm
import Derived.Test.YtlkoenpdmlbhlaaGreatA1Sm
set_option linter.unusedVariables false
set_option linter.unusedSimpArgs false
namespace Go.Proofs.YtlkoenpdmlbhlaaGreat
open Go.RowKit Go.Shelf
attribute [local go_sem] Oper.semAt_some
def num (l : List Bool) : Nat := l.foldl (fun s b => 2 * s + b.toNat) 0
end Go.Proofs.YtlkoenpdmlbhlaaGreat
