import Derived.Test.YtmhjhhcdjecdbaaGreatS0Rk
import Derived.Test.YtmhjhhcdjecdbaaGreatA2Rk
import Derived.Test.YtmhjhhcdjecdbaaGreatA5Rk
import Derived.Test.YtmhjhhcdjecdbaaGreatA1Rk
set_option linter.unusedVariables false
set_option linter.unusedSimpArgs false
namespace Go.Proofs.YtmhjhhcdjecdbaaGreat
open Go.RowKit Go.Shelf
attribute [local go_sem] Oper.semAt_some
def num (l : List Bool) : Nat := l.foldl (fun s b => 2 * s + b.toNat) 0
end Go.Proofs.YtmhjhhcdjecdbaaGreat
