import Derived.Test.YtlkoenpdmlbhlaaGreatS0Sm
import Derived.Test.YtlkoenpdmlbhlaaGreatA9Sm
import Derived.Test.YtlkoenpdmlbhlaaGreatLaw05aSm
set_option linter.unusedVariables false
set_option linter.unusedSimpArgs false
namespace Go.Proofs.YtlkoenpdmlbhlaaGreat
theorem natAbs_rnd (q : Rat) : (rndR q).natAbs = rndN q.num.natAbs q.den := natAbs_sg _ _
end Go.Proofs.YtlkoenpdmlbhlaaGreat
