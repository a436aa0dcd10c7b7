import Derived.Test.YtmhjhhcdjecdbaaGreatS0Rk
import Derived.Test.YtmhjhhcdjecdbaaGreatRatio14Rk
set_option linter.unusedVariables false
set_option linter.unusedSimpArgs false
namespace Go.Proofs.YtmhjhhcdjecdbaaGreat
open Go.RowKit
theorem rwhole_one {a : Option Addr} {n c : Nat} {w : World} (g1 : NatAt w a n c (digs 1)) (hs : n ≤ 200000) :
 Calls Tryz.prog 42 #[.slice a n c] w (RetInt w 1) := rwhole05_any 1 a n c w g1 hs
end Go.Proofs.YtmhjhhcdjecdbaaGreat
