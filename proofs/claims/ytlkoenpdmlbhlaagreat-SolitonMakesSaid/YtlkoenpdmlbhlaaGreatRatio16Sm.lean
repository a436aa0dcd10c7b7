import Derived.Test.YtlkoenpdmlbhlaaGreatS0Sm
import Derived.Test.YtlkoenpdmlbhlaaGreatRatio15Sm
import Derived.Test.YtlkoenpdmlbhlaaGreatB3Sm
import Derived.Test.YtlkoenpdmlbhlaaGreatA9Sm
import Derived.Test.YtlkoenpdmlbhlaaGreatA5Sm
import Derived.Test.YtlkoenpdmlbhlaaGreatA3Sm
import Derived.Test.YtlkoenpdmlbhlaaGreatTimes5Sm
import Derived.Test.YtlkoenpdmlbhlaaGreatRatio11Sm
set_option linter.unusedVariables false
set_option linter.unusedSimpArgs false
namespace Go.Proofs.YtlkoenpdmlbhlaaGreat
open Go.RowKit
theorem rcmp_c {a : Option Addr} {n c : Nat} {l : List Nat} {a2 : Option Addr} {n2 c2 : Nat} {l2 : List Nat} {w : World} (h : NatAt w a n c l) (h2 : NatAt w a2 n2 c2 l2) :
 Calls Tryz.prog 89 #[.slice a n c, .slice a2 n2 c2] w (RetVal w (.int .i64 (cmpI (val l) (val l2)))) :=
 (rcmp_any _ _ _ l _ _ _ l2 w h h2).mono fun e w' ⟨h1, h2⟩ => ⟨h1, h2 ▸ Below.refl _ _⟩
end Go.Proofs.YtlkoenpdmlbhlaaGreat
