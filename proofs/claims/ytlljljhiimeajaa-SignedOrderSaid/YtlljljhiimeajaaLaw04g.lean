/- the laws of signed: SignedOrder. -/
import Derived.Test.YtlljljhiimeajaaLaw04d
import Derived.Test.YtlljljhiimeajaaReg2
import Derived.Test.YtlljljhiimeajaaLaw04g0
import Derived.Test.YtlljljhiimeajaaLaw04g1
import Derived.Test.YtlljljhiimeajaaLaw04g2
import Derived.Test.YtlljljhiimeajaaLaw04g3
import Derived.Test.YtlljljhiimeajaaLaw04g4
import Derived.Test.YtlljljhiimeajaaLaw04g5
set_option linter.unusedVariables false
set_option linter.unusedSimpArgs false
namespace Go.Proofs.Ytlljljhiimeajaa
open Go.RowKit

theorem signedOrder_any (b : Bool) (a : Option Addr) (n c : Nat) (l : List Nat) (b2 : Bool) (a2 : Option Addr) (n2 c2 : Nat) (l2 : List Nat) (b3 : Bool) (a3 : Option Addr) (n3 c3 : Nat) (l3 : List Nat) (w : World) (g1 : NatAt w a n c l) (g2 : NatAt w a2 n2 c2 l2) (g3 : NatAt w a3 n3 c3 l3) :
    Calls Try.prog 12 #[.agg #[.bool b, .slice a n c], .agg #[.bool b2, .slice a2 n2 c2], .agg #[.bool b3, .slice a3 n3 c3]] w (RetVal w (.bool true)) := by
  by_cases q0 : n ≤ 10
  · by_cases q1 : n2 ≤ 10
    · by_cases q2 : n3 ≤ 10
      · rcases Int.lt_trichotomy (sg b (val l)) (sg b2 (val l2)) with o1 | o1 | o1
        · rcases Int.lt_trichotomy (sg b2 (val l2)) (sg b3 (val l3)) with o2 | o2 | o2
          · exact signedOrder0_main _ _ _ _ l _ _ _ _ l2 _ _ _ _ l3 w g1 g2 g3 q0 q1 q2 o1 o2
          · exact signedOrder1_main _ _ _ _ l _ _ _ _ l2 _ _ _ _ l3 w g1 g2 g3 q0 q1 q2 o1 o2
          · exact signedOrder2_main _ _ _ _ l _ _ _ _ l2 _ _ _ _ l3 w g1 g2 g3 q0 q1 q2 o1 o2
        · exact signedOrder3_main _ _ _ _ l _ _ _ _ l2 _ _ _ _ l3 w g1 g2 g3 q0 q1 q2 o1
        · exact signedOrder4_main _ _ _ _ l _ _ _ _ l2 _ _ _ _ l3 w g1 g2 g3 q0 q1 q2 o1
      · exact signedOrder_long3 _ _ _ _ l _ _ _ _ l2 _ _ _ _ l3 w g1 g2 g3 q0 q1 (by omega)
    · exact signedOrder_long2 _ _ _ _ l _ _ _ _ l2 _ _ _ _ l3 w g1 g2 g3 q0 (by omega)
  · exact signedOrder_long1 _ _ _ _ l _ _ _ _ l2 _ _ _ _ l3 w g1 g2 g3 (by omega)

end Go.Proofs.Ytlljljhiimeajaa
