import Derived.Test.YtoecndogaklngaaS0Dn
import Derived.Test.YtoecndogaklngaaRefs1Dn
set_option linter.unusedVariables false
set_option linter.unusedSimpArgs false
namespace Go.Proofs.Ytoecndogaklngaa
open Go.RowKit
set_option maxRecDepth 100000 in
theorem moved_yes (s : Int) (w : World) (h0 : 0 ≤ s) (h1 : s ≤ 16777216) :
 Calls Try.prog 66 #[.int .i64 s] w fun e w' => e = .returned (.bool true) ∧ w = w' := by
 go_enter Try.func66, Try.ntmps66
 go_wp2
 go_ret
 exact ⟨rfl, rfl⟩
end Go.Proofs.Ytoecndogaklngaa
