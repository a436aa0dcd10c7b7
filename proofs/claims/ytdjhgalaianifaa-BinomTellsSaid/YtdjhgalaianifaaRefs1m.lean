/- the reference of limbs: moved. -/
import Derived.Test.YtdjhgalaianifaaRefs1
set_option linter.unusedVariables false
set_option linter.unusedSimpArgs false
namespace Go.Proofs.Ytdjhgalaianifaa
open Go.RowKit

set_option maxRecDepth 100000 in
theorem moved_yes (s : Int) (w : World) (h0 : 0 ≤ s) (h1 : s ≤ 16777216) :
    Calls Try.prog 96 #[.int .i64 s] w fun e w' => e = .returned (.bool true) ∧ w = w' := by
  go_enter Try.func96, Try.ntmps96
  go_wp2
  go_ret
  exact ⟨rfl, rfl⟩
set_option maxRecDepth 100000 in
theorem moved_no (s : Int) (w : World) (h0 : s < 0 ∨ 16777216 < s) :
    Calls Try.prog 96 #[.int .i64 s] w fun e w' => e = .returned (.bool false) ∧ w = w' := by
  rcases h0 with h0 | h0
  · have t : decide (0 ≤ s) = false := by simp; omega
    go_enter Try.func96, Try.ntmps96
    go_wp2
    go_ret
    exact ⟨rfl, rfl⟩
  · have t : 0 ≤ s := by omega
    have t2 : decide (s ≤ 16777216) = false := by simp; omega
    go_enter Try.func96, Try.ntmps96
    go_wp2
    go_ret
    exact ⟨rfl, rfl⟩

end Go.Proofs.Ytdjhgalaianifaa
