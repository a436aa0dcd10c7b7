import Derived.Test.YtlkoenpdmlbhlaaGreatS0Cm
import Derived.Test.YtlkoenpdmlbhlaaGreatSoliPCm
set_option linter.unusedVariables false
set_option linter.unusedSimpArgs false
namespace Go.Proofs.YtlkoenpdmlbhlaaGreat
theorem ch_pos : ∀ {n k : Nat}, k ≤ n → 0 < ch n k
 | n, 0, _ => by rw [ch_zero]; decide
 | 0, k + 1, h => by omega
 | n + 1, k + 1, h => by rw [ch_succ]; have := ch_pos (show k ≤ n by omega); omega
end Go.Proofs.YtlkoenpdmlbhlaaGreat
