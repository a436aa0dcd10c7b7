/- plain numbers, further: lengths of sums, products, quotients; comparisons; what a law's lists come to. -/
import Derived.Test.YtdjhgalaianifaaNum4
set_option linter.unusedVariables false
set_option linter.unusedSimpArgs false
namespace Go.Proofs.Ytdjhgalaianifaa

theorem len_mulN {a b p q : Nat} (h1 : (digs a).length ≤ p) (h2 : (digs b).length ≤ q) : (digs (a * b)).length ≤ p + q := by have := digs_len_prod a b; omega
theorem len_addN {a b p : Nat} (h1 : (digs a).length ≤ p) (h2 : (digs b).length ≤ p) : (digs (a + b)).length ≤ p + 1 := by have := digs_len_add a b; omega
theorem len_divN {a b p : Nat} (h1 : (digs a).length ≤ p) : (digs (a / b)).length ≤ p := Nat.le_trans (digs_len_mono (Nat.div_le_self a b)) h1
theorem len_modN {a b p : Nat} (h1 : (digs a).length ≤ p) : (digs (a % b)).length ≤ p := Nat.le_trans (digs_len_mono (Nat.mod_le a b)) h1
theorem len_gcdN {a b p : Nat} (h1 : (digs a).length ≤ p) (h2 : (digs b).length ≤ p) : (digs (Nat.gcd a b)).length ≤ p := by
  by_cases ha : a = 0
  · rw [ha, Nat.gcd_zero_left]; exact h2
  · exact Nat.le_trans (digs_len_mono (Nat.gcd_le_left b (Nat.pos_of_ne_zero ha))) h1
theorem beq_pos {n : Nat} (h : n ≠ 0) : ((n : Int) == 0) = false := beq_eq_false_iff_ne.2 (by omega)
theorem digsN_pos {n : Nat} (h : n ≠ 0) : (digs n).length ≠ 0 := fun e => h (digs_len0.1 e)

end Go.Proofs.Ytdjhgalaianifaa
