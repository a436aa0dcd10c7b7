/- plain numbers: binomials and falling products. -/
import Derived.Test.YtlkoenpdmlbhlaaA1
set_option linter.unusedVariables false
set_option linter.unusedSimpArgs false
namespace Go.Proofs.Ytlkoenpdmlbhlaa

/-- in how many ways k of n are chosen: by Pascal's triangle -/
def ch : Nat → Nat → Nat
  | _, 0 => 1
  | 0, _ + 1 => 0
  | n + 1, k + 1 => ch n k + ch n (k + 1)
theorem ch_zero (n : Nat) : ch n 0 = 1 := by cases n <;> rfl
theorem ch_succ (n k : Nat) : ch (n + 1) (k + 1) = ch n k + ch n (k + 1) := rfl
theorem ch_gt : ∀ {n k : Nat}, n < k → ch n k = 0
  | _, 0, h => by omega
  | 0, _ + 1, _ => rfl
  | n + 1, k + 1, h => by rw [ch_succ, ch_gt (show n < k by omega), ch_gt (show n < k + 1 by omega)]
theorem ch_self : ∀ n : Nat, ch n n = 1
  | 0 => rfl
  | n + 1 => by rw [ch_succ, ch_self n, ch_gt (Nat.lt_succ_self n)]
theorem ch_absorb : ∀ n k : Nat, (k + 1) * ch (n + 1) (k + 1) = (n + 1) * ch n k := by
  intro n
  induction n with
  | zero =>
    intro k
    cases k with
    | zero => rfl
    | succ k => rw [ch_succ, ch_gt (show 0 < k + 1 by omega), ch_gt (show 0 < k + 1 + 1 by omega)]; simp
  | succ n ih =>
    intro k
    cases k with
    | zero =>
      have h := ih 0
      rw [ch_zero] at h
      rw [ch_succ, ch_zero]
      omega
    | succ k =>
      have h1 := ih (k + 1)
      have h2 := ih k
      rw [ch_succ (n + 1) (k + 1), Nat.mul_add, h1, ch_succ n k, Nat.mul_add]
      have e1 : (k + 1 + 1) * ch (n + 1) (k + 1) = (k + 1) * ch (n + 1) (k + 1) + ch (n + 1) (k + 1) := Nat.succ_mul _ _
      rw [ch_succ n k] at e1 h2
      have e2 : (n + 1 + 1) * ch n k = (n + 1) * ch n k + ch n k := Nat.succ_mul _ _
      have e3 : (n + 1 + 1) * ch n (k + 1) = (n + 1) * ch n (k + 1) + ch n (k + 1) := Nat.succ_mul _ _
      rw [← Nat.mul_add, e1, Nat.mul_add (n + 1 + 1), e2, e3]
      omega
theorem ch_step {n k : Nat} (h : k ≤ n) : ch n k * (n - k) = ch n (k + 1) * (k + 1) := by
  have h1 := ch_absorb n k
  rw [ch_succ, Nat.mul_add] at h1
  obtain ⟨m, rfl⟩ : ∃ m, n = k + m := ⟨n - k, by omega⟩
  rw [show k + m - k = m by omega, Nat.mul_comm _ m, Nat.mul_comm _ (k + 1)]
  have e := Nat.add_mul (k + 1) m (ch (k + m) k)
  rw [show k + m + 1 = (k + 1) + m by omega, e] at h1
  omega
theorem ch_symm_add : ∀ s a b : Nat, a + b = s → ch s a = ch s b := by
  intro s
  induction s with
  | zero => intro a b h; rw [show a = 0 by omega, show b = 0 by omega]
  | succ s ih =>
    intro a b h
    cases a with
    | zero => rw [show b = s + 1 by omega, ch_zero, ch_self]
    | succ a =>
      cases b with
      | zero => rw [show a = s by omega, ch_zero, ch_self]
      | succ b =>
        rw [ch_succ, ch_succ, ih a (b + 1) (by omega), ih (a + 1) b (by omega), Nat.add_comm]
theorem ch_symm {n k : Nat} (h : k ≤ n) : ch n k = ch n (n - k) := ch_symm_add n k (n - k) (by omega)
theorem ch_len {n : Nat} (hn : n < 18446744073709551616) : ∀ k, (digs (ch n k)).length ≤ k + 1
  | 0 => by rw [ch_zero]; exact digs_length_le.2 (by decide)
  | k + 1 => by
    by_cases h : k ≤ n
    · have h1 := ch_len hn k
      have h2 := ch_step h
      have h3 : ch n (k + 1) ≤ ch n k * (n - k) := by rw [h2]; exact Nat.le_mul_of_pos_right _ (Nat.succ_pos k)
      exact Nat.le_trans (digs_len_mono h3) (len_mulN h1 (digs_length_le.2 (by rw [Nat.pow_one]; omega)))
    · rw [ch_gt (by omega)]; exact Nat.zero_le _

/-- k numbers from n on, downward, multiplied -/
def fall (n : Nat) : Nat → Nat
  | 0 => 1
  | k + 1 => fall n k * (n - k)
theorem fall_gt {n k : Nat} (h : n < k) : fall n k = 0 := by
  induction k with
  | zero => omega
  | succ k ih =>
    rw [fall]
    by_cases e : n = k
    · subst e; rw [Nat.sub_self, Nat.mul_zero]
    · rw [ih (by omega), Nat.zero_mul]
theorem fall_min (n k : Nat) : fall n (min k (n + 1)) = fall n k := by
  by_cases h : k ≤ n + 1
  · rw [Nat.min_eq_left h]
  · rw [Nat.min_eq_right (by omega), fall_gt (by omega), fall_gt (by omega)]
theorem fall_len {n : Nat} (hn : n < 18446744073709551616) : ∀ k, (digs (fall n k)).length ≤ k + 1
  | 0 => show (digs 1).length ≤ 1 from digs_length_le.2 (by decide)
  | k + 1 => len_mulN (fall_len hn k) (digs_length_le.2 (by rw [Nat.pow_one]; omega))

end Go.Proofs.Ytlkoenpdmlbhlaa
