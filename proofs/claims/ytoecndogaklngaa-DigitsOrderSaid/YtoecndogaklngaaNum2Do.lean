import Derived.Lib.BitFns
import Derived.Test.YtoecndogaklngaaS0Do
import Derived.Test.YtoecndogaklngaaNumDo
set_option linter.unusedVariables false
set_option linter.unusedSimpArgs false
namespace Go.Proofs.Ytoecndogaklngaa
theorem or_add {a b k : Nat} (h : a < 2 ^ k) : a ||| (2 ^ k * b) = a + 2 ^ k * b := by
 rw [Nat.or_comm, ← Nat.two_pow_add_eq_or_of_lt h, Nat.add_comm]
def nbitsF : Nat → Nat → Nat
 | 0, _ => 0
 | f + 1, n => if n = 0 then 0 else nbitsF f (n / 2) + 1
def nbits (n : Nat) : Nat := nbitsF n n
theorem nbitsF_enough : ∀ (f g n : Nat), n ≤ f → n ≤ g → nbitsF f n = nbitsF g n
 | 0, g, n, h, _ => by
   obtain rfl : n = 0 := by omega
   cases g <;> simp [nbitsF]
 | f + 1, 0, n, _, h => by
   obtain rfl : n = 0 := by omega
   simp [nbitsF]
 | f + 1, g + 1, n, h1, h2 => by
   unfold nbitsF
   by_cases hn : n = 0
   · simp [hn]
   · rw [if_neg hn, if_neg hn, nbitsF_enough f g _ (by omega) (by omega)]
theorem nbits_pos {n : Nat} (h : n ≠ 0) : nbits n = nbits (n / 2) + 1 := by
 unfold nbits
 obtain ⟨m, rfl⟩ : ∃ m, n = m + 1 := ⟨n - 1, by omega⟩
 rw [nbitsF, if_neg h, nbitsF_enough m ((m + 1) / 2) _ (by omega) (by omega)]
theorem nbits_lt (n : Nat) : n < 2 ^ nbits n := by
 induction n using Nat.strongRecOn with
 | _ n ih =>
   by_cases h : n = 0
   · subst h; decide
   · rw [nbits_pos h, Nat.pow_succ]
     have := ih (n / 2) (by omega)
     omega
theorem nbits_le {n k : Nat} (h : n < 2 ^ k) : nbits n ≤ k := by
 induction k generalizing n with
 | zero =>
   obtain rfl : n = 0 := by rw [Nat.pow_zero] at h; omega
   exact Nat.le_refl _
 | succ k ih =>
   by_cases h0 : n = 0
   · subst h0; exact Nat.zero_le _
   · rw [nbits_pos h0]
     rw [Nat.pow_succ] at h
     have := ih (n := n / 2) (by omega)
     omega
theorem nbits_gt {n k : Nat} (h : 2 ^ k ≤ n) : k < nbits n := by
 rcases Nat.lt_or_ge k (nbits n) with h' | h'
 · exact h'
 · have h1 := nbits_lt n
   have h2 := Nat.pow_le_pow_right (n := 2) (by decide) h'
   omega
theorem nbits_low {n : Nat} (h : n ≠ 0) : 2 ^ (nbits n - 1) ≤ n := by
 rcases Nat.lt_or_ge n (2 ^ (nbits n - 1)) with h' | h'
 · have h1 := nbits_le h'
   have h2 := nbits_pos h
   omega
 · exact h'
theorem nbits_eq {n k : Nat} (h1 : 2 ^ k ≤ n) (h2 : n < 2 ^ (k + 1)) : nbits n = k + 1 := by
 have := nbits_gt h1
 have := nbits_le h2
 omega
theorem nbits_top {l : List Nat} (hd : Dig l) {m : Nat} (hl : l.length = m + 1) (ht : D l m ≠ 0) : nbits (val l) = 64 * m + nbits (D l m) := by
 have h1 := lo_hi l m
 have h2 := lo_lt hd m
 have h3 : hi l m = D l m := by rw [hi_step, hi_all (by omega)]; rfl
 rw [h3] at h1
 have e : 18446744073709551616 ^ m = 2 ^ (64 * m) := by rw [Nat.pow_mul]
 rw [e] at h1 h2
 have h4 := nbits_low ht
 have h5 := nbits_lt (D l m)
 have h6 := nbits_pos ht
 have h7 := nbits_eq (n := val l) (k := 64 * m + (nbits (D l m) - 1))
  (by rw [Nat.pow_add, h1]; exact Nat.le_trans (Nat.mul_le_mul_left _ h4) (Nat.le_add_left _ _))
  (by
    rw [show 64 * m + (nbits (D l m) - 1) + 1 = 64 * m + nbits (D l m) by omega, Nat.pow_add, h1]
    have h8 := Nat.mul_le_mul_left (2 ^ (64 * m)) (show D l m + 1 ≤ 2 ^ nbits (D l m) from h5)
    rw [Nat.mul_add, Nat.mul_one] at h8
    omega)
 omega
theorem bitLenAux_nbits : ∀ (f x : Nat), x < 2 ^ f → Lib.bitLenAux f x = nbits x
 | 0, x, h => by
   obtain rfl : x = 0 := by rw [Nat.pow_zero] at h; omega
   rfl
 | f + 1, x, h => by
   unfold Lib.bitLenAux
   by_cases h0 : x = 0
   · subst h0; rfl
   · rw [if_neg h0, nbits_pos h0, bitLenAux_nbits f (x / 2) (by rw [Nat.pow_succ] at h; omega)]
     omega
theorem bitLen_nbits {x : Nat} (h : x < 18446744073709551616) : Lib.bitLen x = nbits x := bitLenAux_nbits 64 x h
end Go.Proofs.Ytoecndogaklngaa
