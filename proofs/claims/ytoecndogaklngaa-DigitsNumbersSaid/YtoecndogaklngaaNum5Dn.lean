import Derived.Test.YtoecndogaklngaaS0Dn
import Derived.Test.YtoecndogaklngaaNum4Dn
import Derived.Test.YtoecndogaklngaaRefs1Dn
set_option linter.unusedVariables false
set_option linter.unusedSimpArgs false
namespace Go.Proofs.Ytoecndogaklngaa
theorem beq_pos {n : Nat} (h : n ≠ 0) : ((n : Int) == 0) = false := beq_eq_false_iff_ne.2 (by omega)
theorem digsN_pos {n : Nat} (h : n ≠ 0) : (digs n).length ≠ 0 := fun e => h (digs_len0.1 e)
end Go.Proofs.Ytoecndogaklngaa
set_option linter.unusedVariables false
set_option linter.unusedSimpArgs false
namespace Go.Proofs.Ytoecndogaklngaa
theorem bit_div {A B i R : Nat} (hB : 0 < B) (hR : R = 2 * (A / 2 ^ (i + 1) % B) + A / 2 ^ i % 2) :
 R < 2 * B ∧ (R < B → A / 2 ^ i % B = R ∧ A / 2 ^ i / B = 2 * (A / 2 ^ (i + 1) / B)) ∧ (B ≤ R → A / 2 ^ i % B = R - B ∧ A / 2 ^ i / B = 2 * (A / 2 ^ (i + 1) / B) + 1) := by
 have e : A / 2 ^ (i + 1) = A / 2 ^ i / 2 := by rw [Nat.pow_succ, Nat.div_div_eq_div_mul]
 rw [e] at hR ⊢
 generalize A / 2 ^ i = X at *
 have h1 := Nat.div_add_mod (X / 2) B
 have h2 := Nat.mod_lt (X / 2) hB
 generalize X / 2 / B = Q at *
 generalize hr : X / 2 % B = r at *
 have hX : X = B * (2 * Q) + R := by
  have : B * (2 * Q) = 2 * (B * Q) := by rw [← Nat.mul_assoc, Nat.mul_comm B 2, Nat.mul_assoc]
  omega
 refine ⟨by omega, fun h => ?_, fun h => ?_⟩
 · rw [hX, Nat.mul_add_mod, Nat.mul_add_div hB, Nat.mod_eq_of_lt h, Nat.div_eq_of_lt h]
   exact ⟨rfl, rfl⟩
 · obtain ⟨S, rfl⟩ : ∃ S, R = B + S := ⟨R - B, by omega⟩
   have hS : S < B := by omega
   rw [hX, ← Nat.add_assoc, show B * (2 * Q) + B = B * (2 * Q + 1) by rw [Nat.mul_add, Nat.mul_one], Nat.mul_add_mod, Nat.mul_add_div hB, Nat.mod_eq_of_lt hS, Nat.div_eq_of_lt hS]
   exact ⟨by omega, rfl⟩
theorem div_begin {A B : Nat} (hB : 0 < B) (h : nbits B ≤ nbits A) : A / 2 ^ (nbits A - nbits B + 1) < B := by
 have h1 := nbits_lt A
 have h2 := nbits_low (n := B) (by omega)
 have h3 : 0 < nbits B := nbits_gt (by rw [Nat.pow_zero]; exact hB)
 refine Nat.lt_of_lt_of_le ?_ h2
 rw [Nat.div_lt_iff_lt_mul (Nat.pow_pos (by decide)), ← Nat.pow_add, show nbits B - 1 + (nbits A - nbits B + 1) = nbits A by omega]
 exact h1
theorem or_free {x r : Nat} (hr : r ≤ 63) (h : x % 2 ^ (r + 1) = 0) (hx : x < 18446744073709551616) : x ||| 2 ^ r = x + 2 ^ r ∧ x + 2 ^ r < 18446744073709551616 := by
 obtain ⟨k, rfl⟩ := Nat.dvd_of_mod_eq_zero h
 have e := Nat.two_pow_add_eq_or_of_lt (i := r + 1) (b := 2 ^ r) (Nat.pow_lt_pow_right (by decide) (Nat.lt_succ_self r)) k
 refine ⟨e.symm, ?_⟩
 obtain ⟨j, hj⟩ : ∃ j, r + 1 + j = 64 := ⟨63 - r, by omega⟩
 have hp : (18446744073709551616 : Nat) = 2 ^ (r + 1) * 2 ^ j := by rw [← Nat.pow_add, hj]
 rw [hp] at hx ⊢
 have hkj : k < 2 ^ j := Nat.lt_of_mul_lt_mul_left hx
 have : 2 ^ (r + 1) * (k + 1) ≤ 2 ^ (r + 1) * 2 ^ j := Nat.mul_le_mul_left _ hkj
 have h1 : 2 ^ r < 2 ^ (r + 1) := Nat.pow_lt_pow_right (by decide) (Nat.lt_succ_self r)
 rw [Nat.mul_add, Nat.mul_one] at this
 omega
theorem low_digit {l : List Nat} (hd : Dig l) {M q r : Nat} (hr : r ≤ 63) (h : val l = M * 2 ^ (64 * q + r + 1)) : D l q % 2 ^ (r + 1) = 0 := by
 have h1 := hi_div l hd q
 have e : (2 : Nat) ^ (64 * q + r + 1) = 18446744073709551616 ^ q * 2 ^ (r + 1) := by rw [Nat.add_assoc, Nat.pow_add, Nat.pow_mul]
 rw [h, e, ← Nat.mul_assoc, Nat.mul_comm M, Nat.mul_assoc, Nat.mul_div_cancel_left _ (Nat.pow_pos (by decide)), hi_step] at h1
 obtain ⟨k, hk⟩ : ∃ k, r + 1 + k = 64 := ⟨63 - r, by omega⟩
 have e2 : (18446744073709551616 : Nat) = 2 ^ (r + 1) * 2 ^ k := by rw [← Nat.pow_add, hk]
 rw [e2, Nat.mul_assoc] at h1
 have h2 := congrArg (· % 2 ^ (r + 1)) h1
 simp only [Nat.add_mul_mod_self_left, Nat.mul_mod_left] at h2
 exact h2
theorem val_set {l : List Nat} {k d e : Nat} (h : k < l.length) (hd : d = D l k + e) : val (l.set k d) = val l + 18446744073709551616 ^ k * e := by
 subst hd
 have hh : hi (l.set k (D l k + e)) (k + 1) = hi l (k + 1) := hi_set (Nat.lt_succ_self k)
 have e1 := lo_hi (l.set k (D l k + e)) (k + 1)
 have e2 := lo_hi l (k + 1)
 rw [hh, lo_step, lo_set (Nat.le_refl _), D_set_same h, Nat.mul_add] at e1
 rw [lo_step] at e2
 omega
end Go.Proofs.Ytoecndogaklngaa
set_option linter.unusedVariables false
set_option linter.unusedSimpArgs false
namespace Go.Proofs.Ytoecndogaklngaa
open Go.RowKit
theorem grown_row {E : Nat} {w w1 : World} {B n : Nat} {a a' : Option Addr} {c c' : Nat} {l : List Nat} {x : Nat} (o : Obj) (hB : Below B w w1) (hle : B ≤ w1.heap.size) (hrow : w1.ownsRow B E 1 (.slice a n c) n (dv l)) {w2 : World}
 (hown : w2.ownsRow B E 1 (.slice a' (n + 1) c') (n + 1) (dv l ++ dv [x])) (hgrow : (w1.alloc o).grownBy w2 (Value.slice a n c).ownBlock) :
 w2.ownsRow B E 1 (.slice a' (n + 1) c') (n + 1) (dv (l ++ [x])) ∧ Below B w w2 :=
 ⟨by rw [dv_append]; exact hown, (hB.alloc hle o).grown hgrow (by simp; omega) (fun k hk => (hrow.lt k hk).1)⟩
end Go.Proofs.Ytoecndogaklngaa
