import Derived.Lib.BitFns
import Derived.Test.YtoecndogaklngaaS0Dn
import Derived.Test.YtoecndogaklngaaNumDn
set_option linter.unusedVariables false
set_option linter.unusedSimpArgs false
namespace Go.Proofs.Ytoecndogaklngaa
theorem B_split {r : Nat} (hr : r ≤ 64) : 18446744073709551616 = 2 ^ (64 - r) * 2 ^ r := by
 rw [← Nat.pow_add, Nat.sub_add_cancel hr]
theorem or_add {a b k : Nat} (h : a < 2 ^ k) : a ||| (2 ^ k * b) = a + 2 ^ k * b := by
 rw [Nat.or_comm, ← Nat.two_pow_add_eq_or_of_lt h, Nat.add_comm]
theorem mod_mul_mod' (a c m : Nat) : a % m * c % m = a * c % m := by
 rw [Nat.mul_mod, Nat.mod_mod, ← Nat.mul_mod]
theorem shl_two {y r : Nat} (hr : r ≤ 63) : y * 2 % 18446744073709551616 * 2 ^ (63 - r) % 18446744073709551616 = 2 ^ (64 - r) * (y % 2 ^ r) := by
 rw [mod_mul_mod', Nat.mul_assoc, show 2 * 2 ^ (63 - r) = 2 ^ (64 - r) by rw [show 64 - r = (63 - r) + 1 by omega, Nat.pow_succ, Nat.mul_comm]]
 rw [Nat.mul_comm y]
 conv => lhs; rhs; rw [B_split (show r ≤ 64 by omega)]
 rw [Nat.mul_mod_mul_left]
theorem shr_or {x y r : Nat} (hx : x < 18446744073709551616) (hr : r ≤ 63) :
 (x / 2 ^ r) ||| (y * 2 % 18446744073709551616 * 2 ^ (63 - r) % 18446744073709551616) = (x + 18446744073709551616 * y) / 2 ^ r % 18446744073709551616 := by
 have hp : 0 < 2 ^ r := Nat.pow_pos (by decide)
 have h1 : x / 2 ^ r < 2 ^ (64 - r) := by
  rw [Nat.div_lt_iff_lt_mul hp, ← B_split (show r ≤ 64 by omega)]; exact hx
 rw [shl_two hr, or_add h1]
 have h2 : (x + 18446744073709551616 * y) / 2 ^ r = x / 2 ^ r + 2 ^ (64 - r) * y := by
  conv => lhs; lhs; rw [B_split (show r ≤ 64 by omega)]
  rw [Nat.mul_comm (2 ^ (64 - r)) (2 ^ r), Nat.mul_assoc, Nat.add_mul_div_left _ _ hp]
 rw [h2]
 have h3 : (x / 2 ^ r + 2 ^ (64 - r) * y) = (x / 2 ^ r + 2 ^ (64 - r) * (y % 2 ^ r)) + 18446744073709551616 * (y / 2 ^ r) := by
  conv => rhs; rhs; rw [B_split (show r ≤ 64 by omega)]
  rw [Nat.mul_assoc, Nat.add_assoc, ← Nat.mul_add, Nat.mod_add_div]
 have h4 : y % 2 ^ r + 1 ≤ 2 ^ r := Nat.mod_lt _ hp
 have h5 := Nat.mul_le_mul_left (2 ^ (64 - r)) h4
 rw [← B_split (show r ≤ 64 by omega), Nat.mul_add, Nat.mul_one] at h5
 have h6 : x / 2 ^ r + 2 ^ (64 - r) * (y % 2 ^ r) < 18446744073709551616 := by
  clear h2 h3
  generalize x / 2 ^ r = X at *
  generalize 2 ^ (64 - r) * (y % 2 ^ r) = Y at *
  omega
 rw [h3, Nat.add_mul_mod_self_left, Nat.mod_eq_of_lt h6]
theorem lo_of_digits {o : List Nat} {N : Nat} : ∀ k, (∀ i, i < k → D o i = N / 18446744073709551616 ^ i % 18446744073709551616) → lo o k = N % 18446744073709551616 ^ k
 | 0, _ => by rw [lo_zero, Nat.pow_zero, Nat.mod_one]
 | k + 1, h => by
   rw [lo_step, lo_of_digits k (fun i hi => h i (by omega)), h k (by omega), Nat.pow_succ, Nat.mod_mul]
theorem hi_div (l : List Nat) (hd : Dig l) (i : Nat) : hi l i = val l / 18446744073709551616 ^ i := by
 rw [lo_hi l i, Nat.add_mul_div_left _ _ (pow_pos' i), Nat.div_eq_of_lt (lo_lt hd i), Nat.zero_add]
theorem down_digit {l : List Nat} (hd : Dig l) {q r i : Nat} (hr : r ≤ 63) :
 (D l (q + i) + 18446744073709551616 * D l (q + i + 1)) / 2 ^ r % 18446744073709551616 = (val l / 2 ^ (64 * q + r)) / 18446744073709551616 ^ i % 18446744073709551616 := by
 have hp : 0 < 2 ^ r := Nat.pow_pos (by decide)
 have e1 : 2 ^ (64 * q + r) = 18446744073709551616 ^ q * 2 ^ r := by rw [Nat.pow_add, Nat.pow_mul]
 rw [e1, Nat.div_div_eq_div_mul, Nat.mul_right_comm, ← Nat.pow_add, ← Nat.div_div_eq_div_mul, ← hi_div l hd, hi_step l (q + i), hi_step l (q + i + 1)]
 have e2 : D l (q + i) + 18446744073709551616 * (D l (q + i + 1) + 18446744073709551616 * hi l (q + i + 1 + 1)) = (D l (q + i) + 18446744073709551616 * D l (q + i + 1)) + 2 ^ r * (2 ^ (64 - r) * (18446744073709551616 * hi l (q + i + 1 + 1))) := by
  rw [← Nat.mul_assoc (2 ^ r), Nat.mul_comm (2 ^ r), ← B_split (show r ≤ 64 by omega)]
  omega
 rw [e2, Nat.add_mul_div_left _ _ hp, Nat.mul_left_comm, Nat.add_mul_mod_self_left]
theorem down_end {l o : List Nat} (hd : Dig l) (ho : Dig o) {q r : Nat} (hlen : o.length = l.length - q)
 (h : ∀ i, i < o.length → D o i = (val l / 2 ^ (64 * q + r)) / 18446744073709551616 ^ i % 18446744073709551616) : val o = val l / 2 ^ (64 * q + r) := by
 have h1 := lo_of_digits o.length h
 rw [lo_all (Nat.le_refl _)] at h1
 rw [h1, Nat.mod_eq_of_lt]
 have e1 : 2 ^ (64 * q + r) = 18446744073709551616 ^ q * 2 ^ r := by rw [Nat.pow_add, Nat.pow_mul]
 have h2 : val l / 18446744073709551616 ^ q < 18446744073709551616 ^ o.length := by
  rw [Nat.div_lt_iff_lt_mul (pow_pos' q), ← Nat.pow_add]
  refine Nat.lt_of_lt_of_le (val_lt hd) (Nat.pow_le_pow_right (by decide) (by omega))
 rw [e1, ← Nat.div_div_eq_div_mul]
 exact Nat.lt_of_le_of_lt (Nat.div_le_self _ _) h2
theorem high_lt {x r : Nat} (hx : x < 18446744073709551616) (hr : r ≤ 63) : x / 2 / 2 ^ (63 - r) < 2 ^ r := by
 rw [Nat.div_div_eq_div_mul, show 2 * 2 ^ (63 - r) = 2 ^ (64 - r) by rw [show 64 - r = (63 - r) + 1 by omega, Nat.pow_succ, Nat.mul_comm]]
 rw [Nat.div_lt_iff_lt_mul (Nat.pow_pos (by decide)), Nat.mul_comm, ← B_split (show r ≤ 64 by omega)]
 exact hx
theorem low_or {h x r : Nat} (hr : r ≤ 63) (hh : h < 2 ^ r) : h ||| (x * 2 ^ r % 18446744073709551616) = h + x * 2 ^ r % 18446744073709551616 := by
 have e : x * 2 ^ r % 18446744073709551616 = 2 ^ r * (x % 2 ^ (64 - r)) := by
  conv => lhs; rhs; rw [B_split (show r ≤ 64 by omega), Nat.mul_comm]
  rw [Nat.mul_comm x, Nat.mul_mod_mul_left]
 rw [e, or_add hh]
def nbitsF : Nat → Nat → Nat
 | 0, _ => 0
 | f + 1, n => if n = 0 then 0 else nbitsF f (n / 2) + 1
def nbits (n : Nat) : Nat := nbitsF n n
theorem nbitsF_enough : ∀ (f g n : Nat), n ≤ f → n ≤ g → nbitsF f n = nbitsF g n
 | 0, g, n, h, _ => by
   obtain rfl : n = 0 := by omega
   cases g <;> simp [nbitsF]
 | f + 1, 0, n, _, h => by
   obtain rfl : n = 0 := by omega
   simp [nbitsF]
 | f + 1, g + 1, n, h1, h2 => by
   unfold nbitsF
   by_cases hn : n = 0
   · simp [hn]
   · rw [if_neg hn, if_neg hn, nbitsF_enough f g _ (by omega) (by omega)]
theorem nbits_zero : nbits 0 = 0 := rfl
theorem nbits_pos {n : Nat} (h : n ≠ 0) : nbits n = nbits (n / 2) + 1 := by
 unfold nbits
 obtain ⟨m, rfl⟩ : ∃ m, n = m + 1 := ⟨n - 1, by omega⟩
 rw [nbitsF, if_neg h, nbitsF_enough m ((m + 1) / 2) _ (by omega) (by omega)]
theorem nbits_lt (n : Nat) : n < 2 ^ nbits n := by
 induction n using Nat.strongRecOn with
 | _ n ih =>
   by_cases h : n = 0
   · subst h; decide
   · rw [nbits_pos h, Nat.pow_succ]
     have := ih (n / 2) (by omega)
     omega
theorem nbits_le {n k : Nat} (h : n < 2 ^ k) : nbits n ≤ k := by
 induction k generalizing n with
 | zero =>
   obtain rfl : n = 0 := by rw [Nat.pow_zero] at h; omega
   exact Nat.le_refl _
 | succ k ih =>
   by_cases h0 : n = 0
   · subst h0; exact Nat.zero_le _
   · rw [nbits_pos h0]
     rw [Nat.pow_succ] at h
     have := ih (n := n / 2) (by omega)
     omega
theorem nbits_gt {n k : Nat} (h : 2 ^ k ≤ n) : k < nbits n := by
 rcases Nat.lt_or_ge k (nbits n) with h' | h'
 · exact h'
 · have h1 := nbits_lt n
   have h2 := Nat.pow_le_pow_right (n := 2) (by decide) h'
   omega
theorem nbits_low {n : Nat} (h : n ≠ 0) : 2 ^ (nbits n - 1) ≤ n := by
 rcases Nat.lt_or_ge n (2 ^ (nbits n - 1)) with h' | h'
 · have h1 := nbits_le h'
   have h2 := nbits_pos h
   omega
 · exact h'
theorem nbits_eq {n k : Nat} (h1 : 2 ^ k ≤ n) (h2 : n < 2 ^ (k + 1)) : nbits n = k + 1 := by
 have := nbits_gt h1
 have := nbits_le h2
 omega
theorem nbits_top {l : List Nat} (hd : Dig l) {m : Nat} (hl : l.length = m + 1) (ht : D l m ≠ 0) : nbits (val l) = 64 * m + nbits (D l m) := by
 have h1 := lo_hi l m
 have h2 := lo_lt hd m
 have h3 : hi l m = D l m := by rw [hi_step, hi_all (by omega)]; rfl
 rw [h3] at h1
 have e : 18446744073709551616 ^ m = 2 ^ (64 * m) := by rw [Nat.pow_mul]
 rw [e] at h1 h2
 have h4 := nbits_low ht
 have h5 := nbits_lt (D l m)
 have h6 := nbits_pos ht
 have h7 := nbits_eq (n := val l) (k := 64 * m + (nbits (D l m) - 1))
  (by rw [Nat.pow_add, h1]; exact Nat.le_trans (Nat.mul_le_mul_left _ h4) (Nat.le_add_left _ _))
  (by
    rw [show 64 * m + (nbits (D l m) - 1) + 1 = 64 * m + nbits (D l m) by omega, Nat.pow_add, h1]
    have h8 := Nat.mul_le_mul_left (2 ^ (64 * m)) (show D l m + 1 ≤ 2 ^ nbits (D l m) from h5)
    rw [Nat.mul_add, Nat.mul_one] at h8
    omega)
 omega
theorem bitLenAux_nbits : ∀ (f x : Nat), x < 2 ^ f → Lib.bitLenAux f x = nbits x
 | 0, x, h => by
   obtain rfl : x = 0 := by rw [Nat.pow_zero] at h; omega
   rfl
 | f + 1, x, h => by
   unfold Lib.bitLenAux
   by_cases h0 : x = 0
   · subst h0; rfl
   · rw [if_neg h0, nbits_pos h0, bitLenAux_nbits f (x / 2) (by rw [Nat.pow_succ] at h; omega)]
     omega
theorem bitLen_nbits {x : Nat} (h : x < 18446744073709551616) : Lib.bitLen x = nbits x := bitLenAux_nbits 64 x h
theorem rshr_or {x y r : Nat} (hx : x < 18446744073709551616) (hr : r ≤ 63) :
 (x / 2 ^ r) ||| (y * 2 ^ (64 - r) % 18446744073709551616) = (x + 18446744073709551616 * y) / 2 ^ r % 18446744073709551616 := by
 rw [← shr_or (y := y) hx hr, mod_mul_mod', Nat.mul_assoc, show 2 * 2 ^ (63 - r) = 2 ^ (64 - r) by rw [show 64 - r = (63 - r) + 1 by omega, Nat.pow_succ, Nat.mul_comm]]
theorem rshr_none {x y : Nat} (hx : x < 18446744073709551616) : (x + 18446744073709551616 * y) / 2 ^ 0 % 18446744073709551616 = x := by
 rw [Nat.pow_zero, Nat.div_one]; omega
theorem D_snoc_old {l : List Nat} {x j : Nat} (h : j < l.length) : D (l ++ [x]) j = D l j := by
 unfold D; rw [List.getD_eq_getElem?_getD, List.getD_eq_getElem?_getD, List.getElem?_append_left h]
theorem D_snoc_new {l : List Nat} {x k : Nat} (h : l.length = k) : D (l ++ [x]) k = x := by
 subst h
 unfold D; rw [List.getD_eq_getElem?_getD, List.getElem?_append_right (Nat.le_refl _)]; simp
theorem high_eq {x r : Nat} (hr : r ≤ 63) : x / 2 / 2 ^ (63 - r) = x / 2 ^ (64 - r) := by
 rw [Nat.div_div_eq_div_mul, show 2 * 2 ^ (63 - r) = 2 ^ (64 - r) by rw [show 64 - r = (63 - r) + 1 by omega, Nat.pow_succ, Nat.mul_comm]]
theorem rup_or {x z r : Nat} (hr : r ≤ 63) (hz : z < 18446744073709551616) : (x * 2 ^ r % 18446744073709551616) ||| (z / 2 ^ (64 - r)) = z / 2 ^ (64 - r) + x * 2 ^ r % 18446744073709551616 := by
 rw [Nat.or_comm, ← high_eq hr, low_or hr (high_lt hz hr)]
theorem D_replicate (n i : Nat) : D (List.replicate n 0) i = 0 := by
 unfold D; rw [List.getD_eq_getElem?_getD, List.getElem?_replicate]; split <;> rfl
theorem B_pow (k : Nat) : 18446744073709551616 ^ k = 2 ^ (64 * k) := by
 rw [show (18446744073709551616 : Nat) = 2 ^ 64 from rfl, ← Nat.pow_mul]
theorem nbits_le_len {l : List Nat} (hd : Dig l) : nbits (val l) ≤ 64 * l.length := nbits_le (by rw [← B_pow]; exact val_lt hd)
end Go.Proofs.Ytoecndogaklngaa
