/- Products, digit by digit and by halves. Plain Lean: no program. -/
import Derived.Test.YtdjhgalaianifaaNum2
set_option linter.unusedVariables false
set_option linter.unusedSimpArgs false
namespace Go.Proofs.Ytdjhgalaianifaa

/-- a digit of a line: a digit's product with a number, added to digits -/
theorem line_step {o os l : List Nat} {x i c s k : Nat} (h : lo o i + 18446744073709551616 ^ i * c = lo os i + x * lo l i) (hi' : i < o.length) (hs : s + 18446744073709551616 * k = x * D l i + D os i + c) :
    lo (o.set i s) (i + 1) + 18446744073709551616 ^ (i + 1) * k = lo os (i + 1) + x * lo l (i + 1) := by
  rw [lo_step, lo_set (Nat.le_refl _), D_set_same hi', lo_step os, lo_step l, Nat.pow_succ, Nat.mul_assoc]
  have e : 18446744073709551616 ^ i * (s + 18446744073709551616 * k) = 18446744073709551616 ^ i * (x * D l i + D os i + c) := by rw [hs]
  simp only [Nat.mul_add] at e ⊢
  have e2 : x * (18446744073709551616 ^ i * D l i) = 18446744073709551616 ^ i * (x * D l i) := by ac_rfl
  rw [e2]
  omega
theorem D_of_hi {a b : List Nat} {i : Nat} (h : hi a i = hi b i) (ha : Dig a) (hb : Dig b) : D a i = D b i := by
  rw [hi_step a i, hi_step b i] at h
  have := ha.at_ i
  have := hb.at_ i
  omega
theorem hi_of_hi {a b : List Nat} {i : Nat} (h : hi a i = hi b i) (ha : Dig a) (hb : Dig b) : hi a (i + 1) = hi b (i + 1) := by
  rw [hi_step a i, hi_step b i] at h
  have := ha.at_ i
  have := hb.at_ i
  omega
/-- nothing is carried: the line is done -/
theorem line_end {o os l : List Nat} {x i : Nat} (h : lo o i + 18446744073709551616 ^ i * 0 = lo os i + x * lo l i) (hh : hi o i = hi os i) (hl : l.length ≤ i) : val o = val os + x * val l := by
  rw [lo_hi o i, lo_hi os i, hh]
  rw [lo_all hl] at h
  omega
/-- while something is carried there is a place -/
theorem line_room {o os l : List Nat} {x i c n : Nat} (h : lo o i + 18446744073709551616 ^ i * c = lo os i + x * lo l i) (hl : l.length ≤ i) (hos : os.length = n) (hin : i ≤ n) (hc : 0 < c) (hv : val os + x * val l < 18446744073709551616 ^ n) : i < n := by
  rcases Nat.lt_or_ge i n with h' | h'
  · exact h'
  · obtain rfl : i = n := by omega
    rw [lo_all hl, lo_all (l := os) (by omega)] at h
    have := Nat.le_mul_of_pos_right (18446744073709551616 ^ i) hc
    omega
/-- a digit's product, with what is carried and what lies there -/
theorem digit_fits {x y c z s k : Nat} (hx : x < 18446744073709551616) (hy : y < 18446744073709551616) (hc : c < 18446744073709551616) (hz : z < 18446744073709551616) (h : s + 18446744073709551616 * k = x * y + z + c) : k < 18446744073709551616 := by
  have h1 : x * y ≤ 18446744073709551615 * 18446744073709551615 := Nat.mul_le_mul (by omega) (by omega)
  omega

/-- the number whose first places are noughts -/
theorem val_shift (n : Nat) (l : List Nat) : val (List.replicate n 0 ++ l) = 18446744073709551616 ^ n * val l := by
  rw [val_append, val_replicate, List.length_replicate, Nat.zero_add]
theorem val_split (l : List Nat) (h : Nat) : val l = val (l.take h) + 18446744073709551616 ^ min h l.length * val (l.drop h) := by
  conv => lhs; rw [← List.take_append_drop h l]
  rw [val_append, List.length_take]
theorem lo_take (l : List Nat) (h : Nat) : val (l.take h) = lo l h := rfl

/-- Karatsuba's way -/
theorem halves_eq (a0 a1 b0 b1 p : Nat) : a0 * b0 + p * ((a0 + a1) * (b0 + b1) - a0 * b0 - a1 * b1) + p * p * (a1 * b1) = (a0 + p * a1) * (b0 + p * b1) := by
  have e : (a0 + a1) * (b0 + b1) - a0 * b0 - a1 * b1 = a0 * b1 + a1 * b0 := by
    simp only [Nat.add_mul, Nat.mul_add]; omega
  rw [e]
  simp only [Nat.add_mul, Nat.mul_add]
  have e1 : p * (a0 * b1) = a0 * (p * b1) := by ac_rfl
  have e2 : p * (a1 * b0) = p * a1 * b0 := by ac_rfl
  have e3 : p * p * (a1 * b1) = p * a1 * (p * b1) := by ac_rfl
  rw [e1, e2, e3]
  omega

theorem digs_len_prod (a b : Nat) : (digs (a * b)).length ≤ (digs a).length + (digs b).length := by
  rw [digs_length_le, Nat.pow_add]
  have h1 : a < 18446744073709551616 ^ (digs a).length := digs_length_le.1 (Nat.le_refl _)
  have h2 : b < 18446744073709551616 ^ (digs b).length := digs_length_le.1 (Nat.le_refl _)
  exact Nat.mul_lt_mul'' h1 h2

/-- what lies above a place of a product so far, with one more line -/
theorem school_room {a b : List Nat} {i N : Nat} (hb : Dig b) (ha : Dig a) (hi' : i < b.length) (hN : a.length + b.length + 1 = N) {v : Nat} (hv : v = val a * lo b i / 18446744073709551616 ^ i) :
    v + D b i * val a < 18446744073709551616 ^ (N - i) := by
  have h1 : v ≤ val a := by
    rw [hv]
    refine Nat.div_le_of_le_mul ?_
    rw [Nat.mul_comm]
    exact Nat.mul_le_mul_right _ (Nat.le_of_lt (lo_lt hb i))
  have h2 := hb.at_ i
  have h3 : D b i * val a ≤ 18446744073709551615 * val a := Nat.mul_le_mul_right _ (by omega)
  have h4 := val_lt ha
  have h5 : 18446744073709551616 ^ (a.length + 1) ≤ 18446744073709551616 ^ (N - i) := Nat.pow_le_pow_right (by decide) (by omega)
  rw [Nat.pow_succ] at h5
  generalize 18446744073709551616 ^ a.length = p at *
  generalize 18446744073709551616 ^ (N - i) = r at *
  omega
theorem school_step {a b : List Nat} {i : Nat} {low v v' : Nat} (hb : Dig b) (hv : low + 18446744073709551616 ^ i * v = val a * lo b i) (hv' : v' = v + D b i * val a) :
    low + 18446744073709551616 ^ i * v' = val a * lo b (i + 1) := by
  rw [hv', lo_step, Nat.mul_add, ← Nat.add_assoc, hv, Nat.mul_add]
  congr 1
  ac_rfl

end Go.Proofs.Ytdjhgalaianifaa
