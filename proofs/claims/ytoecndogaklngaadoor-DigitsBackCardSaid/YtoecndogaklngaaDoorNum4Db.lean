import Derived.Test.YtoecndogaklngaaDoorS0Db
import Derived.Test.YtoecndogaklngaaDoorNumDb
set_option linter.unusedVariables false
namespace Go.Proofs.YtoecndogaklngaaDoor
structure Guess (h l u d0 d1 q r : Nat) : Prop where
 eq : q * d1 + r = h
 le : q ≤ 4294967297
 ge : (h * 4294967296 + u) / (d1 * 4294967296 + d0) ≤ q
 lt : r < 4294967296
theorem guess_pre {h u d0 d1 : Nat} (hd1 : 2147483648 ≤ d1) (hd1' : d1 < 4294967296) (hd0 : d0 < 4294967296) (hu : u < 4294967296) (hh : h < d1 * 4294967296 + d0) :
 (h * 4294967296 + u) / (d1 * 4294967296 + d0) < 4294967296 := by
 rw [Nat.div_lt_iff_lt_mul (by omega)]
 rw [Nat.mul_comm 4294967296]
 have : (h + 1) * 4294967296 ≤ (d1 * 4294967296 + d0) * 4294967296 := Nat.mul_le_mul_right _ hh
 omega
theorem guess_start {h u d0 d1 : Nat} (hd1 : 2147483648 ≤ d1) (hd1' : d1 < 4294967296) (hd0 : d0 < 4294967296) (hu : u < 4294967296) (hh : h < d1 * 4294967296 + d0) : Guess h 0 u d0 d1 (h / d1) (h % d1) := by
 refine ⟨Nat.div_add_mod' h d1, ?_, ?_, by have := Nat.mod_lt h (show 0 < d1 by omega); omega⟩
 · have : h / d1 < 4294967298 := by
    rw [Nat.div_lt_iff_lt_mul (by omega)]
    omega
   omega
 · rw [Nat.le_div_iff_mul_le (by omega)]
   have h1 := Nat.div_mul_le_self (h * 4294967296 + u) (d1 * 4294967296 + d0)
   generalize (h * 4294967296 + u) / (d1 * 4294967296 + d0) = q at *
   rw [Nat.mul_add, ← Nat.mul_assoc] at h1
   omega
theorem guess_down {h u d0 d1 q r : Nat} (g : Guess h 0 u d0 d1 q r) (hd1 : 2147483648 ≤ d1) (hd1' : d1 < 4294967296) (hd0 : d0 < 4294967296) (hu : u < 4294967296) (hh : h < d1 * 4294967296 + d0)
 (hc : 4294967296 ≤ q ∨ 4294967296 * r + u < q * d0) : 0 < q ∧ (q - 1) * d1 + (r + d1) = h ∧ q - 1 ≤ 4294967296 ∧ (h * 4294967296 + u) / (d1 * 4294967296 + d0) ≤ q - 1 := by
 have hlt := guess_pre hd1 hd1' hd0 hu hh
 have hq : (h * 4294967296 + u) / (d1 * 4294967296 + d0) < q := by
  rcases hc with hc | hc
  · omega
  · rw [Nat.div_lt_iff_lt_mul (by omega), Nat.mul_add, ← Nat.mul_assoc, ← g.eq]
    omega
 have hp : 0 < q := Nat.lt_of_le_of_lt (Nat.zero_le _) hq
 refine ⟨hp, ?_, by have := g.le; omega, Nat.le_sub_one_of_lt hq⟩
 obtain ⟨k, rfl⟩ : ∃ k, q = k + 1 := ⟨q - 1, by omega⟩
 have := g.eq
 rw [Nat.add_mul, Nat.one_mul] at this
 rw [Nat.add_sub_cancel]
 omega
theorem guess_next {h u d0 d1 q r : Nat} (g : Guess h 0 u d0 d1 q r) (hd1 : 2147483648 ≤ d1) (hd1' : d1 < 4294967296) (hd0 : d0 < 4294967296) (hu : u < 4294967296) (hh : h < d1 * 4294967296 + d0)
 (hc : 4294967296 ≤ q ∨ 4294967296 * r + u < q * d0) (hr : r + d1 < 4294967296) : Guess h 0 u d0 d1 (q - 1) (r + d1) := by
 obtain ⟨h1, h2, h3, h4⟩ := guess_down g hd1 hd1' hd0 hu hh hc
 exact ⟨h2, by omega, h4, hr⟩
theorem guess_end {h u d0 d1 q r : Nat} (g : Guess h 0 u d0 d1 q r) (hd1 : 2147483648 ≤ d1) (hc : q * d0 ≤ 4294967296 * r + u) : q = (h * 4294967296 + u) / (d1 * 4294967296 + d0) := by
 refine Nat.le_antisymm ?_ g.ge
 rw [Nat.le_div_iff_mul_le (by omega), Nat.mul_add, ← Nat.mul_assoc, ← g.eq]
 omega
theorem guess_stop {h u d0 d1 q r : Nat} (g : Guess h 0 u d0 d1 q r) (hd1 : 2147483648 ≤ d1) (hd1' : d1 < 4294967296) (hd0 : d0 < 4294967296) (hu : u < 4294967296) (hh : h < d1 * 4294967296 + d0)
 (hc : 4294967296 ≤ q ∨ 4294967296 * r + u < q * d0) (hr : 4294967296 ≤ r + d1) : q - 1 = (h * 4294967296 + u) / (d1 * 4294967296 + d0) := by
 obtain ⟨h1, h2, h3, h4⟩ := guess_down g hd1 hd1' hd0 hu hh hc
 refine Nat.le_antisymm ?_ h4
 rw [Nat.le_div_iff_mul_le (by omega), Nat.mul_add, ← Nat.mul_assoc, ← h2]
 have : (q - 1) * d0 ≤ 4294967296 * 4294967296 := Nat.mul_le_mul h3 (by omega)
 omega
theorem div_part {v B u0 y : Nat} (hy : 0 < y) : (v * B + u0) / y = v / y * B + (v % y * B + u0) / y ∧ (v * B + u0) % y = (v % y * B + u0) % y := by
 have e : v * B + u0 = (v % y * B + u0) + y * (v / y * B) := by
  have := Nat.div_add_mod v y
  have e2 : v * B = (y * (v / y) + v % y) * B := by rw [this]
  rw [e2, Nat.add_mul, Nat.mul_assoc]
  omega
 refine ⟨?_, ?_⟩
 · rw [e, Nat.add_mul_div_left _ _ hy]; omega
 · rw [e]; exact Nat.add_mul_mod_self_left _ _ _
theorem div_halves {h u1 u0 y : Nat} (hy : 0 < y) :
 ((h * 4294967296 + u1) * 4294967296 + u0) / y = (h * 4294967296 + u1) / y * 4294967296 + ((h * 4294967296 + u1) % y * 4294967296 + u0) / y ∧
 ((h * 4294967296 + u1) * 4294967296 + u0) % y = ((h * 4294967296 + u1) % y * 4294967296 + u0) % y := div_part hy
theorem div_moved {n y s : Nat} (hy : 0 < y) : n * 2 ^ s / (y * 2 ^ s) = n / y ∧ n * 2 ^ s % (y * 2 ^ s) / 2 ^ s = n % y := by
 have hs : 0 < 2 ^ s := Nat.pow_pos (by decide)
 exact ⟨Nat.mul_div_mul_right _ _ hs, by rw [Nat.mul_mod_mul_right, Nat.mul_div_cancel _ hs]⟩
theorem lead_ge {u v uh vh p : Nat} (hv : vh * p ≤ v) (hvh : 0 < vh) (hu : u < (uh + 1) * p) : u / v ≤ uh / vh := by
 rcases Nat.eq_zero_or_pos v with h0 | h0
 · subst h0; simp
 rw [Nat.le_div_iff_mul_le hvh]
 have h1 := Nat.div_mul_le_self u v
 have h2 : u / v * (vh * p) ≤ u / v * v := Nat.mul_le_mul_left _ hv
 have h3 : u / v * vh * p < (uh + 1) * p := by rw [Nat.mul_assoc]; omega
 exact Nat.le_of_lt_succ (Nat.lt_of_mul_lt_mul_right h3)
def guessN (us vs : List Nat) (n : Nat) : Nat := if D us n < D vs (n - 1) then (D us n * 18446744073709551616 + D us (n - 1)) / D vs (n - 1) else 18446744073709551615
theorem lo_lt_succ {l : List Nat} (h : Dig l) (m : Nat) (hl : l.length = m + 2) : val l < (D l (m + 1) * 18446744073709551616 + D l m + 1) * 18446744073709551616 ^ m := by
 have h1 := lo_hi l m
 have h2 := lo_lt h m
 have h3 : hi l m = D l (m + 1) * 18446744073709551616 + D l m := by
  rw [hi_step l m, hi_step l (m + 1), hi_all (by omega)]
  omega
 rw [h3] at h1
 rw [Nat.add_mul _ 1, Nat.one_mul, Nat.mul_comm _ (18446744073709551616 ^ m)]
 omega
theorem top_le {l : List Nat} (m : Nat) (hl : l.length = m + 1) : D l m * 18446744073709551616 ^ m ≤ val l := by
 have h1 := lo_hi l m
 rw [hi_step l m, hi_all (by omega), Nat.mul_zero, Nat.add_zero] at h1
 rw [Nat.mul_comm]
 omega
theorem guess_ok {us vs : List Nat} {n : Nat} (hu : Dig us) (hv : Dig vs) (hlu : us.length = n + 1) (hlv : vs.length = n) (hn : 0 < n) (ht : 0 < D vs (n - 1)) (h : val us < val vs * 18446744073709551616) :
 val us / val vs ≤ guessN us vs n ∧ guessN us vs n < 18446744073709551616 := by
 obtain ⟨m, rfl⟩ : ∃ m, n = m + 1 := ⟨n - 1, by omega⟩
 have hpos : 0 < val vs := by
  rcases Nat.eq_zero_or_pos (val vs) with h0 | h0
  · rw [h0] at h; omega
  · exact h0
 have hq : val us / val vs < 18446744073709551616 := by
  rw [Nat.div_lt_iff_lt_mul hpos, Nat.mul_comm]; exact h
 unfold guessN
 rw [Nat.add_sub_cancel] at ht ⊢
 by_cases hc : D us (m + 1) < D vs m
 · rw [if_pos hc]
   refine ⟨lead_ge (top_le m hlv) ht (lo_lt_succ hu m (by omega)), ?_⟩
   have hd := hu.at_ m
   rw [Nat.div_lt_iff_lt_mul ht]
   have : (D us (m + 1) + 1) * 18446744073709551616 ≤ D vs m * 18446744073709551616 := Nat.mul_le_mul_right _ hc
   rw [Nat.mul_comm 18446744073709551616]
   omega
 · rw [if_neg hc]
   omega
theorem guess_less {u v g : Nat} (h : u / v ≤ g) (hlt : u < v * g) : 0 < g ∧ u / v ≤ g - 1 ∧ v * g - v = v * (g - 1) := by
 have hg : 0 < g := by
  rcases Nat.eq_zero_or_pos g with h0 | h0
  · subst h0; omega
  · exact h0
 have hv : 0 < v := by
  rcases Nat.eq_zero_or_pos v with h0 | h0
  · subst h0; omega
  · exact h0
 have h2 : u / v < g := by rw [Nat.div_lt_iff_lt_mul hv, Nat.mul_comm]; exact hlt
 exact ⟨hg, by omega, by rw [Nat.mul_sub, Nat.mul_one]⟩
theorem guess_last {u v g : Nat} (hv : 0 < v) (h : u / v ≤ g) (hle : v * g ≤ u) : g = u / v ∧ u - v * g = u % v := by
 have h1 : g ≤ u / v := by rw [Nat.le_div_iff_mul_le hv, Nat.mul_comm]; exact hle
 obtain rfl : g = u / v := by omega
 refine ⟨rfl, ?_⟩
 have := Nat.div_add_mod u v
 omega
theorem val_take_of_small {l : List Nat} {m : Nat} (h : val l < 18446744073709551616 ^ m) (hm : m ≤ l.length) : val (l.take m) = val l := by
 have h1 := val_split l m
 rw [Nat.min_eq_left hm] at h1
 have : val (l.drop m) = 0 := by
  rcases Nat.eq_zero_or_pos (val (l.drop m)) with h0 | h0
  · exact h0
  · have := Nat.le_mul_of_pos_right (18446744073709551616 ^ m) h0
    omega
 rw [this] at h1
 omega
def put (us : List Nat) (j m r : Nat) : List Nat := us.take j ++ (digs r ++ List.replicate (m + 1 - (digs r).length) 0) ++ us.drop (j + (m + 1))
theorem put_len {us : List Nat} {j m r : Nat} (h : j + (m + 1) ≤ us.length) (hr : (digs r).length ≤ m + 1) : (put us j m r).length = us.length := by
 unfold put
 simp only [List.length_append, List.length_take, List.length_drop, List.length_replicate]
 omega
theorem put_low {us : List Nat} {j m r i : Nat} (h : j + (m + 1) ≤ us.length) (hi : i < j) : D (put us j m r) i = D us i := by
 unfold put
 simp only [D, List.getD_eq_getElem?_getD, List.append_assoc]
 rw [List.getElem?_append_left (by rw [List.length_take]; omega), List.getElem?_take, if_pos hi]
theorem put_hi {us : List Nat} {j m r : Nat} (h : j + (m + 1) ≤ us.length) (hr : (digs r).length ≤ m + 1) : hi (put us j m r) j = r + 18446744073709551616 ^ (m + 1) * hi us (j + (m + 1)) := by
 unfold put hi
 rw [List.append_assoc, List.drop_append, List.drop_of_length_le (by rw [List.length_take]; omega), List.nil_append, List.length_take, Nat.min_eq_left (by omega), Nat.sub_self, List.drop_zero, val_append, val_append, val_replicate, val_digs, List.length_append, List.length_replicate]
 rw [show (digs r).length + (m + 1 - (digs r).length) = m + 1 by omega]
 omega
theorem put_mid {us : List Nat} {j m r d : Nat} (h : j + (m + 1) ≤ us.length) (hd : d < (digs r).length) : D (put us j m r) (j + d) = D (digs r) d := by
 unfold put
 simp only [D, List.getD_eq_getElem?_getD, List.append_assoc]
 rw [List.getElem?_append_right (by rw [List.length_take]; omega), List.length_take, Nat.min_eq_left (by omega), Nat.add_sub_cancel_left, List.getElem?_append_left (by omega)]
theorem put_rest {us : List Nat} {j m r i : Nat} (h : j + (m + 1) ≤ us.length) (hr : (digs r).length ≤ m + 1) (hin : ¬ (j ≤ i ∧ i < j + (digs r).length)) : D (put us j m r) i = if j ≤ i ∧ i < j + (m + 1) then 0 else D us i := by
 by_cases h1 : i < j
 · rw [put_low h h1, if_neg (by omega)]
 unfold put
 simp only [D, List.getD_eq_getElem?_getD, List.append_assoc]
 rw [List.getElem?_append_right (by rw [List.length_take]; omega), List.length_take, Nat.min_eq_left (by omega), List.getElem?_append_right (by omega)]
 by_cases h2 : i < j + (m + 1)
 · rw [if_pos (by omega), List.getElem?_append_left (by rw [List.length_replicate]; omega), List.getElem?_replicate, if_pos (by omega)]
   rfl
 · rw [if_neg (by omega), List.getElem?_append_right (by rw [List.length_replicate]; omega), List.length_replicate, List.getElem?_drop, show j + (m + 1) + (i - j - (digs r).length - (m + 1 - (digs r).length)) = i by omega]
theorem put_dig {us : List Nat} {j m r : Nat} (h : Dig us) : Dig (put us j m r) := by
 unfold put
 exact dig_append.2 ⟨dig_append.2 ⟨h.take _, dig_append.2 ⟨dig_digs _, dig_replicate _⟩⟩, h.drop _⟩
theorem long_step {u0 us qs : List Nat} {V m j : Nat} (hV : 0 < V) (hVm : V < 18446744073709551616 ^ m) (hd : Dig us) (hj : j + (m + 1) ≤ us.length) (hq : j < qs.length)
 (hl : D us j = D u0 j) (hu : hi us (j + 1) = hi u0 (j + 1) % V) (hqs : hi qs (j + 1) = hi u0 (j + 1) / V) :
 val ((us.drop j).take (m + 1)) = hi us j ∧ hi us j < V * 18446744073709551616 ∧ hi us (j + (m + 1)) = 0 ∧ hi us j % V = hi u0 j % V ∧ hi (qs.set j (hi us j / V)) j = hi u0 j / V ∧ hi us j / V < 18446744073709551616 ∧ (digs (hi us j % V)).length ≤ m + 1 := by
 have hr : hi us (j + 1) < V := by rw [hu]; exact Nat.mod_lt _ hV
 have e1 := hi_step us j
 have e0 := hi_step u0 j
 have dj := hd.at_ j
 have hlt : hi us j < V * 18446744073709551616 := by
  have : (hi us (j + 1) + 1) * 18446744073709551616 ≤ V * 18446744073709551616 := Nat.mul_le_mul_right _ hr
  omega
 have hlt2 : hi us j < 18446744073709551616 ^ (m + 1) := by
  rw [Nat.pow_succ]
  exact Nat.lt_of_lt_of_le hlt (Nat.mul_le_mul_right _ (Nat.le_of_lt hVm))
 obtain ⟨p1, p2⟩ := div_part (v := hi u0 (j + 1)) (B := 18446744073709551616) (u0 := D u0 j) hV
 have ea : hi u0 (j + 1) % V * 18446744073709551616 + D u0 j = hi us j := by rw [← hu, ← hl, Nat.mul_comm, Nat.add_comm]; exact e1.symm
 have eb : hi u0 (j + 1) * 18446744073709551616 + D u0 j = hi u0 j := by rw [Nat.mul_comm, Nat.add_comm]; exact e0.symm
 rw [ea, eb] at p1 p2
 refine ⟨val_take_of_small hlt2 (by rw [List.length_drop]; omega), hlt, ?_, p2.symm, ?_, ?_, ?_⟩
 · have h1 := val_split (us.drop j) (m + 1)
   rw [List.drop_drop, Nat.min_eq_left (by rw [List.length_drop]; omega)] at h1
   have h2 : val (us.drop (j + (m + 1))) = 0 := by
    rcases Nat.eq_zero_or_pos (val (us.drop (j + (m + 1)))) with h0 | h0
    · exact h0
    · have := Nat.le_mul_of_pos_right (18446744073709551616 ^ (m + 1)) h0
      have h3 : val (us.drop j) < 18446744073709551616 ^ (m + 1) := hlt2
      omega
   exact h2
 · rw [hi_step, D_set_same hq, hi_set (Nat.lt_succ_self j), hqs, p1]
   omega
 · rw [Nat.div_lt_iff_lt_mul hV, Nat.mul_comm]; exact hlt
 · exact digs_length_le.2 (Nat.lt_trans (Nat.mod_lt _ hV) (Nat.lt_of_lt_of_le hVm (Nat.pow_le_pow_right (by decide) (Nat.le_succ m))))
theorem long_start {a b s N m : Nat} {u0 : List Nat} (hd : Dig u0) (hu : val u0 = a * 2 ^ s) (hb : 18446744073709551616 ^ (m - 1) ≤ b) (hm : 0 < m) (ha : a < 18446744073709551616 ^ (N - 1)) (hN : m ≤ N) (hlen : u0.length = N) :
 hi u0 (N - m) < b * 2 ^ s := by
 rw [hi_div u0 hd, hu, Nat.div_lt_iff_lt_mul (Nat.pow_pos (by decide))]
 have h1 : a * 2 ^ s < 18446744073709551616 ^ (N - 1) * 2 ^ s := Nat.mul_lt_mul_of_pos_right ha (Nat.pow_pos (by decide))
 refine Nat.lt_of_lt_of_le h1 ?_
 rw [show N - 1 = (m - 1) + (N - m) by omega, Nat.pow_add, Nat.mul_assoc, Nat.mul_assoc, Nat.mul_comm (18446744073709551616 ^ (N - m)) (2 ^ s)]
 exact Nat.mul_le_mul_right _ hb
end Go.Proofs.YtoecndogaklngaaDoor
