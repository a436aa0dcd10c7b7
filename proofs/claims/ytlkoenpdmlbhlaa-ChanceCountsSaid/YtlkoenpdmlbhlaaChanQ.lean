/- chances counted over all sets: plain sums. -/
import Derived.Test.YtlkoenpdmlbhlaaLaw24c
import Derived.Test.YtlkoenpdmlbhlaaRats3
set_option linter.unusedVariables false
set_option linter.unusedSimpArgs false
namespace Go.Proofs.Ytlkoenpdmlbhlaa

/-- a set without its bit i -/
def clr (s i : Nat) : Nat := if s / 2 ^ i % 2 = 1 then s - 2 ^ i else s
/-- by how many of the first i bits less is it met just once -/
def hitN (s u : Nat) : Nat → Nat
  | 0 => 0
  | i + 1 => hitN s u i + (if metN (clr s i) u = 1 then 1 else 0)
def justL (zs : List Int) (k u j : Nat) : Nat → List Rat
  | 0 => []
  | t + 1 => if metN (t + 1) u = j then justL zs k u j t ++ [weighQ zs k (t + 1)] else justL zs k u j t
def leftN (s u : Nat) : Nat := if 2 ≤ metN s u then hitN s u u else 0
def leftL (zs : List Int) (k u : Nat) : Nat → List Rat
  | 0 => []
  | t + 1 => leftL zs k u t ++ List.replicate (leftN (t + 1) u) (weighQ zs k (t + 1))
theorem hitN_le (s u : Nat) : ∀ i, hitN s u i ≤ i
  | 0 => Nat.le_refl _
  | i + 1 => by have := hitN_le s u i; show hitN s u i + _ ≤ i + 1; split <;> omega
theorem leftN_le (s u : Nat) : leftN s u ≤ u := by unfold leftN; split; exact hitN_le s u u; omega
theorem justL_len (zs : List Int) (k u j : Nat) : ∀ t, (justL zs k u j t).length ≤ t
  | 0 => Nat.le_refl _
  | t + 1 => by
    have := justL_len zs k u j t
    unfold justL
    split
    · rw [List.length_append]; simp; omega
    · omega
theorem leftL_len (zs : List Int) (k u : Nat) : ∀ t, (leftL zs k u t).length ≤ t * u
  | 0 => by simp [leftL]
  | t + 1 => by
    have := leftL_len zs k u t
    have := leftN_le (t + 1) u
    unfold leftL
    rw [List.length_append, List.length_replicate, Nat.succ_mul]
    omega
theorem sumL24_push (L : List Rat) (x : Rat) : sumL24 (L ++ [x]) = sumL24 L + x := by
  unfold sumL24
  rw [List.length_append]
  show sumQ 0 _ L.length + (L ++ [x]).getD L.length 0 = _
  rw [sumQ_congr (g := fun i => L.getD i 0) L.length fun i hi => by rw [List.getD_eq_getElem?_getD, List.getD_eq_getElem?_getD, List.getElem?_append_left hi]]
  congr 1
  rw [List.getD_eq_getElem?_getD, List.getElem?_append_right (Nat.le_refl _), Nat.sub_self]
  rfl
theorem sumL24_rep (L : List Rat) (x : Rat) : ∀ n : Nat, sumL24 (L ++ List.replicate n x) = sumL24 L + (n : Rat) * x
  | 0 => by simp [Rat.zero_mul, Rat.add_zero]
  | n + 1 => by
    rw [List.replicate_succ', ← List.append_assoc, sumL24_push, sumL24_rep L x n, Rat.natCast_add, Rat.add_mul, Rat.add_assoc]
    congr 2
    show x = ((1 : Nat) : Rat) * x
    rw [show ((1 : Nat) : Rat) = 1 from rfl, Rat.one_mul]
theorem sum_just (zs : List Int) (k u j : Nat) : ∀ M, sumL24 (justL zs k u j M) = sumQ 0 (fun t => if metN (t + 1) u = j then degQ zs k (metN (t + 1) k) else 0) M
  | 0 => rfl
  | M + 1 => by
    show sumL24 (if metN (M + 1) u = j then justL zs k u j M ++ [weighQ zs k (M + 1)] else justL zs k u j M) = sumQ 0 _ M + (if metN (M + 1) u = j then degQ zs k (metN (M + 1) k) else 0)
    rw [← sum_just zs k u j M]
    split
    · rw [sumL24_push]; rfl
    · rw [Rat.add_zero]
theorem sum_left (zs : List Int) (k u : Nat) : ∀ M, sumL24 (leftL zs k u M) = sumQ 0 (fun t => ((leftN (t + 1) u : Nat) : Rat) * degQ zs k (metN (t + 1) k)) M
  | 0 => rfl
  | M + 1 => by
    show sumL24 (leftL zs k u M ++ List.replicate (leftN (M + 1) u) (weighQ zs k (M + 1))) = sumQ 0 _ M + ((leftN (M + 1) u : Nat) : Rat) * degQ zs k (metN (M + 1) k)
    rw [sumL24_rep, sum_left zs k u M]
    rfl
theorem pickQ (g : Nat → Rat) (c : Nat) : ∀ n, sumQ 0 (fun i => ((if c = i + 1 then 1 else 0 : Nat) : Rat) * g (i + 1)) n = if 1 ≤ c ∧ c ≤ n then g c else 0
  | 0 => by rw [if_neg (by omega)]; rfl
  | n + 1 => by
    show sumQ 0 _ n + ((if c = n + 1 then 1 else 0 : Nat) : Rat) * g (n + 1) = _
    rw [pickQ g c n]
    by_cases h : c = n + 1
    · subst h
      rw [if_neg (by omega), if_pos rfl, if_pos (by omega), Rat.zero_add]
      rw [show ((1 : Nat) : Rat) = 1 from rfl, Rat.one_mul]
    · rw [if_neg h]
      have e : ((0 : Nat) : Rat) = 0 := rfl
      rw [e, Rat.zero_mul, Rat.add_zero]
      by_cases h2 : 1 ≤ c ∧ c ≤ n
      · rw [if_pos h2, if_pos (by omega)]
      · rw [if_neg h2, if_neg (by omega)]
def cntN (P : Nat → Prop) [DecidablePred P] (m : Nat → Nat) (d : Nat) : Nat → Nat
  | 0 => 0
  | M + 1 => cntN P m d M + (if P M ∧ m M = d then 1 else 0)
theorem degQ_off {zs : List Int} {k d : Nat} (h : ¬ (1 ≤ d ∧ d ≤ zs.length)) : degQ zs k d = 0 := by unfold degQ; rw [if_neg h]
theorem cntQ (zs : List Int) (k : Nat) (P : Nat → Prop) [DecidablePred P] (m : Nat → Nat) : ∀ M, sumQ 0 (fun t => if P t then degQ zs k (m t) else 0) M = sumQ 0 (fun i => ((cntN P m (i + 1) M : Nat) : Rat) * degQ zs k (i + 1)) zs.length
  | 0 => by
    rw [sumQ_congr (g := fun _ => 0) zs.length fun i hi => by show ((0 : Nat) : Rat) * _ = 0; rw [show ((0 : Nat) : Rat) = 0 from rfl, Rat.zero_mul], sumQ_none]
    rfl
  | M + 1 => by
    show sumQ 0 _ M + (if P M then degQ zs k (m M) else 0) = _
    rw [cntQ zs k P m M]
    have hR : sumQ 0 (fun i => ((cntN P m (i + 1) (M + 1) : Nat) : Rat) * degQ zs k (i + 1)) zs.length = sumQ 0 (fun i => ((cntN P m (i + 1) M : Nat) : Rat) * degQ zs k (i + 1)) zs.length + sumQ 0 (fun i => ((if P M ∧ m M = i + 1 then 1 else 0 : Nat) : Rat) * degQ zs k (i + 1)) zs.length := by
      rw [← sumQ_plus]
      refine sumQ_congr _ fun i hi => ?_
      show ((cntN P m (i + 1) M + (if P M ∧ m M = i + 1 then 1 else 0) : Nat) : Rat) * _ = _
      rw [Rat.natCast_add, Rat.add_mul]
    have hT : sumQ 0 (fun i => ((if P M ∧ m M = i + 1 then 1 else 0 : Nat) : Rat) * degQ zs k (i + 1)) zs.length = if P M then degQ zs k (m M) else 0 := by
      by_cases hp : P M
      · rw [if_pos hp, sumQ_congr (g := fun i => ((if m M = i + 1 then 1 else 0 : Nat) : Rat) * degQ zs k (i + 1)) zs.length (fun i hi => by simp [hp]), pickQ]
        by_cases h : 1 ≤ m M ∧ m M ≤ zs.length
        · rw [if_pos h]
        · rw [if_neg h, degQ_off h]
      · rw [if_neg hp, sumQ_congr (g := fun _ => 0) zs.length (fun i hi => by simp [hp]), sumQ_none]
    rw [hR, hT]
theorem vand6 : ∀ k, k < 7 → ∀ u, u < k + 1 → ∀ j, j < u + 1 → ∀ i, i < k → cntN (fun t => metN (t + 1) u = j) (fun t => metN (t + 1) k) (i + 1) (2 ^ k - 1) = ch u j * chz (k - u) (((i + 1 : Nat) : Int) - (j : Int)) := by decide +kernel
theorem hit6 : ∀ s, s < 64 → ∀ u, u < 7 → leftN s u = if metN s u = 2 then 2 else 0 := by decide +kernel
section
variable {zs : List Int} {k u j : Nat}
theorem just_in (hok : okT zs (k : Int)) (hk : k ≤ 6) (hu : u ≤ k) (hj : j ≤ u) : sumQ 0 (fun t => if metN (t + 1) u = j then degQ zs k (metN (t + 1) k) else 0) (2 ^ k - 1) = inR24 zs k u j := by
  have hpos := okT_pos hok
  have hnk : zs.length ≤ k := by have := hok.2.2.2.1; omega
  obtain ⟨T, hT⟩ : ∃ T : Nat, totS (fun i => zs.getD i 0) zs.length = (T : Int) := ⟨(totS (fun i => zs.getD i 0) zs.length).toNat, by omega⟩
  rw [cntQ zs k (fun t => metN (t + 1) u = j) (fun t => metN (t + 1) k)]
  unfold inR24
  rw [hT, Int.toNat_natCast]
  refine sumQ_congr _ fun i hi => ?_
  rw [vand6 k (by omega) u (by omega) j (by omega) i (by omega)]
  unfold degQ inE meetsR
  rw [if_pos (by omega), hT, Int.toNat_natCast, Nat.add_sub_cancel, mkRat_mul (_ : Int) (ch k (i + 1)), Rat.div_def, Rat.mkRat_one, Rat.intCast_natCast, Rat.intCast_natCast, ← Rat.mul_assoc, ← Rat.mul_assoc]
  congr 1
  exact Rat.mul_comm _ _
theorem left_two (hok : okT zs (k : Int)) (hk : k ≤ 6) (hu : u ≤ k) : sumL24 (leftL zs k u (2 ^ k - 1)) = if 2 ≤ u then 2 * inR24 zs k u 2 else 0 := by
  have h64 : 2 ^ k ≤ 64 := by have := Nat.pow_le_pow_right (n := 2) (by decide) hk; simpa using this
  rw [sum_left, sumQ_congr (g := fun t => 2 * (if metN (t + 1) u = 2 then degQ zs k (metN (t + 1) k) else 0)) (2 ^ k - 1) (fun t ht => by
    rw [hit6 (t + 1) (by omega) u (by omega)]
    split
    · rfl
    · rw [show ((0 : Nat) : Rat) = 0 from rfl, Rat.zero_mul, Rat.mul_zero]), sumQ_times]
  by_cases h : 2 ≤ u
  · rw [if_pos h, just_in hok hk hu h]
  · rw [if_neg h, sumQ_congr (g := fun _ => 0) (2 ^ k - 1) (fun t ht => by rw [if_neg (by have := metN_le (t + 1) u; omega)]), sumQ_none, Rat.mul_zero]
theorem just_sum (hok : okT zs (k : Int)) (hk : k ≤ 6) (hu : u ≤ k) (hj : j ≤ u) : sumL24 (justL zs k u j (2 ^ k - 1)) = inR24 zs k u j := by rw [sum_just, just_in hok hk hu hj]
theorem part_none (hok : okT zs (k : Int)) (hk : k ≤ 6) (hu : u ≤ k) (h0 : cloudR zs k u = 0) (q : Rat) : (0 : Rat) * cloudR zs k u * q = sumL24 (leftL zs k u (2 ^ k - 1)) := by
  rw [left_two hok hk hu, Rat.zero_mul, Rat.zero_mul]
  by_cases h : 2 ≤ u
  · rw [if_pos h]
    have h1 := in_cloud hok h
    rw [h0] at h1
    have h2 := Rat.le_antisymm h1 (inR24_nonneg (u := u) hok 2)
    rw [h2, Rat.mul_zero]
  · rw [if_neg h]
theorem part_some (hok : okT zs (k : Int)) (hk : k ≤ 6) (hu : u ≤ k) (h0 : cloudR zs k u ≠ 0) : freeR zs k u * cloudR zs k u * mkRat (u : Int) 1 = sumL24 (leftL zs k u (2 ^ k - 1)) := by
  have hu2 : 2 ≤ u := by have := mt (cloud_one (zs := zs) (k := k) (u := u)) h0; omega
  rw [left_two hok hk hu, if_pos hu2]
  unfold freeR
  rw [Rat.div_mul_cancel h0, Rat.mkRat_one, mkRat_mul, Rat.intCast_natCast, Rat.mul_comm _ (u : Rat), ← Rat.mul_assoc, Rat.mul_comm (u : Rat), Rat.mul_assoc ((2 : Int) : Rat)]
  have hne : (u : Rat) ≠ 0 := fun e => by have := Rat.natCast_pos.2 (show 0 < u by omega); rw [e] at this; exact absurd this (by decide)
  rw [Rat.inv_mul_cancel _ hne, Rat.mul_one]
  rfl
theorem deg_len (hok : okT zs (k : Int)) (hk : k ≤ 6) (d : Nat) : rlen (degQ zs k d) ≤ 100 := by
  unfold degQ
  split
  · rename_i h
    have hin := okT_in hok
    have hpos := okT_pos hok
    have hnk : zs.length ≤ k := by have := hok.2.2.2.1; omega
    have htin := totS_in (g := fun i => zs.getD i 0) zs.length hin
    have hz := hin (d - 1) (by omega)
    obtain ⟨z, hzz⟩ : ∃ z, zs.getD (d - 1) 0 = z := ⟨_, rfl⟩
    obtain ⟨T, hT⟩ : ∃ T : Nat, totS (fun i => zs.getD i 0) zs.length = (T : Int) := ⟨(totS (fun i => zs.getD i 0) zs.length).toNat, by omega⟩
    rw [hzz] at hz ⊢
    rw [hT, Int.toNat_natCast]
    have l1 : rlen (mkRat z T) ≤ 1 := rlen_mkRat (by omega) (digs_length_le.2 (by simp; omega)) (digs_length_le.2 (by simp; omega))
    have lc := ch_len (n := k) (by omega) d
    have l2 : rlen (mkRat (ch k d : Int) 1) ≤ 90 := rlen_mkRat (by decide) (by rw [Int.natAbs_natCast]; omega) (by decide)
    have hne : mkRat (ch k d : Int) 1 ≠ 0 := by
      intro h
      rw [Rat.mkRat_one] at h
      have h2 : ((ch k d : Int) : Rat) = ((0 : Int) : Rat) := h
      have := Rat.intCast_inj.1 h2
      have := ch_pos (n := k) (k := d) (by omega)
      omega
    rw [Rat.div_def]
    have l3 : rlen (mkRat z T * (mkRat (ch k d : Int) 1)⁻¹) ≤ rlen (mkRat z T) + rlen (mkRat (ch k d : Int) 1)⁻¹ + 1 := product_short _ _
    rw [rlen_inv hne] at l3
    omega
  · decide
theorem all_len {L : List Rat} {K : Nat} (h : ∀ x ∈ L, rlen x ≤ K) : ∀ i, i < L.length → rlen (L.getD i 0) ≤ K := fun i hi => by
  rw [List.getD_eq_getElem?_getD, List.getElem?_eq_getElem hi]
  exact h _ (List.getElem_mem hi)
theorem just_len (hok : okT zs (k : Int)) (hk : k ≤ 6) : ∀ t, ∀ x ∈ justL zs k u j t, rlen x ≤ 100
  | 0, x, hx => by simp [justL] at hx
  | t + 1, x, hx => by
    unfold justL at hx
    split at hx
    · rcases List.mem_append.1 hx with h | h
      · exact just_len hok hk t x h
      · obtain rfl := List.mem_singleton.1 h
        exact deg_len hok hk _
    · exact just_len hok hk t x hx
theorem left_len (hok : okT zs (k : Int)) (hk : k ≤ 6) : ∀ t, ∀ x ∈ leftL zs k u t, rlen x ≤ 100
  | 0, x, hx => by simp [leftL] at hx
  | t + 1, x, hx => by
    unfold leftL at hx
    rcases List.mem_append.1 hx with h | h
    · exact left_len hok hk t x h
    · obtain ⟨_, rfl⟩ := List.mem_replicate.1 h
      exact deg_len hok hk _
end

end Go.Proofs.Ytlkoenpdmlbhlaa
