/- the laws of times: TimesPowers, TimesSums. -/
import Derived.Test.YtlljljhiimeajaaLaw02b
import Derived.Test.YtlljljhiimeajaaRefs9
set_option linter.unusedVariables false
set_option linter.unusedSimpArgs false
namespace Go.Proofs.Ytlljljhiimeajaa
open Go.RowKit

set_option maxRecDepth 100000 in
set_option maxHeartbeats 8000000 in
theorem timesPowers_any (a : Option Addr) (n c : Nat) (l : List Nat) (e : Int) (w : World) (g1 : NatAt w a n c l) (b1 : -9223372036854775808 ≤ e) (b2 : e ≤ 9223372036854775807) :
    Calls Try.prog 4 #[.slice a n c, .int .i64 e] w (RetVal w (.bool true)) := by
  have hc1 := Nat.le_trans g1.le g1.cle
  by_cases hl1 : 6 < n
  · have t1 : decide ((6 : Int) < (n : Int)) = true := by simp; omega
    go_enter Try.func4, Try.ntmps4
    have hB := Below.refl w.heap.size w
    go_wp2_with fail
    with_reducible refine (longNat_any _ _ _ _ _ hc1).mono ?_
    rintro e w' ⟨rfl, rfl⟩
    go_wp2_with fail
    with_reducible refine (awake02 _).mono ?_
    rintro e w1 ⟨rfl, hb⟩
    have hB := below_later hB hb
    clear hb
    go_wp2
    go_ret
    exact ⟨rfl, hB⟩
  have t1 : decide ((6 : Int) < (n : Int)) = false := by simp; omega
  by_cases hl2 : 40 < e ∧ e ≤ 65536
  · obtain ⟨hl3, hl4⟩ := hl2
    go_enter Try.func4, Try.ntmps4
    have hB := Below.refl w.heap.size w
    go_wp2_with fail
    with_reducible refine (longNat_any _ _ _ _ _ hc1).mono ?_
    rintro e w' ⟨rfl, rfl⟩
    go_wp2_with fail
    with_reducible refine (awake02 _).mono ?_
    rintro e w1 ⟨rfl, hb⟩
    have hB := below_later hB hb
    clear hb
    go_wp2
    go_ret
    exact ⟨rfl, hB⟩
  by_cases hno : e < 0 ∨ 65536 < e
  · have hno2 : ¬ (40 < e ∧ e ≤ 65536) := hl2
    rcases hno with hno | hno
    all_goals
      go_enter Try.func4, Try.ntmps4
      have hB := Below.refl w.heap.size w
      go_wp2_with fail
      with_reducible refine (longNat_any _ _ _ _ _ hc1).mono ?_
      rintro e w' ⟨rfl, rfl⟩
      go_wp2_with fail
      with_reducible refine (copyNat_any _ _ _ l _ g1 (by omega)).mono ?_
      rintro e w1 ⟨ahI, nhI, chI, rfl, hI, hb⟩
      have g1 := (g1).past hb
      have hB := below_later hB hb
      clear hb
      have bI : nhI ≤ n := by have h1 := hI.len; have h2 := g1.len; omega
      go_wp2_with fail
      with_reducible refine (power_no _ _ _ _ _ (by omega)).mono ?_
      rintro e w2 ⟨rfl, hb⟩
      have g1 := (g1).past hb
      have hI := (hI).later hb (Nat.le_refl _)
      have hB := below_later hB hb
      clear hb
      go_wp2_with fail
      with_reducible refine (rpower_no _ _ _ _ _ (by omega)).mono ?_
      rintro e w3 ⟨rfl, hb⟩
      have g1 := (g1).past hb
      have hI := (hI).later hb (Nat.le_refl _)
      have hB := below_later hB hb
      clear hb
      go_wp2_with fail
      with_reducible refine (sameNat_yes (NatAt.nil _) (NatAt.nil _)).mono ?_
      rintro e w4 ⟨rfl, hb⟩
      have g1 := (g1).past hb
      have hI := (hI).later hb (Nat.le_refl _)
      have hB := below_later hB hb
      clear hb
      have hZ := Below.refl w4.heap.size w4
      have zB := hB
      have zg1 := g1
      have zhI := hI.toNatAt
      go_wp2_with fail
      with_reducible refine (overNat_any w4.heap.size _ _ _ _ (OwnAt.nil _ _).writ).mono ?_
      rintro e w5 ⟨rfl, hb, hg⟩
      have hZ := hZ.trans hb
      clear hb hg
      have g1 := zg1.past hZ
      have hI := zhI.past hZ
      have hB := below_later zB hZ
      go_wp2_with fail
      with_reducible refine (sameNat_yes hI g1).mono ?_
      rintro e w6 ⟨rfl, hb⟩
      have hB := below_later hB hb
      clear hb
      go_wp2_with fail
      with_reducible refine (awake02 _).mono ?_
      rintro e w7 ⟨rfl, hb⟩
      have hB := below_later hB hb
      clear hb
      go_wp2
      go_ret
      exact ⟨rfl, hB⟩
  obtain ⟨k, rfl⟩ := Int.eq_ofNat_of_zero_le (show 0 ≤ e by omega)
  have hk : k ≤ 40 := by omega
  have hm : k * nbits (val l) ≤ 16777216 := by
    have h1 := nbits_le_len g1.dig
    rw [g1.len] at h1
    have h2 : k * nbits (val l) ≤ 40 * (64 * 6) := Nat.mul_le_mul hk (by omega)
    omega
  have HK := Lib.hid hm
  clear hm hl2 hno
  go_enter Try.func4, Try.ntmps4
  have hB := Below.refl w.heap.size w
  go_wp2_with fail
  with_reducible refine (longNat_any _ _ _ _ _ hc1).mono ?_
  rintro e w' ⟨rfl, rfl⟩
  go_wp2_with fail
  with_reducible refine (copyNat_any _ _ _ l _ g1 (by omega)).mono ?_
  rintro e w1 ⟨ahI, nhI, chI, rfl, hI, hb⟩
  have g1 := (g1).past hb
  have hB := below_later hB hb
  clear hb
  have bI : nhI ≤ n := by have h1 := hI.len; have h2 := g1.len; omega
  have hZ := Below.refl w1.heap.size w1
  have zB := hB
  have zg1 := g1
  have zhI := hI.toNatAt
  go_wp2_with fail
  with_reducible refine (power_yes _ _ _ l k _ hI.toNatAt (by omega) (by omega) HK.out).mono ?_
  rintro e w2 ⟨ahX, nhX, chX, rfl, hX, hb⟩
  have g1 := (g1).past hb
  have hI := (hI).later hb (Nat.le_refl _)
  have hB := below_later hB hb
  have hX := hX.mono (Below.size hZ)
  have hZ := below_later hZ hb
  clear hb
  go_wp2_with fail
  with_reducible refine (rpower_yes _ _ _ l k _ g1 (by omega) (by omega) HK.out).mono ?_
  rintro e w3 ⟨ahY, nhY, chY, rfl, hY, hb⟩
  have g1 := (g1).past hb
  have hI := (hI).later hb (Nat.le_refl _)
  have hX := (hX).later hb (Nat.le_refl _)
  have hB := below_later hB hb
  have hY := hY.mono (Below.size hZ)
  have hZ := below_later hZ hb
  clear hb
  go_wp2_with fail
  with_reducible refine (sameNat_yes hX.toNatAt hY.toNatAt).mono ?_
  rintro e w4 ⟨rfl, hb⟩
  have g1 := (g1).past hb
  have hI := (hI).later hb (Nat.le_refl _)
  have hX := (hX).later hb (Nat.le_refl _)
  have hY := (hY).later hb (Nat.le_refl _)
  have hB := below_later hB hb
  have hZ := below_later hZ hb
  clear hb
  have hX := hX.writ
  go_wp2_with fail
  with_reducible refine (overNat_any w1.heap.size _ _ _ _ hX).mono ?_
  rintro e w5 ⟨rfl, hb, hg⟩
  have hZ := hZ.trans hb
  clear hb hg hX
  have g1 := zg1.past hZ
  have hI := zhI.past hZ
  have hB := below_later zB hZ
  go_wp2_with fail
  with_reducible refine (sameNat_yes hI g1).mono ?_
  rintro e w6 ⟨rfl, hb⟩
  have hB := below_later hB hb
  clear hb
  go_wp2_with fail
  with_reducible refine (awake02 _).mono ?_
  rintro e w7 ⟨rfl, hb⟩
  have hB := below_later hB hb
  clear hb
  go_wp2
  go_ret
  exact ⟨rfl, hB⟩

theorem pickN (x k : Int) (hk : 0 < k) : ∃ p : Nat, pickI x k = p ∧ (p : Int) < k := by
  have h : 0 ≤ pickI x k ∧ pickI x k < k := by
    unfold pickI
    rw [if_neg (by omega)]
    exact ⟨Int.emod_nonneg x (by omega), Int.emod_lt_of_pos x (by omega)⟩
  exact ⟨(pickI x k).toNat, by omega, by omega⟩
set_option maxRecDepth 100000 in
set_option maxHeartbeats 8000000 in
theorem timesSums_any (a : Option Addr) (n c : Nat) (l : List Nat) (s t : Int) (w : World) (g1 : NatAt w a n c l) (b1 : -9223372036854775808 ≤ s) (b2 : s ≤ 9223372036854775807) (b3 : -9223372036854775808 ≤ t) (b4 : t ≤ 9223372036854775807) :
    Calls Try.prog 5 #[.slice a n c, .int .i64 s, .int .i64 t] w (RetVal w (.bool true)) := by
  have hc1 := Nat.le_trans g1.le g1.cle
  by_cases hl1 : 4 < n
  · have t1 : decide ((4 : Int) < (n : Int)) = true := by simp; omega
    go_enter Try.func5, Try.ntmps5
    have hB := Below.refl w.heap.size w
    go_wp2_with fail
    with_reducible refine (awake02 _).mono ?_
    rintro e w1 ⟨rfl, hb⟩
    have hB := below_later hB hb
    clear hb
    go_wp2_with fail
    with_reducible refine (longNat_any _ _ _ _ _ hc1).mono ?_
    rintro e w' ⟨rfl, rfl⟩
    go_wp2
    go_ret
    exact ⟨rfl, hB⟩
  have t1 : decide ((4 : Int) < (n : Int)) = false := by simp; omega
  obtain ⟨p, hp, hp2⟩ := pickN s 10 (by decide)
  obtain ⟨q, hq, hq2⟩ := pickN t 10 (by decide)
  have HP := Lib.hid hp
  have HQ := Lib.hid hq
  clear hp hq
  have h1 := nbits_le_len g1.dig
  rw [g1.len] at h1
  have hb : ∀ k, k ≤ 100 → k * nbits (val l) ≤ 16777216 := fun k hk => by
    have h2 : k * nbits (val l) ≤ 100 * (64 * 4) := Nat.mul_le_mul hk (by omega)
    omega
  have hpq : p * q ≤ 100 := by have := Nat.mul_le_mul (show p ≤ 10 by omega) (show q ≤ 10 by omega); omega
  obtain ⟨K, hK⟩ : ∃ K, K = 25601 := ⟨_, rfl⟩
  have hlp : ∀ k, k ≤ 100 → nbits (val l ^ k) ≤ K := fun k hk => nbits_le (by
    refine Nat.lt_of_le_of_lt (Nat.pow_le_pow_left (Nat.le_of_lt (nbits_lt (val l))) k) ?_
    rw [← Nat.pow_mul]
    refine Nat.pow_lt_pow_right (by decide) ?_
    have h2 : nbits (val l) * k ≤ 256 * 100 := Nat.mul_le_mul (by omega) hk
    omega)
  have l1 : (digs (val l ^ p)).length ≤ 401 := pow_len (N := 25600) (e := p) (by have := hb p (by omega); have h2 : p * nbits (val l) ≤ 100 * (64 * 4) := Nat.mul_le_mul (by omega) (by omega); omega) p (Nat.le_refl _)
  have l2 : (digs (val l ^ q)).length ≤ 401 := pow_len (N := 25600) (e := q) (by have h2 : q * nbits (val l) ≤ 100 * (64 * 4) := Nat.mul_le_mul (by omega) (by omega); omega) q (Nat.le_refl _)
  have f1 := hb p (by omega)
  have f2 := hb q (by omega)
  have f3 := hb (p + q) (by omega)
  have f4 : q * nbits (val (digs (val l ^ p))) ≤ 16777216 := by
    rw [val_digs]
    have h3 := hlp p (by omega)
    have h2 : q * nbits (val l ^ p) ≤ 100 * K := Nat.mul_le_mul (by omega) h3
    omega
  have f5 := hb (p * q) hpq
  have epq : (p : Int) + (q : Int) = ((p + q : Nat) : Int) := by omega
  have emq : (p : Int) * (q : Int) = ((p * q : Nat) : Int) := by simp
  have wmq : IntKind.i64.wrap ((p : Int) * (q : Int)) = ((p * q : Nat) : Int) := by rw [emq]; exact IntWalk.i64_in _ (by omega)
  have v1 : digs (val (digs (val l ^ p)) * val (digs (val l ^ q))) = digs (val l ^ (p + q)) := by rw [val_digs, val_digs, Nat.pow_add]
  have v2 : digs (val (digs (val l ^ p)) ^ q) = digs (val l ^ (p * q)) := by rw [val_digs, Nat.pow_mul]
  have F1 := Lib.hid f1
  have F2 := Lib.hid f2
  have F3 := Lib.hid f3
  have F4 := Lib.hid f4
  have F5 := Lib.hid f5
  have V1 := Lib.hid v1
  have V2 := Lib.hid v2
  have EPQ := Lib.hid epq
  have L1 := Lib.hid l1
  have L2 := Lib.hid l2
  have hpq2 : p * q ≤ 65536 := by omega
  clear f1 f2 f3 f4 f5 v1 v2 epq emq h1 hb hpq hlp l1 l2
  go_enter Try.func5, Try.ntmps5
  have hB := Below.refl w.heap.size w
  go_wp2_with fail
  with_reducible refine (awake02 _).mono ?_
  rintro e w1 ⟨rfl, hb⟩
  have g1 := (g1).past hb
  have hB := below_later hB hb
  clear hb
  go_wp2_with fail
  with_reducible refine (longNat_any _ _ _ _ _ hc1).mono ?_
  rintro e w' ⟨rfl, rfl⟩
  go_wp2_with fail
  with_reducible refine (pick_any _ _ _ b1 b2 (by decide)).mono ?_
  rintro e w' ⟨rfl, rfl⟩
  rw [HP.out]
  go_wp2_with fail
  with_reducible refine (pick_any _ _ _ b3 b4 (by decide)).mono ?_
  rintro e w' ⟨rfl, rfl⟩
  rw [HQ.out]
  go_wp2_with fail
  with_reducible refine (power_yes _ _ _ l p _ g1 (by omega) (by omega) F1.out).mono ?_
  rintro e w2 ⟨ahP, nhP, chP, rfl, hP, hb⟩
  have g1 := (g1).past hb
  have hB := below_later hB hb
  clear hb
  go_wp2_with fail
  with_reducible refine (power_yes _ _ _ l q _ g1 (by omega) (by omega) F2.out).mono ?_
  rintro e w3 ⟨ahQ, nhQ, chQ, rfl, hQ, hb⟩
  have g1 := (g1).past hb
  have hP := (hP).later hb (Nat.le_refl _)
  have hB := below_later hB hb
  clear hb
  go_wp2_with fail
  try rw [EPQ.out]
  go_wp2_with fail
  with_reducible refine (power_yes _ _ _ l (p + q) _ g1 (by omega) (by omega) F3.out).mono ?_
  rintro e w4 ⟨ahS, nhS, chS, rfl, hS, hb⟩
  have g1 := (g1).past hb
  have hP := (hP).later hb (Nat.le_refl _)
  have hQ := (hQ).later hb (Nat.le_refl _)
  have hB := below_later hB hb
  clear hb
  go_wp2_with fail
  with_reducible refine (power_yes _ _ _ (digs (val l ^ p)) q _ hP.toNatAt (by have h1 := hP.len; have h2 := L1.out; omega) (by omega) F4.out).mono ?_
  rintro e w5 ⟨ahT, nhT, chT, rfl, hT, hb⟩
  have g1 := (g1).past hb
  have hP := (hP).later hb (Nat.le_refl _)
  have hQ := (hQ).later hb (Nat.le_refl _)
  have hS := (hS).later hb (Nat.le_refl _)
  have hB := below_later hB hb
  clear hb
  rw [V2.out] at hT
  go_wp2_with fail
  rw [← Int.natCast_mul]
  with_reducible refine (power_yes _ _ _ l (p * q) _ g1 (by omega) (by have := hpq2; omega) F5.out).mono ?_
  rintro e w6 ⟨ahU, nhU, chU, rfl, hU, hb⟩
  have g1 := (g1).past hb
  have hP := (hP).later hb (Nat.le_refl _)
  have hQ := (hQ).later hb (Nat.le_refl _)
  have hS := (hS).later hb (Nat.le_refl _)
  have hT := (hT).later hb (Nat.le_refl _)
  have hB := below_later hB hb
  clear hb
  go_wp2_with fail
  with_reducible refine (tmul_any _ _ _ (digs (val l ^ p)) _ _ _ (digs (val l ^ q)) _ hP.toNatAt hQ.toNatAt (by have h1 := hP.len; have h2 := L1.out; omega) (by have h1 := hQ.len; have h2 := L2.out; omega)).mono ?_
  rintro e w7 ⟨ahV, nhV, chV, rfl, hV, hb⟩
  have g1 := (g1).past hb
  have hP := (hP).later hb (Nat.le_refl _)
  have hQ := (hQ).later hb (Nat.le_refl _)
  have hS := (hS).later hb (Nat.le_refl _)
  have hT := (hT).later hb (Nat.le_refl _)
  have hU := (hU).later hb (Nat.le_refl _)
  have hB := below_later hB hb
  clear hb
  rw [V1.out] at hV
  go_wp2_with fail
  with_reducible refine (sameNat_yes hV.toNatAt hS.toNatAt).mono ?_
  rintro e w8 ⟨rfl, hb⟩
  have hS := (hS).later hb (Nat.le_refl _)
  have hT := (hT).later hb (Nat.le_refl _)
  have hU := (hU).later hb (Nat.le_refl _)
  have hV := (hV).later hb (Nat.le_refl _)
  have hB := below_later hB hb
  clear hb
  go_wp2_with fail
  with_reducible refine (sameNat_yes hT.toNatAt hU.toNatAt).mono ?_
  rintro e w9 ⟨rfl, hb⟩
  have hB := below_later hB hb
  clear hb
  go_wp2
  go_ret
  exact ⟨rfl, hB⟩

end Go.Proofs.Ytlljljhiimeajaa
