/- the laws of times: TimesBits. -/
import Derived.Test.YtlljljhiimeajaaLaw02e
set_option linter.unusedVariables false
set_option linter.unusedSimpArgs false
namespace Go.Proofs.Ytlljljhiimeajaa
open Go.RowKit

theorem chk_digs (N : Nat) : chk (digs N) = 0 := chk_top.2 (top_digs N)
theorem cmpI_mul {x y z : Nat} (h : x ≠ 0) : cmpI (x * y) (x * z) = cmpI y z := by
  have hx : 0 < x := Nat.pos_of_ne_zero h
  unfold cmpI
  simp only [Nat.mul_lt_mul_left hx]
theorem nbits_prod {x y : Nat} (hx : x ≠ 0) (hy : y ≠ 0) : nbits (x * y) = nbits x + nbits y ∨ nbits (x * y) = nbits x + nbits y - 1 := by
  have h1 : nbits (x * y) ≤ nbits x + nbits y := nbits_le (by
    rw [Nat.pow_add]
    exact Nat.mul_lt_mul'' (nbits_lt x) (nbits_lt y))
  have px : 0 < nbits x := nbits_gt (by rw [Nat.pow_zero]; omega)
  have py : 0 < nbits y := nbits_gt (by rw [Nat.pow_zero]; omega)
  have h2 : nbits x - 1 + (nbits y - 1) < nbits (x * y) := nbits_gt (by
    rw [Nat.pow_add]
    exact Nat.mul_le_mul (nbits_low hx) (nbits_low hy))
  omega
set_option maxRecDepth 100000 in
set_option maxHeartbeats 8000000 in
theorem timesBits_a (a : Option Addr) (n c : Nat) (l : List Nat) (a2 : Option Addr) (n2 c2 : Nat) (l2 : List Nat) (a3 : Option Addr) (n3 c3 : Nat) (l3 : List Nat) (w : World) (g1 : NatAt w a n c l) (g2 : NatAt w a2 n2 c2 l2) (g3 : NatAt w a3 n3 c3 l3) (hn1 : n ≤ 20) (hn2 : n2 ≤ 20) (hn3 : n3 ≤ 20) (hz : val l = 0) :
    Calls Try.prog 14 #[.slice a n c, .slice a2 n2 c2, .slice a3 n3 c3] w (RetVal w (.bool true)) := by
  have hc1 := Nat.le_trans g1.le g1.cle
  have hc2 := Nat.le_trans g2.le g2.cle
  have hc3 := Nat.le_trans g3.le g3.cle
  have t0 : decide ((20 : Int) < (n : Int)) = false := by simp; omega
  have t1 : decide ((20 : Int) < (n2 : Int)) = false := by simp; omega
  have t2 : decide ((20 : Int) < (n3 : Int)) = false := by simp; omega
  have e0 := chk_digs (val l * val l2)
  have e1 := chk_digs (val l * val l3)
  have e2 := chk_digs (val l * val l)
  have s1 := nbits_le_len g1.dig
  have s2 := nbits_le_len g2.dig
  have s3 := g1.len
  have s4 := g2.len
  have b1 : nbits (val l) = 0 := by rw [hz]; rfl
  have b3 : nbits (val (digs (val l * val l2))) = 0 := by rw [hz, Nat.zero_mul]; rfl
  have B1 := Lib.hid b1
  have B3 := Lib.hid b3
  clear b1 b3 hz
  have E0 := Lib.hid e0
  have E1 := Lib.hid e1
  have E2 := Lib.hid e2
  clear e0 e1 e2
  go_enter Try.func14, Try.ntmps14
  have hB := Below.refl w.heap.size w
  go_wp2_with fail
  with_reducible refine (timesKnown_any _).mono ?_
  rintro e w1 ⟨rfl, hb⟩
  have g1 := (g1).past hb
  have g2 := (g2).past hb
  have g3 := (g3).past hb
  have hB := below_later hB hb
  clear hb
  go_wp2_with fail
  with_reducible refine (longNat_any _ _ _ _ _ hc1).mono ?_
  rintro e w' ⟨rfl, rfl⟩
  go_wp2_with fail
  with_reducible refine (longNat_any _ _ _ _ _ hc2).mono ?_
  rintro e w' ⟨rfl, rfl⟩
  go_wp2_with fail
  with_reducible refine (longNat_any _ _ _ _ _ hc3).mono ?_
  rintro e w' ⟨rfl, rfl⟩
  go_wp2_with fail
  with_reducible refine (tmul_any _ _ _ l _ _ _ l2 _ g1 g2 (by omega) (by omega)).mono ?_
  rintro e w2 ⟨ahP, nhP, chP, rfl, hP, hb⟩
  have g1 := (g1).past hb
  have g2 := (g2).past hb
  have g3 := (g3).past hb
  have hB := below_later hB hb
  clear hb
  go_wp2_with fail
  with_reducible refine (tmul_any _ _ _ l _ _ _ l3 _ g1 g3 (by omega) (by omega)).mono ?_
  rintro e w3 ⟨ahQ, nhQ, chQ, rfl, hQ, hb⟩
  have g1 := (g1).past hb
  have g2 := (g2).past hb
  have g3 := (g3).past hb
  have hP := (hP).later hb (Nat.le_refl _)
  have hB := below_later hB hb
  clear hb
  have q1 : nhP ≤ 100 := by have := hP.len; have := g1.short; have := g2.short; have := digs_len_prod (val l) (val l2); omega
  go_wp2_with fail
  with_reducible refine (check_any _ _ _ _ _ hP.toNatAt).mono ?_
  rintro e w' ⟨rfl, rfl⟩
  rw [E0.out]
  go_wp2_with fail
  with_reducible refine (check_any _ _ _ _ _ hQ.toNatAt).mono ?_
  rintro e w' ⟨rfl, rfl⟩
  rw [E1.out]
  go_wp2_with fail
  with_reducible refine (square_any _ _ _ l _ g1 (by omega)).mono ?_
  rintro e w4 ⟨ahS, nhS, chS, rfl, hS, hb⟩
  have g1 := (g1).past hb
  have g2 := (g2).past hb
  have g3 := (g3).past hb
  have hP := (hP).later hb (Nat.le_refl _)
  have hQ := (hQ).later hb (Nat.le_refl _)
  have hB := below_later hB hb
  clear hb
  go_wp2_with fail
  with_reducible refine (check_any _ _ _ _ _ hS.toNatAt).mono ?_
  rintro e w' ⟨rfl, rfl⟩
  rw [E2.out]
  go_wp2_with fail
  with_reducible refine (len_any _ _ _ l _ g1 (by omega)).mono ?_
  rintro e w' ⟨rfl, rfl⟩
  rw [B1.out]
  go_wp2_with fail
  with_reducible refine (len_any _ _ _ l _ g1 (by omega)).mono ?_
  rintro e w' ⟨rfl, rfl⟩
  rw [B1.out]
  go_wp2_with fail
  with_reducible refine (len_any _ _ _ (digs (val l * val l2)) _ hP.toNatAt (by omega)).mono ?_
  rintro e w' ⟨rfl, rfl⟩
  rw [B3.out]
  go_wp2
  go_ret
  exact ⟨rfl, hB⟩
set_option maxRecDepth 100000 in
set_option maxHeartbeats 8000000 in
theorem timesBits_b (a : Option Addr) (n c : Nat) (l : List Nat) (a2 : Option Addr) (n2 c2 : Nat) (l2 : List Nat) (a3 : Option Addr) (n3 c3 : Nat) (l3 : List Nat) (w : World) (g1 : NatAt w a n c l) (g2 : NatAt w a2 n2 c2 l2) (g3 : NatAt w a3 n3 c3 l3) (hn1 : n ≤ 20) (hn2 : n2 ≤ 20) (hn3 : n3 ≤ 20) (hz : val l ≠ 0) (hy : val l2 = 0) :
    Calls Try.prog 14 #[.slice a n c, .slice a2 n2 c2, .slice a3 n3 c3] w (RetVal w (.bool true)) := by
  have hc1 := Nat.le_trans g1.le g1.cle
  have hc2 := Nat.le_trans g2.le g2.cle
  have hc3 := Nat.le_trans g3.le g3.cle
  have t0 : decide ((20 : Int) < (n : Int)) = false := by simp; omega
  have t1 : decide ((20 : Int) < (n2 : Int)) = false := by simp; omega
  have t2 : decide ((20 : Int) < (n3 : Int)) = false := by simp; omega
  have e0 := chk_digs (val l * val l2)
  have e1 := chk_digs (val l * val l3)
  have e2 := chk_digs (val l * val l)
  have s1 := nbits_le_len g1.dig
  have s2 := nbits_le_len g2.dig
  have s3 := g1.len
  have s4 := g2.len
  obtain ⟨x, b1⟩ : ∃ x, nbits (val l) = x := ⟨_, rfl⟩
  have b4 : cmpI (val (digs (val l * val l2))) (val (digs (val l * val l3))) = cmpI (val l2) (val l3) := by rw [val_digs, val_digs, cmpI_mul hz]
  have px : 0 < x := by rw [← b1]; exact nbits_gt (by rw [Nat.pow_zero]; omega)
  have px2 : ((x : Int) == 0) = false := by simp; omega
  have b2 : nbits (val l2) = 0 := by rw [hy]; rfl
  have b3 : nbits (val (digs (val l * val l2))) = 0 := by rw [hy, Nat.mul_zero]; rfl
  rw [b1] at s1
  have B1 := Lib.hid b1
  have B2 := Lib.hid b2
  have B3 := Lib.hid b3
  have B4 := Lib.hid b4
  clear b1 b2 b3 b4 hz hy s2
  have E0 := Lib.hid e0
  have E1 := Lib.hid e1
  have E2 := Lib.hid e2
  clear e0 e1 e2
  go_enter Try.func14, Try.ntmps14
  have hB := Below.refl w.heap.size w
  go_wp2_with fail
  with_reducible refine (timesKnown_any _).mono ?_
  rintro e w1 ⟨rfl, hb⟩
  have g1 := (g1).past hb
  have g2 := (g2).past hb
  have g3 := (g3).past hb
  have hB := below_later hB hb
  clear hb
  go_wp2_with fail
  with_reducible refine (longNat_any _ _ _ _ _ hc1).mono ?_
  rintro e w' ⟨rfl, rfl⟩
  go_wp2_with fail
  with_reducible refine (longNat_any _ _ _ _ _ hc2).mono ?_
  rintro e w' ⟨rfl, rfl⟩
  go_wp2_with fail
  with_reducible refine (longNat_any _ _ _ _ _ hc3).mono ?_
  rintro e w' ⟨rfl, rfl⟩
  go_wp2_with fail
  with_reducible refine (tmul_any _ _ _ l _ _ _ l2 _ g1 g2 (by omega) (by omega)).mono ?_
  rintro e w2 ⟨ahP, nhP, chP, rfl, hP, hb⟩
  have g1 := (g1).past hb
  have g2 := (g2).past hb
  have g3 := (g3).past hb
  have hB := below_later hB hb
  clear hb
  go_wp2_with fail
  with_reducible refine (tmul_any _ _ _ l _ _ _ l3 _ g1 g3 (by omega) (by omega)).mono ?_
  rintro e w3 ⟨ahQ, nhQ, chQ, rfl, hQ, hb⟩
  have g1 := (g1).past hb
  have g2 := (g2).past hb
  have g3 := (g3).past hb
  have hP := (hP).later hb (Nat.le_refl _)
  have hB := below_later hB hb
  clear hb
  have q1 : nhP ≤ 100 := by have := hP.len; have := g1.short; have := g2.short; have := digs_len_prod (val l) (val l2); omega
  go_wp2_with fail
  with_reducible refine (check_any _ _ _ _ _ hP.toNatAt).mono ?_
  rintro e w' ⟨rfl, rfl⟩
  rw [E0.out]
  go_wp2_with fail
  with_reducible refine (check_any _ _ _ _ _ hQ.toNatAt).mono ?_
  rintro e w' ⟨rfl, rfl⟩
  rw [E1.out]
  go_wp2_with fail
  with_reducible refine (square_any _ _ _ l _ g1 (by omega)).mono ?_
  rintro e w4 ⟨ahS, nhS, chS, rfl, hS, hb⟩
  have g1 := (g1).past hb
  have g2 := (g2).past hb
  have g3 := (g3).past hb
  have hP := (hP).later hb (Nat.le_refl _)
  have hQ := (hQ).later hb (Nat.le_refl _)
  have hB := below_later hB hb
  clear hb
  go_wp2_with fail
  with_reducible refine (check_any _ _ _ _ _ hS.toNatAt).mono ?_
  rintro e w' ⟨rfl, rfl⟩
  rw [E2.out]
  go_wp2_with fail
  with_reducible refine (len_any _ _ _ l _ g1 (by omega)).mono ?_
  rintro e w' ⟨rfl, rfl⟩
  rw [B1.out]
  go_wp2_with fail
  with_reducible refine (cmp_any _ _ _ _ _ _ _ _ _ hP.toNatAt hQ.toNatAt).mono ?_
  rintro e w5 ⟨rfl, hb⟩
  have g1 := (g1).past hb
  have g2 := (g2).past hb
  have g3 := (g3).past hb
  have hP := (hP).later hb (Nat.le_refl _)
  have hQ := (hQ).later hb (Nat.le_refl _)
  have hB := below_later hB hb
  clear hb
  rw [B4.out]
  go_wp2_with fail
  with_reducible refine (cmp_any _ _ _ _ _ _ _ _ _ g2 g3).mono ?_
  rintro e w6 ⟨rfl, hb⟩
  have g1 := (g1).past hb
  have g2 := (g2).past hb
  have g3 := (g3).past hb
  have hP := (hP).later hb (Nat.le_refl _)
  have hQ := (hQ).later hb (Nat.le_refl _)
  have hB := below_later hB hb
  clear hb
  go_wp2_with fail
  with_reducible refine (len_any _ _ _ l _ g1 (by omega)).mono ?_
  rintro e w' ⟨rfl, rfl⟩
  rw [B1.out]
  go_wp2_with fail
  with_reducible refine (len_any _ _ _ l2 _ g2 (by omega)).mono ?_
  rintro e w' ⟨rfl, rfl⟩
  rw [B2.out]
  go_wp2_with fail
  with_reducible refine (len_any _ _ _ (digs (val l * val l2)) _ hP.toNatAt (by omega)).mono ?_
  rintro e w' ⟨rfl, rfl⟩
  rw [B3.out]
  go_wp2
  go_ret
  exact ⟨rfl, hB⟩
set_option maxRecDepth 100000 in
set_option maxHeartbeats 8000000 in
theorem timesBits_c (a : Option Addr) (n c : Nat) (l : List Nat) (a2 : Option Addr) (n2 c2 : Nat) (l2 : List Nat) (a3 : Option Addr) (n3 c3 : Nat) (l3 : List Nat) (w : World) (g1 : NatAt w a n c l) (g2 : NatAt w a2 n2 c2 l2) (g3 : NatAt w a3 n3 c3 l3) (hn1 : n ≤ 20) (hn2 : n2 ≤ 20) (hn3 : n3 ≤ 20) (hz : val l ≠ 0) (hy : val l2 ≠ 0) (hv : nbits (val l * val l2) = nbits (val l) + nbits (val l2)) :
    Calls Try.prog 14 #[.slice a n c, .slice a2 n2 c2, .slice a3 n3 c3] w (RetVal w (.bool true)) := by
  have hc1 := Nat.le_trans g1.le g1.cle
  have hc2 := Nat.le_trans g2.le g2.cle
  have hc3 := Nat.le_trans g3.le g3.cle
  have t0 : decide ((20 : Int) < (n : Int)) = false := by simp; omega
  have t1 : decide ((20 : Int) < (n2 : Int)) = false := by simp; omega
  have t2 : decide ((20 : Int) < (n3 : Int)) = false := by simp; omega
  have e0 := chk_digs (val l * val l2)
  have e1 := chk_digs (val l * val l3)
  have e2 := chk_digs (val l * val l)
  have s1 := nbits_le_len g1.dig
  have s2 := nbits_le_len g2.dig
  have s3 := g1.len
  have s4 := g2.len
  obtain ⟨x, b1⟩ : ∃ x, nbits (val l) = x := ⟨_, rfl⟩
  have b4 : cmpI (val (digs (val l * val l2))) (val (digs (val l * val l3))) = cmpI (val l2) (val l3) := by rw [val_digs, val_digs, cmpI_mul hz]
  have px : 0 < x := by rw [← b1]; exact nbits_gt (by rw [Nat.pow_zero]; omega)
  have px2 : ((x : Int) == 0) = false := by simp; omega
  obtain ⟨y, b2⟩ : ∃ y, nbits (val l2) = y := ⟨_, rfl⟩
  have py : 0 < y := by rw [← b2]; exact nbits_gt (by rw [Nat.pow_zero]; omega)
  have py2 : ((y : Int) == 0) = false := by simp; omega
  rw [b1] at s1
  rw [b2] at s2
  have b3 : nbits (val (digs (val l * val l2))) = x + y := by rw [val_digs, hv, b1, b2]
  have B1 := Lib.hid b1
  have B2 := Lib.hid b2
  have B3 := Lib.hid b3
  have B4 := Lib.hid b4
  clear b1 b2 b3 b4 hz hy hv
  try clear hzz
  have E0 := Lib.hid e0
  have E1 := Lib.hid e1
  have E2 := Lib.hid e2
  clear e0 e1 e2
  go_enter Try.func14, Try.ntmps14
  have hB := Below.refl w.heap.size w
  go_wp2_with fail
  with_reducible refine (timesKnown_any _).mono ?_
  rintro e w1 ⟨rfl, hb⟩
  have g1 := (g1).past hb
  have g2 := (g2).past hb
  have g3 := (g3).past hb
  have hB := below_later hB hb
  clear hb
  go_wp2_with fail
  with_reducible refine (longNat_any _ _ _ _ _ hc1).mono ?_
  rintro e w' ⟨rfl, rfl⟩
  go_wp2_with fail
  with_reducible refine (longNat_any _ _ _ _ _ hc2).mono ?_
  rintro e w' ⟨rfl, rfl⟩
  go_wp2_with fail
  with_reducible refine (longNat_any _ _ _ _ _ hc3).mono ?_
  rintro e w' ⟨rfl, rfl⟩
  go_wp2_with fail
  with_reducible refine (tmul_any _ _ _ l _ _ _ l2 _ g1 g2 (by omega) (by omega)).mono ?_
  rintro e w2 ⟨ahP, nhP, chP, rfl, hP, hb⟩
  have g1 := (g1).past hb
  have g2 := (g2).past hb
  have g3 := (g3).past hb
  have hB := below_later hB hb
  clear hb
  go_wp2_with fail
  with_reducible refine (tmul_any _ _ _ l _ _ _ l3 _ g1 g3 (by omega) (by omega)).mono ?_
  rintro e w3 ⟨ahQ, nhQ, chQ, rfl, hQ, hb⟩
  have g1 := (g1).past hb
  have g2 := (g2).past hb
  have g3 := (g3).past hb
  have hP := (hP).later hb (Nat.le_refl _)
  have hB := below_later hB hb
  clear hb
  have q1 : nhP ≤ 100 := by have := hP.len; have := g1.short; have := g2.short; have := digs_len_prod (val l) (val l2); omega
  go_wp2_with fail
  with_reducible refine (check_any _ _ _ _ _ hP.toNatAt).mono ?_
  rintro e w' ⟨rfl, rfl⟩
  rw [E0.out]
  go_wp2_with fail
  with_reducible refine (check_any _ _ _ _ _ hQ.toNatAt).mono ?_
  rintro e w' ⟨rfl, rfl⟩
  rw [E1.out]
  go_wp2_with fail
  with_reducible refine (square_any _ _ _ l _ g1 (by omega)).mono ?_
  rintro e w4 ⟨ahS, nhS, chS, rfl, hS, hb⟩
  have g1 := (g1).past hb
  have g2 := (g2).past hb
  have g3 := (g3).past hb
  have hP := (hP).later hb (Nat.le_refl _)
  have hQ := (hQ).later hb (Nat.le_refl _)
  have hB := below_later hB hb
  clear hb
  go_wp2_with fail
  with_reducible refine (check_any _ _ _ _ _ hS.toNatAt).mono ?_
  rintro e w' ⟨rfl, rfl⟩
  rw [E2.out]
  go_wp2_with fail
  with_reducible refine (len_any _ _ _ l _ g1 (by omega)).mono ?_
  rintro e w' ⟨rfl, rfl⟩
  rw [B1.out]
  go_wp2_with fail
  with_reducible refine (cmp_any _ _ _ _ _ _ _ _ _ hP.toNatAt hQ.toNatAt).mono ?_
  rintro e w5 ⟨rfl, hb⟩
  have g1 := (g1).past hb
  have g2 := (g2).past hb
  have g3 := (g3).past hb
  have hP := (hP).later hb (Nat.le_refl _)
  have hQ := (hQ).later hb (Nat.le_refl _)
  have hB := below_later hB hb
  clear hb
  rw [B4.out]
  go_wp2_with fail
  with_reducible refine (cmp_any _ _ _ _ _ _ _ _ _ g2 g3).mono ?_
  rintro e w6 ⟨rfl, hb⟩
  have g1 := (g1).past hb
  have g2 := (g2).past hb
  have g3 := (g3).past hb
  have hP := (hP).later hb (Nat.le_refl _)
  have hQ := (hQ).later hb (Nat.le_refl _)
  have hB := below_later hB hb
  clear hb
  go_wp2_with fail
  with_reducible refine (len_any _ _ _ l _ g1 (by omega)).mono ?_
  rintro e w' ⟨rfl, rfl⟩
  rw [B1.out]
  go_wp2_with fail
  with_reducible refine (len_any _ _ _ l2 _ g2 (by omega)).mono ?_
  rintro e w' ⟨rfl, rfl⟩
  rw [B2.out]
  go_wp2_with fail
  with_reducible refine (len_any _ _ _ l _ g1 (by omega)).mono ?_
  rintro e w' ⟨rfl, rfl⟩
  rw [B1.out]
  go_wp2_with fail
  with_reducible refine (len_any _ _ _ l2 _ g2 (by omega)).mono ?_
  rintro e w' ⟨rfl, rfl⟩
  rw [B2.out]
  go_wp2_with fail
  with_reducible refine (len_any _ _ _ (digs (val l * val l2)) _ hP.toNatAt (by omega)).mono ?_
  rintro e w' ⟨rfl, rfl⟩
  rw [B3.out]
  go_wp2
  go_ret
  exact ⟨rfl, hB⟩
set_option maxRecDepth 100000 in
set_option maxHeartbeats 8000000 in
theorem timesBits_d (a : Option Addr) (n c : Nat) (l : List Nat) (a2 : Option Addr) (n2 c2 : Nat) (l2 : List Nat) (a3 : Option Addr) (n3 c3 : Nat) (l3 : List Nat) (w : World) (g1 : NatAt w a n c l) (g2 : NatAt w a2 n2 c2 l2) (g3 : NatAt w a3 n3 c3 l3) (hn1 : n ≤ 20) (hn2 : n2 ≤ 20) (hn3 : n3 ≤ 20) (hz : val l ≠ 0) (hy : val l2 ≠ 0) (hv : nbits (val l * val l2) = nbits (val l) + nbits (val l2) - 1) :
    Calls Try.prog 14 #[.slice a n c, .slice a2 n2 c2, .slice a3 n3 c3] w (RetVal w (.bool true)) := by
  have hc1 := Nat.le_trans g1.le g1.cle
  have hc2 := Nat.le_trans g2.le g2.cle
  have hc3 := Nat.le_trans g3.le g3.cle
  have t0 : decide ((20 : Int) < (n : Int)) = false := by simp; omega
  have t1 : decide ((20 : Int) < (n2 : Int)) = false := by simp; omega
  have t2 : decide ((20 : Int) < (n3 : Int)) = false := by simp; omega
  have e0 := chk_digs (val l * val l2)
  have e1 := chk_digs (val l * val l3)
  have e2 := chk_digs (val l * val l)
  have s1 := nbits_le_len g1.dig
  have s2 := nbits_le_len g2.dig
  have s3 := g1.len
  have s4 := g2.len
  obtain ⟨x, b1⟩ : ∃ x, nbits (val l) = x := ⟨_, rfl⟩
  have b4 : cmpI (val (digs (val l * val l2))) (val (digs (val l * val l3))) = cmpI (val l2) (val l3) := by rw [val_digs, val_digs, cmpI_mul hz]
  have px : 0 < x := by rw [← b1]; exact nbits_gt (by rw [Nat.pow_zero]; omega)
  have px2 : ((x : Int) == 0) = false := by simp; omega
  obtain ⟨y, b2⟩ : ∃ y, nbits (val l2) = y := ⟨_, rfl⟩
  have py : 0 < y := by rw [← b2]; exact nbits_gt (by rw [Nat.pow_zero]; omega)
  have py2 : ((y : Int) == 0) = false := by simp; omega
  rw [b1] at s1
  rw [b2] at s2
  obtain ⟨z, hzz⟩ : ∃ z, z + 1 = x + y := ⟨x + y - 1, by omega⟩
  have r1 : ((z : Int) == (x : Int) + (y : Int)) = false := by simp; omega
  have r2 : ((z : Int) == (x : Int) + (y : Int) - 1) = true := by simp; omega
  have b3 : nbits (val (digs (val l * val l2))) = z := by rw [val_digs, hv, b1, b2]; omega
  have B1 := Lib.hid b1
  have B2 := Lib.hid b2
  have B3 := Lib.hid b3
  have B4 := Lib.hid b4
  clear b1 b2 b3 b4 hz hy hv
  try clear hzz
  have E0 := Lib.hid e0
  have E1 := Lib.hid e1
  have E2 := Lib.hid e2
  clear e0 e1 e2
  go_enter Try.func14, Try.ntmps14
  have hB := Below.refl w.heap.size w
  go_wp2_with fail
  with_reducible refine (timesKnown_any _).mono ?_
  rintro e w1 ⟨rfl, hb⟩
  have g1 := (g1).past hb
  have g2 := (g2).past hb
  have g3 := (g3).past hb
  have hB := below_later hB hb
  clear hb
  go_wp2_with fail
  with_reducible refine (longNat_any _ _ _ _ _ hc1).mono ?_
  rintro e w' ⟨rfl, rfl⟩
  go_wp2_with fail
  with_reducible refine (longNat_any _ _ _ _ _ hc2).mono ?_
  rintro e w' ⟨rfl, rfl⟩
  go_wp2_with fail
  with_reducible refine (longNat_any _ _ _ _ _ hc3).mono ?_
  rintro e w' ⟨rfl, rfl⟩
  go_wp2_with fail
  with_reducible refine (tmul_any _ _ _ l _ _ _ l2 _ g1 g2 (by omega) (by omega)).mono ?_
  rintro e w2 ⟨ahP, nhP, chP, rfl, hP, hb⟩
  have g1 := (g1).past hb
  have g2 := (g2).past hb
  have g3 := (g3).past hb
  have hB := below_later hB hb
  clear hb
  go_wp2_with fail
  with_reducible refine (tmul_any _ _ _ l _ _ _ l3 _ g1 g3 (by omega) (by omega)).mono ?_
  rintro e w3 ⟨ahQ, nhQ, chQ, rfl, hQ, hb⟩
  have g1 := (g1).past hb
  have g2 := (g2).past hb
  have g3 := (g3).past hb
  have hP := (hP).later hb (Nat.le_refl _)
  have hB := below_later hB hb
  clear hb
  have q1 : nhP ≤ 100 := by have := hP.len; have := g1.short; have := g2.short; have := digs_len_prod (val l) (val l2); omega
  go_wp2_with fail
  with_reducible refine (check_any _ _ _ _ _ hP.toNatAt).mono ?_
  rintro e w' ⟨rfl, rfl⟩
  rw [E0.out]
  go_wp2_with fail
  with_reducible refine (check_any _ _ _ _ _ hQ.toNatAt).mono ?_
  rintro e w' ⟨rfl, rfl⟩
  rw [E1.out]
  go_wp2_with fail
  with_reducible refine (square_any _ _ _ l _ g1 (by omega)).mono ?_
  rintro e w4 ⟨ahS, nhS, chS, rfl, hS, hb⟩
  have g1 := (g1).past hb
  have g2 := (g2).past hb
  have g3 := (g3).past hb
  have hP := (hP).later hb (Nat.le_refl _)
  have hQ := (hQ).later hb (Nat.le_refl _)
  have hB := below_later hB hb
  clear hb
  go_wp2_with fail
  with_reducible refine (check_any _ _ _ _ _ hS.toNatAt).mono ?_
  rintro e w' ⟨rfl, rfl⟩
  rw [E2.out]
  go_wp2_with fail
  with_reducible refine (len_any _ _ _ l _ g1 (by omega)).mono ?_
  rintro e w' ⟨rfl, rfl⟩
  rw [B1.out]
  go_wp2_with fail
  with_reducible refine (cmp_any _ _ _ _ _ _ _ _ _ hP.toNatAt hQ.toNatAt).mono ?_
  rintro e w5 ⟨rfl, hb⟩
  have g1 := (g1).past hb
  have g2 := (g2).past hb
  have g3 := (g3).past hb
  have hP := (hP).later hb (Nat.le_refl _)
  have hQ := (hQ).later hb (Nat.le_refl _)
  have hB := below_later hB hb
  clear hb
  rw [B4.out]
  go_wp2_with fail
  with_reducible refine (cmp_any _ _ _ _ _ _ _ _ _ g2 g3).mono ?_
  rintro e w6 ⟨rfl, hb⟩
  have g1 := (g1).past hb
  have g2 := (g2).past hb
  have g3 := (g3).past hb
  have hP := (hP).later hb (Nat.le_refl _)
  have hQ := (hQ).later hb (Nat.le_refl _)
  have hB := below_later hB hb
  clear hb
  go_wp2_with fail
  with_reducible refine (len_any _ _ _ l _ g1 (by omega)).mono ?_
  rintro e w' ⟨rfl, rfl⟩
  rw [B1.out]
  go_wp2_with fail
  with_reducible refine (len_any _ _ _ l2 _ g2 (by omega)).mono ?_
  rintro e w' ⟨rfl, rfl⟩
  rw [B2.out]
  go_wp2_with fail
  with_reducible refine (len_any _ _ _ l _ g1 (by omega)).mono ?_
  rintro e w' ⟨rfl, rfl⟩
  rw [B1.out]
  go_wp2_with fail
  with_reducible refine (len_any _ _ _ l2 _ g2 (by omega)).mono ?_
  rintro e w' ⟨rfl, rfl⟩
  rw [B2.out]
  go_wp2_with fail
  with_reducible refine (len_any _ _ _ (digs (val l * val l2)) _ hP.toNatAt (by omega)).mono ?_
  rintro e w' ⟨rfl, rfl⟩
  rw [B3.out]
  go_wp2_with fail
  with_reducible refine (len_any _ _ _ (digs (val l * val l2)) _ hP.toNatAt (by omega)).mono ?_
  rintro e w' ⟨rfl, rfl⟩
  rw [B3.out]
  go_wp2
  go_ret
  exact ⟨rfl, hB⟩
theorem timesBits_any (a : Option Addr) (n c : Nat) (l : List Nat) (a2 : Option Addr) (n2 c2 : Nat) (l2 : List Nat) (a3 : Option Addr) (n3 c3 : Nat) (l3 : List Nat) (w : World) (g1 : NatAt w a n c l) (g2 : NatAt w a2 n2 c2 l2) (g3 : NatAt w a3 n3 c3 l3) :
    Calls Try.prog 14 #[.slice a n c, .slice a2 n2 c2, .slice a3 n3 c3] w (RetVal w (.bool true)) := by
  have hc1 := Nat.le_trans g1.le g1.cle
  have hc2 := Nat.le_trans g2.le g2.cle
  have hc3 := Nat.le_trans g3.le g3.cle
  by_cases hl0 : 20 < n
  · have t0 : decide ((20 : Int) < (n : Int)) = true := by simp; omega
    go_enter Try.func14, Try.ntmps14
    have hB := Below.refl w.heap.size w
    go_wp2_with fail
    with_reducible refine (timesKnown_any _).mono ?_
    rintro e w1 ⟨rfl, hb⟩
    have hB := below_later hB hb
    clear hb
    go_wp2_with fail
    with_reducible refine (longNat_any _ _ _ _ _ hc1).mono ?_
    rintro e w' ⟨rfl, rfl⟩
    go_wp2
    go_ret
    exact ⟨rfl, hB⟩
  have t0 : decide ((20 : Int) < (n : Int)) = false := by simp; omega
  by_cases hl1 : 20 < n2
  · have t1 : decide ((20 : Int) < (n2 : Int)) = true := by simp; omega
    go_enter Try.func14, Try.ntmps14
    have hB := Below.refl w.heap.size w
    go_wp2_with fail
    with_reducible refine (timesKnown_any _).mono ?_
    rintro e w1 ⟨rfl, hb⟩
    have hB := below_later hB hb
    clear hb
    go_wp2_with fail
    with_reducible refine (longNat_any _ _ _ _ _ hc1).mono ?_
    rintro e w' ⟨rfl, rfl⟩
    go_wp2_with fail
    with_reducible refine (longNat_any _ _ _ _ _ hc2).mono ?_
    rintro e w' ⟨rfl, rfl⟩
    go_wp2
    go_ret
    exact ⟨rfl, hB⟩
  have t1 : decide ((20 : Int) < (n2 : Int)) = false := by simp; omega
  by_cases hl2 : 20 < n3
  · have t2 : decide ((20 : Int) < (n3 : Int)) = true := by simp; omega
    go_enter Try.func14, Try.ntmps14
    have hB := Below.refl w.heap.size w
    go_wp2_with fail
    with_reducible refine (timesKnown_any _).mono ?_
    rintro e w1 ⟨rfl, hb⟩
    have hB := below_later hB hb
    clear hb
    go_wp2_with fail
    with_reducible refine (longNat_any _ _ _ _ _ hc1).mono ?_
    rintro e w' ⟨rfl, rfl⟩
    go_wp2_with fail
    with_reducible refine (longNat_any _ _ _ _ _ hc2).mono ?_
    rintro e w' ⟨rfl, rfl⟩
    go_wp2_with fail
    with_reducible refine (longNat_any _ _ _ _ _ hc3).mono ?_
    rintro e w' ⟨rfl, rfl⟩
    go_wp2
    go_ret
    exact ⟨rfl, hB⟩
  have t2 : decide ((20 : Int) < (n3 : Int)) = false := by simp; omega
  by_cases hz : val l = 0
  · exact timesBits_a a n c l a2 n2 c2 l2 a3 n3 c3 l3 w g1 g2 g3 (by omega) (by omega) (by omega) hz
  by_cases hy : val l2 = 0
  · exact timesBits_b a n c l a2 n2 c2 l2 a3 n3 c3 l3 w g1 g2 g3 (by omega) (by omega) (by omega) hz hy
  rcases nbits_prod hz hy with hv | hv
  · exact timesBits_c a n c l a2 n2 c2 l2 a3 n3 c3 l3 w g1 g2 g3 (by omega) (by omega) (by omega) hz hy hv
  · exact timesBits_d a n c l a2 n2 c2 l2 a3 n3 c3 l3 w g1 g2 g3 (by omega) (by omega) (by omega) hz hy hv

end Go.Proofs.Ytlljljhiimeajaa
