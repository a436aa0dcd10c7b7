/- the laws of limbs: LimbsOrder. -/
import Derived.Test.YtlnijohobnjlfaaLaw01d
set_option linter.unusedVariables false
set_option linter.unusedSimpArgs false
namespace Go.Proofs.Ytlnijohobnjlfaa
open Go.RowKit

set_option maxHeartbeats 4000000 in
theorem limbsOrder_l1 (a : Option Addr) (n c : Nat) (l : List Nat) (a2 : Option Addr) (n2 c2 : Nat) (l2 : List Nat) (a3 : Option Addr) (n3 c3 : Nat) (l3 : List Nat) (w : World) (g1 : NatAt w a n c l) (g2 : NatAt w a2 n2 c2 l2) (g3 : NatAt w a3 n3 c3 l3) (hn1 : n ≤ 60) (hn2 : n2 ≤ 60) (hn3 : n3 ≤ 60) (hv : val l < val l2) (hk : val l2 < val l3) :
    Calls Try.prog 4 #[.slice a n c, .slice a2 n2 c2, .slice a3 n3 c3] w (RetVal w (.bool true)) := by
  have hc1 := Nat.le_trans g1.le g1.cle
  have hc2 := Nat.le_trans g2.le g2.cle
  have hc3 := Nat.le_trans g3.le g3.cle
  have t : decide (60 < n ∨ 60 < n2) = false := decide_eq_false (by omega)
  have t3 : decide (60 < n3 ∨ 60 < 0) = false := decide_eq_false (by omega)
  have e0 : cmpI (val l) (val l2) = -1 := cmpI_lt hv
  have e1 : cmpI (val l2) (val l) = 1 := cmpI_gt hv
  have e2 : val l < val l2 := hv
  have e3 : eqL (digs (val l)) (digs (val l2)) = false := eqL_false.2 fun e => by have := congrArg val e; rw [val_digs, val_digs] at this; omega
  have e4 : cmpI (val l) (val l3) = -1 := cmpI_lt (by omega)
  have e5 : cmpI (val l + val l3) (val l2 + val l3) = -1 := cmpI_lt (by omega)
  have e6 : cmpI (val l2) (val l3) = -1 := cmpI_lt hk
  have e7 : nbits (val l) ≤ nbits (val l2) := nbits_mono (by omega)
  have T := Lib.hid t
  have T3 := Lib.hid t3
  have E0 := Lib.hid e0
  have E1 := Lib.hid e1
  have E2 := Lib.hid e2
  have E3 := Lib.hid e3
  have E4 := Lib.hid e4
  have E5 := Lib.hid e5
  have E6 := Lib.hid e6
  have E7 := Lib.hid e7
  clear hv t t3 e0 e1 e2 e3 e4 e5 e6 e7
  go_enter Try.func4, Try.ntmps4
  have hB := Below.refl w.heap.size w
  go_wp2_with fail
  refine (awake01 _).mono ?_
  rintro e w1 ⟨rfl, hb⟩
  have g1 := (g1).past hb
  have g2 := (g2).past hb
  have g3 := (g3).past hb
  have hB := below_later hB hb
  clear hb
  go_wp2_with fail
  refine (long01_any _ _ _ _ _ _ _ hc1 hc2).mono ?_
  rintro e w' ⟨rfl, rfl⟩
  rw [T.out]
  go_wp2_with fail
  refine (long01_any _ _ _ _ _ _ _ hc3 (by decide)).mono ?_
  rintro e w' ⟨rfl, rfl⟩
  rw [T3.out]
  go_wp2_with fail
  refine (cmp_any _ _ _ l _ _ _ l2 _ g1 g2).mono ?_
  rintro e w2 ⟨rfl, hb⟩
  have g1 := (g1).past hb
  have g2 := (g2).past hb
  have g3 := (g3).past hb
  have hB := below_later hB hb
  clear hb
  rw [E0.out]
  go_wp2_with fail
  refine (cmp_any _ _ _ l2 _ _ _ l _ g2 g1).mono ?_
  rintro e w3 ⟨rfl, hb⟩
  have g1 := (g1).past hb
  have g2 := (g2).past hb
  have g3 := (g3).past hb
  have hB := below_later hB hb
  clear hb
  rw [E1.out]
  go_wp2_with fail
  refine (cmp_any _ _ _ l2 _ _ _ l3 _ g2 g3).mono ?_
  rintro e w4 ⟨rfl, hb⟩
  have g1 := (g1).past hb
  have g2 := (g2).past hb
  have g3 := (g3).past hb
  have hB := below_later hB hb
  clear hb
  rw [E6.out]
  go_wp2_with fail
  refine (sub_no _ _ _ l _ _ _ l2 _ g1 g2 E2.out).mono ?_
  rintro e w5 ⟨rfl, hb⟩
  have g1 := (g1).past hb
  have g2 := (g2).past hb
  have g3 := (g3).past hb
  have hB := below_later hB hb
  clear hb
  go_wp2_with fail
  refine (trim_any _ _ _ l _ g1 (by omega)).mono ?_
  rintro e w6 ⟨aP, nP, cP, rfl, hP, hb⟩
  have g1 := (g1).past hb
  have g2 := (g2).past hb
  have g3 := (g3).past hb
  have hB := below_later hB hb
  clear hb
  go_wp2_with fail
  refine (trim_any _ _ _ l2 _ g2 (by omega)).mono ?_
  rintro e w7 ⟨aQ, nQ, cQ, rfl, hQ, hb⟩
  have g1 := (g1).past hb
  have g2 := (g2).past hb
  have g3 := (g3).past hb
  have hP := (hP).later hb (Nat.le_refl _)
  have hB := below_later hB hb
  clear hb
  go_wp2_with fail
  refine (sameNat_below hP.toNatAt hQ.toNatAt).mono ?_
  rintro e w8 ⟨rfl, hb⟩
  have g1 := (g1).past hb
  have g2 := (g2).past hb
  have g3 := (g3).past hb
  have hB := below_later hB hb
  clear hb
  rw [E3.out]
  go_wp2_with fail
  refine (cmp_any _ _ _ l _ _ _ l3 _ g1 g3).mono ?_
  rintro e w9 ⟨rfl, hb⟩
  have g1 := (g1).past hb
  have g2 := (g2).past hb
  have g3 := (g3).past hb
  have hB := below_later hB hb
  clear hb
  rw [E4.out]
  go_wp2_with fail
  refine (add_any _ _ _ l _ _ _ l3 _ g1 g3 (by omega) (by omega)).mono ?_
  rintro e w10 ⟨aS, nS, cS, rfl, hS, hb⟩
  have g1 := (g1).past hb
  have g2 := (g2).past hb
  have g3 := (g3).past hb
  have hB := below_later hB hb
  clear hb
  go_wp2_with fail
  refine (add_any _ _ _ l2 _ _ _ l3 _ g2 g3 (by omega) (by omega)).mono ?_
  rintro e w11 ⟨aT, nT, cT, rfl, hT, hb⟩
  have g1 := (g1).past hb
  have g2 := (g2).past hb
  have g3 := (g3).past hb
  have hS := (hS).later hb (Nat.le_refl _)
  have hB := below_later hB hb
  clear hb
  go_wp2_with fail
  refine (cmp_any _ _ _ (digs (val l + val l3)) _ _ _ (digs (val l2 + val l3)) _ hS.toNatAt hT.toNatAt).mono ?_
  rintro e w12 ⟨rfl, hb⟩
  have g1 := (g1).past hb
  have g2 := (g2).past hb
  have hB := below_later hB hb
  clear hb
  rw [val_digs, val_digs, E5.out]
  go_wp2_with fail
  refine (len_any _ _ _ l _ g1 (by omega)).mono ?_
  rintro e w' ⟨rfl, rfl⟩
  go_wp2_with fail
  refine (len_any _ _ _ l2 _ g2 (by omega)).mono ?_
  rintro e w' ⟨rfl, rfl⟩
  have hle := E7.out
  go_wp2
  go_ret
  exact ⟨rfl, hB⟩

set_option maxHeartbeats 4000000 in
theorem limbsOrder_l2 (a : Option Addr) (n c : Nat) (l : List Nat) (a2 : Option Addr) (n2 c2 : Nat) (l2 : List Nat) (a3 : Option Addr) (n3 c3 : Nat) (l3 : List Nat) (w : World) (g1 : NatAt w a n c l) (g2 : NatAt w a2 n2 c2 l2) (g3 : NatAt w a3 n3 c3 l3) (hn1 : n ≤ 60) (hn2 : n2 ≤ 60) (hn3 : n3 ≤ 60) (hv : val l < val l2) (hk : ¬ val l2 < val l3) :
    Calls Try.prog 4 #[.slice a n c, .slice a2 n2 c2, .slice a3 n3 c3] w (RetVal w (.bool true)) := by
  have hc1 := Nat.le_trans g1.le g1.cle
  have hc2 := Nat.le_trans g2.le g2.cle
  have hc3 := Nat.le_trans g3.le g3.cle
  have t : decide (60 < n ∨ 60 < n2) = false := decide_eq_false (by omega)
  have t3 : decide (60 < n3 ∨ 60 < 0) = false := decide_eq_false (by omega)
  have e0 : cmpI (val l) (val l2) = -1 := cmpI_lt hv
  have e1 : cmpI (val l2) (val l) = 1 := cmpI_gt hv
  have e2 : val l < val l2 := hv
  have e3 : eqL (digs (val l)) (digs (val l2)) = false := eqL_false.2 fun e => by have := congrArg val e; rw [val_digs, val_digs] at this; omega
  have e4 : 0 ≤ cmpI (val l2) (val l3) := by rcases Int.lt_or_le (cmpI (val l2) (val l3)) 0 with h | h; exact absurd (cmpI_neg.1 h) hk; exact h
  have e5 : cmpI (val l + val l3) (val l2 + val l3) = -1 := cmpI_lt (by omega)
  have e6 : nbits (val l) ≤ nbits (val l2) := nbits_mono (by omega)
  have T := Lib.hid t
  have T3 := Lib.hid t3
  have E0 := Lib.hid e0
  have E1 := Lib.hid e1
  have E2 := Lib.hid e2
  have E3 := Lib.hid e3
  have E4 := Lib.hid e4
  have E5 := Lib.hid e5
  have E6 := Lib.hid e6
  clear hv t t3 e0 e1 e2 e3 e4 e5 e6
  go_enter Try.func4, Try.ntmps4
  have hB := Below.refl w.heap.size w
  go_wp2_with fail
  refine (awake01 _).mono ?_
  rintro e w1 ⟨rfl, hb⟩
  have g1 := (g1).past hb
  have g2 := (g2).past hb
  have g3 := (g3).past hb
  have hB := below_later hB hb
  clear hb
  go_wp2_with fail
  refine (long01_any _ _ _ _ _ _ _ hc1 hc2).mono ?_
  rintro e w' ⟨rfl, rfl⟩
  rw [T.out]
  go_wp2_with fail
  refine (long01_any _ _ _ _ _ _ _ hc3 (by decide)).mono ?_
  rintro e w' ⟨rfl, rfl⟩
  rw [T3.out]
  go_wp2_with fail
  refine (cmp_any _ _ _ l _ _ _ l2 _ g1 g2).mono ?_
  rintro e w2 ⟨rfl, hb⟩
  have g1 := (g1).past hb
  have g2 := (g2).past hb
  have g3 := (g3).past hb
  have hB := below_later hB hb
  clear hb
  rw [E0.out]
  go_wp2_with fail
  refine (cmp_any _ _ _ l2 _ _ _ l _ g2 g1).mono ?_
  rintro e w3 ⟨rfl, hb⟩
  have g1 := (g1).past hb
  have g2 := (g2).past hb
  have g3 := (g3).past hb
  have hB := below_later hB hb
  clear hb
  rw [E1.out]
  go_wp2_with fail
  refine (cmp_any _ _ _ l2 _ _ _ l3 _ g2 g3).mono ?_
  rintro e w4 ⟨rfl, hb⟩
  have g1 := (g1).past hb
  have g2 := (g2).past hb
  have g3 := (g3).past hb
  have hB := below_later hB hb
  clear hb
  obtain ⟨K, hK⟩ : ∃ K, cmpI (val l2) (val l3) = K := ⟨_, rfl⟩
  rw [hK]
  have hK0 : 0 ≤ K := by rw [← hK]; exact E4.out
  clear hK
  go_wp2_with fail
  refine (sub_no _ _ _ l _ _ _ l2 _ g1 g2 E2.out).mono ?_
  rintro e w5 ⟨rfl, hb⟩
  have g1 := (g1).past hb
  have g2 := (g2).past hb
  have g3 := (g3).past hb
  have hB := below_later hB hb
  clear hb
  go_wp2_with fail
  refine (trim_any _ _ _ l _ g1 (by omega)).mono ?_
  rintro e w6 ⟨aP, nP, cP, rfl, hP, hb⟩
  have g1 := (g1).past hb
  have g2 := (g2).past hb
  have g3 := (g3).past hb
  have hB := below_later hB hb
  clear hb
  go_wp2_with fail
  refine (trim_any _ _ _ l2 _ g2 (by omega)).mono ?_
  rintro e w7 ⟨aQ, nQ, cQ, rfl, hQ, hb⟩
  have g1 := (g1).past hb
  have g2 := (g2).past hb
  have g3 := (g3).past hb
  have hP := (hP).later hb (Nat.le_refl _)
  have hB := below_later hB hb
  clear hb
  go_wp2_with fail
  refine (sameNat_below hP.toNatAt hQ.toNatAt).mono ?_
  rintro e w8 ⟨rfl, hb⟩
  have g1 := (g1).past hb
  have g2 := (g2).past hb
  have g3 := (g3).past hb
  have hB := below_later hB hb
  clear hb
  rw [E3.out]
  go_wp2_with fail
  refine (add_any _ _ _ l _ _ _ l3 _ g1 g3 (by omega) (by omega)).mono ?_
  rintro e w9 ⟨aS, nS, cS, rfl, hS, hb⟩
  have g1 := (g1).past hb
  have g2 := (g2).past hb
  have g3 := (g3).past hb
  have hB := below_later hB hb
  clear hb
  go_wp2_with fail
  refine (add_any _ _ _ l2 _ _ _ l3 _ g2 g3 (by omega) (by omega)).mono ?_
  rintro e w10 ⟨aT, nT, cT, rfl, hT, hb⟩
  have g1 := (g1).past hb
  have g2 := (g2).past hb
  have g3 := (g3).past hb
  have hS := (hS).later hb (Nat.le_refl _)
  have hB := below_later hB hb
  clear hb
  go_wp2_with fail
  refine (cmp_any _ _ _ (digs (val l + val l3)) _ _ _ (digs (val l2 + val l3)) _ hS.toNatAt hT.toNatAt).mono ?_
  rintro e w11 ⟨rfl, hb⟩
  have g1 := (g1).past hb
  have g2 := (g2).past hb
  have hB := below_later hB hb
  clear hb
  rw [val_digs, val_digs, E5.out]
  go_wp2_with fail
  refine (len_any _ _ _ l _ g1 (by omega)).mono ?_
  rintro e w' ⟨rfl, rfl⟩
  go_wp2_with fail
  refine (len_any _ _ _ l2 _ g2 (by omega)).mono ?_
  rintro e w' ⟨rfl, rfl⟩
  have hle := E6.out
  go_wp2
  go_ret
  exact ⟨rfl, hB⟩

set_option maxHeartbeats 4000000 in
theorem limbsOrder_e (a : Option Addr) (n c : Nat) (l : List Nat) (a2 : Option Addr) (n2 c2 : Nat) (l2 : List Nat) (a3 : Option Addr) (n3 c3 : Nat) (l3 : List Nat) (w : World) (g1 : NatAt w a n c l) (g2 : NatAt w a2 n2 c2 l2) (g3 : NatAt w a3 n3 c3 l3) (hn1 : n ≤ 60) (hn2 : n2 ≤ 60) (hn3 : n3 ≤ 60) (hv : val l = val l2) :
    Calls Try.prog 4 #[.slice a n c, .slice a2 n2 c2, .slice a3 n3 c3] w (RetVal w (.bool true)) := by
  have hc1 := Nat.le_trans g1.le g1.cle
  have hc2 := Nat.le_trans g2.le g2.cle
  have hc3 := Nat.le_trans g3.le g3.cle
  have t : decide (60 < n ∨ 60 < n2) = false := decide_eq_false (by omega)
  have t3 : decide (60 < n3 ∨ 60 < 0) = false := decide_eq_false (by omega)
  have e0 : cmpI (val l) (val l2) = 0 := by rw [hv, cmpI_eq]
  have e1 : cmpI (val l2) (val l) = 0 := by rw [hv, cmpI_eq]
  have e2 : val l2 ≤ val l := by omega
  have e3 : eqL (digs (val l)) (digs (val l2)) = true := by rw [hv, eqL_self]
  have e4 : True := trivial
  have e5 : cmpI (val l + val l3) (val l2 + val l3) = 0 := by rw [hv, cmpI_eq]
  have e6 : nbits (val l) ≤ nbits (val l2) := nbits_mono (by omega)
  have T := Lib.hid t
  have T3 := Lib.hid t3
  have E0 := Lib.hid e0
  have E1 := Lib.hid e1
  have E2 := Lib.hid e2
  have E3 := Lib.hid e3
  have E4 := Lib.hid e4
  have E5 := Lib.hid e5
  have E6 := Lib.hid e6
  clear hv t t3 e0 e1 e2 e3 e4 e5 e6
  go_enter Try.func4, Try.ntmps4
  have hB := Below.refl w.heap.size w
  go_wp2_with fail
  refine (awake01 _).mono ?_
  rintro e w1 ⟨rfl, hb⟩
  have g1 := (g1).past hb
  have g2 := (g2).past hb
  have g3 := (g3).past hb
  have hB := below_later hB hb
  clear hb
  go_wp2_with fail
  refine (long01_any _ _ _ _ _ _ _ hc1 hc2).mono ?_
  rintro e w' ⟨rfl, rfl⟩
  rw [T.out]
  go_wp2_with fail
  refine (long01_any _ _ _ _ _ _ _ hc3 (by decide)).mono ?_
  rintro e w' ⟨rfl, rfl⟩
  rw [T3.out]
  go_wp2_with fail
  refine (cmp_any _ _ _ l _ _ _ l2 _ g1 g2).mono ?_
  rintro e w2 ⟨rfl, hb⟩
  have g1 := (g1).past hb
  have g2 := (g2).past hb
  have g3 := (g3).past hb
  have hB := below_later hB hb
  clear hb
  rw [E0.out]
  go_wp2_with fail
  refine (cmp_any _ _ _ l2 _ _ _ l _ g2 g1).mono ?_
  rintro e w3 ⟨rfl, hb⟩
  have g1 := (g1).past hb
  have g2 := (g2).past hb
  have g3 := (g3).past hb
  have hB := below_later hB hb
  clear hb
  rw [E1.out]
  go_wp2_with fail
  refine (cmp_any _ _ _ l2 _ _ _ l3 _ g2 g3).mono ?_
  rintro e w4 ⟨rfl, hb⟩
  have g1 := (g1).past hb
  have g2 := (g2).past hb
  have g3 := (g3).past hb
  have hB := below_later hB hb
  clear hb
  obtain ⟨K, hK⟩ : ∃ K, cmpI (val l2) (val l3) = K := ⟨_, rfl⟩
  rw [hK]
  clear hK
  go_wp2_with fail
  refine (sub_yes _ _ _ l _ _ _ l2 _ g1 g2 (by omega) E2.out).mono ?_
  rintro e w5 ⟨aD, nD, cD, rfl, hD, hb⟩
  have g1 := (g1).past hb
  have g2 := (g2).past hb
  have g3 := (g3).past hb
  have hB := below_later hB hb
  clear hb
  go_wp2_with fail
  refine (trim_any _ _ _ l _ g1 (by omega)).mono ?_
  rintro e w6 ⟨aP, nP, cP, rfl, hP, hb⟩
  have g1 := (g1).past hb
  have g2 := (g2).past hb
  have g3 := (g3).past hb
  have hB := below_later hB hb
  clear hb
  go_wp2_with fail
  refine (trim_any _ _ _ l2 _ g2 (by omega)).mono ?_
  rintro e w7 ⟨aQ, nQ, cQ, rfl, hQ, hb⟩
  have g1 := (g1).past hb
  have g2 := (g2).past hb
  have g3 := (g3).past hb
  have hP := (hP).later hb (Nat.le_refl _)
  have hB := below_later hB hb
  clear hb
  go_wp2_with fail
  refine (sameNat_below hP.toNatAt hQ.toNatAt).mono ?_
  rintro e w8 ⟨rfl, hb⟩
  have g1 := (g1).past hb
  have g2 := (g2).past hb
  have g3 := (g3).past hb
  have hB := below_later hB hb
  clear hb
  rw [E3.out]
  go_wp2_with fail
  refine (add_any _ _ _ l _ _ _ l3 _ g1 g3 (by omega) (by omega)).mono ?_
  rintro e w9 ⟨aS, nS, cS, rfl, hS, hb⟩
  have g1 := (g1).past hb
  have g2 := (g2).past hb
  have g3 := (g3).past hb
  have hB := below_later hB hb
  clear hb
  go_wp2_with fail
  refine (add_any _ _ _ l2 _ _ _ l3 _ g2 g3 (by omega) (by omega)).mono ?_
  rintro e w10 ⟨aT, nT, cT, rfl, hT, hb⟩
  have g1 := (g1).past hb
  have g2 := (g2).past hb
  have g3 := (g3).past hb
  have hS := (hS).later hb (Nat.le_refl _)
  have hB := below_later hB hb
  clear hb
  go_wp2_with fail
  refine (cmp_any _ _ _ (digs (val l + val l3)) _ _ _ (digs (val l2 + val l3)) _ hS.toNatAt hT.toNatAt).mono ?_
  rintro e w11 ⟨rfl, hb⟩
  have g1 := (g1).past hb
  have g2 := (g2).past hb
  have hB := below_later hB hb
  clear hb
  rw [val_digs, val_digs, E5.out]
  go_wp2_with fail
  refine (len_any _ _ _ l _ g1 (by omega)).mono ?_
  rintro e w' ⟨rfl, rfl⟩
  go_wp2_with fail
  refine (len_any _ _ _ l2 _ g2 (by omega)).mono ?_
  rintro e w' ⟨rfl, rfl⟩
  have hle := E6.out
  go_wp2
  go_ret
  exact ⟨rfl, hB⟩

set_option maxHeartbeats 4000000 in
theorem limbsOrder_g (a : Option Addr) (n c : Nat) (l : List Nat) (a2 : Option Addr) (n2 c2 : Nat) (l2 : List Nat) (a3 : Option Addr) (n3 c3 : Nat) (l3 : List Nat) (w : World) (g1 : NatAt w a n c l) (g2 : NatAt w a2 n2 c2 l2) (g3 : NatAt w a3 n3 c3 l3) (hn1 : n ≤ 60) (hn2 : n2 ≤ 60) (hn3 : n3 ≤ 60) (hv : val l2 < val l) :
    Calls Try.prog 4 #[.slice a n c, .slice a2 n2 c2, .slice a3 n3 c3] w (RetVal w (.bool true)) := by
  have hc1 := Nat.le_trans g1.le g1.cle
  have hc2 := Nat.le_trans g2.le g2.cle
  have hc3 := Nat.le_trans g3.le g3.cle
  have t : decide (60 < n ∨ 60 < n2) = false := decide_eq_false (by omega)
  have t3 : decide (60 < n3 ∨ 60 < 0) = false := decide_eq_false (by omega)
  have e0 : cmpI (val l) (val l2) = 1 := cmpI_gt hv
  have e1 : cmpI (val l2) (val l) = -1 := cmpI_lt hv
  have e2 : val l2 ≤ val l := by omega
  have e3 : eqL (digs (val l)) (digs (val l2)) = false := eqL_false.2 fun e => by have := congrArg val e; rw [val_digs, val_digs] at this; omega
  have e4 : True := trivial
  have e5 : cmpI (val l + val l3) (val l2 + val l3) = 1 := cmpI_gt (by omega)
  have T := Lib.hid t
  have T3 := Lib.hid t3
  have E0 := Lib.hid e0
  have E1 := Lib.hid e1
  have E2 := Lib.hid e2
  have E3 := Lib.hid e3
  have E4 := Lib.hid e4
  have E5 := Lib.hid e5
  clear hv t t3 e0 e1 e2 e3 e4 e5
  go_enter Try.func4, Try.ntmps4
  have hB := Below.refl w.heap.size w
  go_wp2_with fail
  refine (awake01 _).mono ?_
  rintro e w1 ⟨rfl, hb⟩
  have g1 := (g1).past hb
  have g2 := (g2).past hb
  have g3 := (g3).past hb
  have hB := below_later hB hb
  clear hb
  go_wp2_with fail
  refine (long01_any _ _ _ _ _ _ _ hc1 hc2).mono ?_
  rintro e w' ⟨rfl, rfl⟩
  rw [T.out]
  go_wp2_with fail
  refine (long01_any _ _ _ _ _ _ _ hc3 (by decide)).mono ?_
  rintro e w' ⟨rfl, rfl⟩
  rw [T3.out]
  go_wp2_with fail
  refine (cmp_any _ _ _ l _ _ _ l2 _ g1 g2).mono ?_
  rintro e w2 ⟨rfl, hb⟩
  have g1 := (g1).past hb
  have g2 := (g2).past hb
  have g3 := (g3).past hb
  have hB := below_later hB hb
  clear hb
  rw [E0.out]
  go_wp2_with fail
  refine (cmp_any _ _ _ l2 _ _ _ l _ g2 g1).mono ?_
  rintro e w3 ⟨rfl, hb⟩
  have g1 := (g1).past hb
  have g2 := (g2).past hb
  have g3 := (g3).past hb
  have hB := below_later hB hb
  clear hb
  rw [E1.out]
  go_wp2_with fail
  refine (cmp_any _ _ _ l2 _ _ _ l3 _ g2 g3).mono ?_
  rintro e w4 ⟨rfl, hb⟩
  have g1 := (g1).past hb
  have g2 := (g2).past hb
  have g3 := (g3).past hb
  have hB := below_later hB hb
  clear hb
  obtain ⟨K, hK⟩ : ∃ K, cmpI (val l2) (val l3) = K := ⟨_, rfl⟩
  rw [hK]
  clear hK
  go_wp2_with fail
  refine (sub_yes _ _ _ l _ _ _ l2 _ g1 g2 (by omega) E2.out).mono ?_
  rintro e w5 ⟨aD, nD, cD, rfl, hD, hb⟩
  have g1 := (g1).past hb
  have g2 := (g2).past hb
  have g3 := (g3).past hb
  have hB := below_later hB hb
  clear hb
  go_wp2_with fail
  refine (trim_any _ _ _ l _ g1 (by omega)).mono ?_
  rintro e w6 ⟨aP, nP, cP, rfl, hP, hb⟩
  have g1 := (g1).past hb
  have g2 := (g2).past hb
  have g3 := (g3).past hb
  have hB := below_later hB hb
  clear hb
  go_wp2_with fail
  refine (trim_any _ _ _ l2 _ g2 (by omega)).mono ?_
  rintro e w7 ⟨aQ, nQ, cQ, rfl, hQ, hb⟩
  have g1 := (g1).past hb
  have g2 := (g2).past hb
  have g3 := (g3).past hb
  have hP := (hP).later hb (Nat.le_refl _)
  have hB := below_later hB hb
  clear hb
  go_wp2_with fail
  refine (sameNat_below hP.toNatAt hQ.toNatAt).mono ?_
  rintro e w8 ⟨rfl, hb⟩
  have g1 := (g1).past hb
  have g2 := (g2).past hb
  have g3 := (g3).past hb
  have hB := below_later hB hb
  clear hb
  rw [E3.out]
  go_wp2_with fail
  refine (add_any _ _ _ l _ _ _ l3 _ g1 g3 (by omega) (by omega)).mono ?_
  rintro e w9 ⟨aS, nS, cS, rfl, hS, hb⟩
  have g1 := (g1).past hb
  have g2 := (g2).past hb
  have g3 := (g3).past hb
  have hB := below_later hB hb
  clear hb
  go_wp2_with fail
  refine (add_any _ _ _ l2 _ _ _ l3 _ g2 g3 (by omega) (by omega)).mono ?_
  rintro e w10 ⟨aT, nT, cT, rfl, hT, hb⟩
  have g1 := (g1).past hb
  have g2 := (g2).past hb
  have g3 := (g3).past hb
  have hS := (hS).later hb (Nat.le_refl _)
  have hB := below_later hB hb
  clear hb
  go_wp2_with fail
  refine (cmp_any _ _ _ (digs (val l + val l3)) _ _ _ (digs (val l2 + val l3)) _ hS.toNatAt hT.toNatAt).mono ?_
  rintro e w11 ⟨rfl, hb⟩
  have g1 := (g1).past hb
  have g2 := (g2).past hb
  have hB := below_later hB hb
  clear hb
  rw [val_digs, val_digs, E5.out]
  go_wp2_with fail
  refine (len_any _ _ _ l _ g1 (by omega)).mono ?_
  rintro e w' ⟨rfl, rfl⟩
  go_wp2_with fail
  refine (len_any _ _ _ l2 _ g2 (by omega)).mono ?_
  rintro e w' ⟨rfl, rfl⟩
  by_cases hle : nbits (val l) ≤ nbits (val l2)
  all_goals
    go_wp2
    go_ret
    exact ⟨rfl, hB⟩

theorem limbsOrder_any (a : Option Addr) (n c : Nat) (l : List Nat) (a2 : Option Addr) (n2 c2 : Nat) (l2 : List Nat) (a3 : Option Addr) (n3 c3 : Nat) (l3 : List Nat) (w : World) (g1 : NatAt w a n c l) (g2 : NatAt w a2 n2 c2 l2) (g3 : NatAt w a3 n3 c3 l3) :
    Calls Try.prog 4 #[.slice a n c, .slice a2 n2 c2, .slice a3 n3 c3] w (RetVal w (.bool true)) := by
  have hc1 := Nat.le_trans g1.le g1.cle
  have hc2 := Nat.le_trans g2.le g2.cle
  have hc3 := Nat.le_trans g3.le g3.cle
  by_cases hlong : 60 < n ∨ 60 < n2
  · have t : decide (60 < n ∨ 60 < n2) = true := decide_eq_true hlong
    have T := Lib.hid t
    clear t hlong
    go_enter Try.func4, Try.ntmps4
    have hB := Below.refl w.heap.size w
    go_wp2_with fail
    refine (awake01 _).mono ?_
    rintro e w1 ⟨rfl, hb⟩
    have hB := below_later hB hb
    clear hb
    go_wp2_with fail
    refine (long01_any _ _ _ _ _ _ _ hc1 hc2).mono ?_
    rintro e w' ⟨rfl, rfl⟩
    rw [T.out]
    go_wp2
    go_ret
    exact ⟨rfl, hB⟩
  by_cases hlong3 : 60 < n3 ∨ 60 < 0
  · have t : decide (60 < n ∨ 60 < n2) = false := decide_eq_false hlong
    have t3 : decide (60 < n3 ∨ 60 < 0) = true := decide_eq_true hlong3
    have T := Lib.hid t
    have T3 := Lib.hid t3
    clear t t3 hlong hlong3
    go_enter Try.func4, Try.ntmps4
    have hB := Below.refl w.heap.size w
    go_wp2_with fail
    refine (awake01 _).mono ?_
    rintro e w1 ⟨rfl, hb⟩
    have hB := below_later hB hb
    clear hb
    go_wp2_with fail
    refine (long01_any _ _ _ _ _ _ _ hc1 hc2).mono ?_
    rintro e w' ⟨rfl, rfl⟩
    rw [T.out]
    go_wp2_with fail
    refine (long01_any _ _ _ _ _ _ _ hc3 (by decide)).mono ?_
    rintro e w' ⟨rfl, rfl⟩
    rw [T3.out]
    go_wp2
    go_ret
    exact ⟨rfl, hB⟩
  rcases Nat.lt_trichotomy (val l) (val l2) with hv | hv | hv
  · by_cases hk : val l2 < val l3
    · exact limbsOrder_l1 a n c l a2 n2 c2 l2 a3 n3 c3 l3 w g1 g2 g3 (by omega) (by omega) (by omega) hv hk
    · exact limbsOrder_l2 a n c l a2 n2 c2 l2 a3 n3 c3 l3 w g1 g2 g3 (by omega) (by omega) (by omega) hv hk
  · exact limbsOrder_e a n c l a2 n2 c2 l2 a3 n3 c3 l3 w g1 g2 g3 (by omega) (by omega) (by omega) hv
  · exact limbsOrder_g a n c l a2 n2 c2 l2 a3 n3 c3 l3 w g1 g2 g3 (by omega) (by omega) (by omega) hv

end Go.Proofs.Ytlnijohobnjlfaa
