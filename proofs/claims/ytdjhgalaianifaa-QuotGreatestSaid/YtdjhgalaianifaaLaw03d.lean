/- the laws of quot: QuotGreatest. -/
import Derived.Test.YtdjhgalaianifaaNum5
import Derived.Test.YtdjhgalaianifaaLaw03a
set_option linter.unusedVariables false
set_option linter.unusedSimpArgs false
namespace Go.Proofs.Ytdjhgalaianifaa
open Go.RowKit

theorem gcd_cop {a b : Nat} (h : Nat.gcd a b ≠ 0) : Nat.gcd (a / Nat.gcd a b) (b / Nat.gcd a b) = 1 := by rw [Nat.gcd_div (Nat.gcd_dvd_left _ _) (Nat.gcd_dvd_right _ _), Nat.div_self (Nat.pos_of_ne_zero h)]

set_option maxRecDepth 100000 in
set_option maxHeartbeats 4000000 in
theorem quotGreatest_long1 (a : Option Addr) (n c : Nat) (l : List Nat) (a2 : Option Addr) (n2 c2 : Nat) (l2 : List Nat) (a3 : Option Addr) (n3 c3 : Nat) (l3 : List Nat) (w : World) (g1 : NatAt w a n c l) (g2 : NatAt w a2 n2 c2 l2) (g3 : NatAt w a3 n3 c3 l3)  (hl : 5 < n) :
    Calls Try.prog 9 #[.slice a n c, .slice a2 n2 c2, .slice a3 n3 c3] w (RetVal w (.bool true)) := by
  have hc1 := Nat.le_trans g1.le g1.cle
  have hc2 := Nat.le_trans g2.le g2.cle
  have hc3 := Nat.le_trans g3.le g3.cle
  have t0 : decide ((5 : Int) < (n : Int)) = true := by simp; omega
  go_enter Try.func9, Try.ntmps9
  have hB := Below.refl w.heap.size w
  go_wp2_with fail
  with_reducible refine (awake03 _).mono ?_
  rintro e w1 ⟨rfl, hb⟩
  have g1 := g1.past hb
  have g2 := g2.past hb
  have g3 := g3.past hb
  have hB := below_later hB hb
  clear hb
  go_wp2_with fail
  with_reducible refine (longNat_any _ _ _ _ _ hc1).mono ?_
  rintro e w' ⟨rfl, rfl⟩
  go_wp2
  go_ret
  exact ⟨rfl, hB⟩

set_option maxRecDepth 100000 in
set_option maxHeartbeats 4000000 in
theorem quotGreatest_long2 (a : Option Addr) (n c : Nat) (l : List Nat) (a2 : Option Addr) (n2 c2 : Nat) (l2 : List Nat) (a3 : Option Addr) (n3 c3 : Nat) (l3 : List Nat) (w : World) (g1 : NatAt w a n c l) (g2 : NatAt w a2 n2 c2 l2) (g3 : NatAt w a3 n3 c3 l3) (q0 : n ≤ 5) (hl : 5 < n2) :
    Calls Try.prog 9 #[.slice a n c, .slice a2 n2 c2, .slice a3 n3 c3] w (RetVal w (.bool true)) := by
  have hc1 := Nat.le_trans g1.le g1.cle
  have hc2 := Nat.le_trans g2.le g2.cle
  have hc3 := Nat.le_trans g3.le g3.cle
  have t0 : decide ((5 : Int) < (n : Int)) = false := by simp; omega
  have t1 : decide ((5 : Int) < (n2 : Int)) = true := by simp; omega
  go_enter Try.func9, Try.ntmps9
  have hB := Below.refl w.heap.size w
  go_wp2_with fail
  with_reducible refine (awake03 _).mono ?_
  rintro e w1 ⟨rfl, hb⟩
  have g1 := g1.past hb
  have g2 := g2.past hb
  have g3 := g3.past hb
  have hB := below_later hB hb
  clear hb
  go_wp2_with fail
  with_reducible refine (longNat_any _ _ _ _ _ hc1).mono ?_
  rintro e w' ⟨rfl, rfl⟩
  go_wp2_with fail
  with_reducible refine (longNat_any _ _ _ _ _ hc2).mono ?_
  rintro e w' ⟨rfl, rfl⟩
  go_wp2
  go_ret
  exact ⟨rfl, hB⟩

set_option maxRecDepth 100000 in
set_option maxHeartbeats 4000000 in
theorem quotGreatest_long3 (a : Option Addr) (n c : Nat) (l : List Nat) (a2 : Option Addr) (n2 c2 : Nat) (l2 : List Nat) (a3 : Option Addr) (n3 c3 : Nat) (l3 : List Nat) (w : World) (g1 : NatAt w a n c l) (g2 : NatAt w a2 n2 c2 l2) (g3 : NatAt w a3 n3 c3 l3) (q0 : n ≤ 5) (q1 : n2 ≤ 5) (hl : 5 < n3) :
    Calls Try.prog 9 #[.slice a n c, .slice a2 n2 c2, .slice a3 n3 c3] w (RetVal w (.bool true)) := by
  have hc1 := Nat.le_trans g1.le g1.cle
  have hc2 := Nat.le_trans g2.le g2.cle
  have hc3 := Nat.le_trans g3.le g3.cle
  have t0 : decide ((5 : Int) < (n : Int)) = false := by simp; omega
  have t1 : decide ((5 : Int) < (n2 : Int)) = false := by simp; omega
  have t2 : decide ((5 : Int) < (n3 : Int)) = true := by simp; omega
  go_enter Try.func9, Try.ntmps9
  have hB := Below.refl w.heap.size w
  go_wp2_with fail
  with_reducible refine (awake03 _).mono ?_
  rintro e w1 ⟨rfl, hb⟩
  have g1 := g1.past hb
  have g2 := g2.past hb
  have g3 := g3.past hb
  have hB := below_later hB hb
  clear hb
  go_wp2_with fail
  with_reducible refine (longNat_any _ _ _ _ _ hc1).mono ?_
  rintro e w' ⟨rfl, rfl⟩
  go_wp2_with fail
  with_reducible refine (longNat_any _ _ _ _ _ hc2).mono ?_
  rintro e w' ⟨rfl, rfl⟩
  go_wp2_with fail
  with_reducible refine (longNat_any _ _ _ _ _ hc3).mono ?_
  rintro e w' ⟨rfl, rfl⟩
  go_wp2
  go_ret
  exact ⟨rfl, hB⟩

set_option maxRecDepth 100000 in
set_option maxHeartbeats 4000000 in
theorem quotGreatest_none (a : Option Addr) (n c : Nat) (l : List Nat) (a2 : Option Addr) (n2 c2 : Nat) (l2 : List Nat) (a3 : Option Addr) (n3 c3 : Nat) (l3 : List Nat) (w : World) (g1 : NatAt w a n c l) (g2 : NatAt w a2 n2 c2 l2) (g3 : NatAt w a3 n3 c3 l3) (q0 : n ≤ 5) (q1 : n2 ≤ 5) (q2 : n3 ≤ 5) (hz : Nat.gcd (val l) (val l2) = 0) :
    Calls Try.prog 9 #[.slice a n c, .slice a2 n2 c2, .slice a3 n3 c3] w (RetVal w (.bool true)) := by
  have hc1 := Nat.le_trans g1.le g1.cle
  have hc2 := Nat.le_trans g2.le g2.cle
  have hc3 := Nat.le_trans g3.le g3.cle
  have t0 : decide ((5 : Int) < (n : Int)) = false := by simp; omega
  have t1 : decide ((5 : Int) < (n2 : Int)) = false := by simp; omega
  have t2 : decide ((5 : Int) < (n3 : Int)) = false := by simp; omega
  have k1 := g1.short
  have k2 := g2.short
  have k3 := g3.short
  have kg := len_gcdN (a := val l) (b := val l2) (p := 5) (by omega) (by omega)
  have km := len_mulN (a := val l) (b := val l3) k1 k3
  have km2 := len_mulN (a := val l2) (b := val l3) k2 k3
  have km3 := len_mulN (a := Nat.gcd (val l) (val l2)) (b := val l3) kg k3
  have e0 : digs (Nat.gcd (val l2) (val l)) = digs (Nat.gcd (val l) (val l2)) := by rw [Nat.gcd_comm]
  have e1 : dvdB (val (digs (Nat.gcd (val l) (val l2)))) (val l) = true := by rw [val_digs]; exact decide_eq_true (Nat.gcd_dvd_left _ _)
  have e2 : dvdB (val (digs (Nat.gcd (val l) (val l2)))) (val l2) = true := by rw [val_digs]; exact decide_eq_true (Nat.gcd_dvd_right _ _)
  have e3 : digs (Nat.gcd (val (digs (val l * val l3))) (val (digs (val l2 * val l3)))) = digs (Nat.gcd (val l) (val l2) * val l3) := by rw [val_digs, val_digs, Nat.gcd_mul_right]
  have e4 : digs (val (digs (Nat.gcd (val l) (val l2))) * val l3) = digs (Nat.gcd (val l) (val l2) * val l3) := by rw [val_digs]
  have E0 := Lib.hid e0
  have E1 := Lib.hid e1
  have E2 := Lib.hid e2
  have E3 := Lib.hid e3
  have E4 := Lib.hid e4
  clear e0 e1 e2 e3 e4
  have eg : digs (Nat.gcd (val l) (val l2)) = [] := by rw [hz]; rfl
  have ea : digs (val l) = [] := by rw [Nat.eq_zero_of_gcd_eq_zero_left hz]; rfl
  have eb : digs (val l2) = [] := by rw [Nat.eq_zero_of_gcd_eq_zero_right hz]; rfl
  have EG := Lib.hid eg
  have EA := Lib.hid ea
  have EB := Lib.hid eb
  clear hz eg ea eb
  go_enter Try.func9, Try.ntmps9
  have hB := Below.refl w.heap.size w
  go_wp2_with fail
  with_reducible refine (awake03 _).mono ?_
  rintro e w1 ⟨rfl, hb⟩
  have g1 := g1.past hb
  have g2 := g2.past hb
  have g3 := g3.past hb
  have hB := below_later hB hb
  clear hb
  go_wp2_with fail
  with_reducible refine (longNat_any _ _ _ _ _ hc1).mono ?_
  rintro e w' ⟨rfl, rfl⟩
  go_wp2_with fail
  with_reducible refine (longNat_any _ _ _ _ _ hc2).mono ?_
  rintro e w' ⟨rfl, rfl⟩
  go_wp2_with fail
  with_reducible refine (longNat_any _ _ _ _ _ hc3).mono ?_
  rintro e w' ⟨rfl, rfl⟩
  go_wp2_with fail
  with_reducible refine (gcd_any _ _ _ (l) _ _ _ (l2) _ g1 g2 (by omega) (by omega)).mono ?_
  rintro e w2 ⟨ahG, nhG, chG, rfl, hG, hb⟩
  have g1 := g1.past hb
  have g2 := g2.past hb
  have g3 := g3.past hb
  have hB := below_later hB hb
  clear hb
  have lenhG := hG.len
  go_wp2_with fail
  with_reducible refine (gcd_any _ _ _ (l2) _ _ _ (l) _ g2 g1 (by omega) (by omega)).mono ?_
  rintro e w3 ⟨ahK, nhK, chK, rfl, hK, hb⟩
  have g1 := g1.past hb
  have g2 := g2.past hb
  have g3 := g3.past hb
  have hG := hG.past hb
  have hB := below_later hB hb
  clear hb
  rw [E0.out] at hK
  have lenhK := hK.len
  go_wp2_with fail
  with_reducible refine (sameNat_yes hG.toNatAt hK.toNatAt).mono ?_
  rintro e w4 ⟨rfl, hb⟩
  have g1 := g1.past hb
  have g2 := g2.past hb
  have g3 := g3.past hb
  have hG := hG.past hb
  have hK := hK.past hb
  have hB := below_later hB hb
  clear hb
  go_wp2_with fail
  with_reducible refine (divides_any _ _ _ (digs (Nat.gcd (val l) (val l2))) _ _ _ l _ hG.toNatAt g1 (by omega) (by omega)).mono ?_
  rintro e w5 ⟨rfl, hb⟩
  have g1 := g1.past hb
  have g2 := g2.past hb
  have g3 := g3.past hb
  have hG := hG.past hb
  have hB := below_later hB hb
  clear hb
  rw [E1.out]
  go_wp2_with fail
  with_reducible refine (divides_any _ _ _ (digs (Nat.gcd (val l) (val l2))) _ _ _ l2 _ hG.toNatAt g2 (by omega) (by omega)).mono ?_
  rintro e w6 ⟨rfl, hb⟩
  have g1 := g1.past hb
  have g2 := g2.past hb
  have g3 := g3.past hb
  have hG := hG.past hb
  have hB := below_later hB hb
  clear hb
  rw [E2.out]
  go_wp2_with fail
  with_reducible refine (school_any _ _ _ (l) _ _ _ (l3) _ g1 g3 (by omega) (by omega)).mono ?_
  rintro e w7 ⟨ahM, nhM, chM, rfl, hM, hb⟩
  have g1 := g1.past hb
  have g2 := g2.past hb
  have g3 := g3.past hb
  have hG := hG.past hb
  have hB := below_later hB hb
  clear hb
  have lenhM := hM.len
  go_wp2_with fail
  with_reducible refine (school_any _ _ _ (l2) _ _ _ (l3) _ g2 g3 (by omega) (by omega)).mono ?_
  rintro e w8 ⟨ahN, nhN, chN, rfl, hN, hb⟩
  have g1 := g1.past hb
  have g2 := g2.past hb
  have g3 := g3.past hb
  have hG := hG.past hb
  have hM := hM.past hb
  have hB := below_later hB hb
  clear hb
  have lenhN := hN.len
  go_wp2_with fail
  with_reducible refine (gcd_any _ _ _ (digs (val l * val l3)) _ _ _ (digs (val l2 * val l3)) _ hM.toNatAt hN.toNatAt (by omega) (by omega)).mono ?_
  rintro e w9 ⟨ahX, nhX, chX, rfl, hX, hb⟩
  have g1 := g1.past hb
  have g2 := g2.past hb
  have g3 := g3.past hb
  have hG := hG.past hb
  have hM := hM.past hb
  have hN := hN.past hb
  have hB := below_later hB hb
  clear hb
  rw [E3.out] at hX
  have lenhX := hX.len
  go_wp2_with fail
  with_reducible refine (school_any _ _ _ (digs (Nat.gcd (val l) (val l2))) _ _ _ (l3) _ hG.toNatAt g3 (by omega) (by omega)).mono ?_
  rintro e w10 ⟨ahY, nhY, chY, rfl, hY, hb⟩
  have g1 := g1.past hb
  have g2 := g2.past hb
  have g3 := g3.past hb
  have hG := hG.past hb
  have hX := hX.past hb
  have hB := below_later hB hb
  clear hb
  rw [E4.out] at hY
  have lenhY := hY.len
  go_wp2_with fail
  with_reducible refine (sameNat_yes hX.toNatAt hY.toNatAt).mono ?_
  rintro e w11 ⟨rfl, hb⟩
  have g1 := g1.past hb
  have g2 := g2.past hb
  have g3 := g3.past hb
  have hG := hG.past hb
  have hX := hX.past hb
  have hY := hY.past hb
  have hB := below_later hB hb
  clear hb
  rw [EG.out] at hG lenhG
  obtain rfl : nhG = 0 := lenhG.symm
  go_wp2_with fail
  with_reducible refine (trim_any _ _ _ (l) _ g1 (by omega)).mono ?_
  rintro e w12 ⟨ahT, nhT, chT, rfl, hT, hb⟩
  have g1 := g1.past hb
  have g2 := g2.past hb
  have hB := below_later hB hb
  clear hb
  have lenhT := hT.len
  rw [EA.out] at lenhT
  obtain rfl : nhT = 0 := lenhT.symm
  go_wp2_with fail
  with_reducible refine (trim_any _ _ _ (l2) _ g2 (by omega)).mono ?_
  rintro e w13 ⟨ahU, nhU, chU, rfl, hU, hb⟩
  have g1 := g1.past hb
  have g2 := g2.past hb
  have hT := hT.past hb
  have hB := below_later hB hb
  clear hb
  have lenhU := hU.len
  rw [EB.out] at lenhU
  obtain rfl : nhU = 0 := lenhU.symm
  go_wp2
  go_ret
  exact ⟨rfl, hB⟩

set_option maxRecDepth 100000 in
set_option maxHeartbeats 4000000 in
theorem quotGreatest_some (a : Option Addr) (n c : Nat) (l : List Nat) (a2 : Option Addr) (n2 c2 : Nat) (l2 : List Nat) (a3 : Option Addr) (n3 c3 : Nat) (l3 : List Nat) (w : World) (g1 : NatAt w a n c l) (g2 : NatAt w a2 n2 c2 l2) (g3 : NatAt w a3 n3 c3 l3) (q0 : n ≤ 5) (q1 : n2 ≤ 5) (q2 : n3 ≤ 5) (hz : Nat.gcd (val l) (val l2) ≠ 0) :
    Calls Try.prog 9 #[.slice a n c, .slice a2 n2 c2, .slice a3 n3 c3] w (RetVal w (.bool true)) := by
  have hc1 := Nat.le_trans g1.le g1.cle
  have hc2 := Nat.le_trans g2.le g2.cle
  have hc3 := Nat.le_trans g3.le g3.cle
  have t0 : decide ((5 : Int) < (n : Int)) = false := by simp; omega
  have t1 : decide ((5 : Int) < (n2 : Int)) = false := by simp; omega
  have t2 : decide ((5 : Int) < (n3 : Int)) = false := by simp; omega
  have k1 := g1.short
  have k2 := g2.short
  have k3 := g3.short
  have kg := len_gcdN (a := val l) (b := val l2) (p := 5) (by omega) (by omega)
  have km := len_mulN (a := val l) (b := val l3) k1 k3
  have km2 := len_mulN (a := val l2) (b := val l3) k2 k3
  have km3 := len_mulN (a := Nat.gcd (val l) (val l2)) (b := val l3) kg k3
  have kq := len_divN (b := Nat.gcd (val l) (val l2)) k1
  have kq2 := len_divN (b := Nat.gcd (val l) (val l2)) k2
  have e0 : digs (Nat.gcd (val l2) (val l)) = digs (Nat.gcd (val l) (val l2)) := by rw [Nat.gcd_comm]
  have e1 : dvdB (val (digs (Nat.gcd (val l) (val l2)))) (val l) = true := by rw [val_digs]; exact decide_eq_true (Nat.gcd_dvd_left _ _)
  have e2 : dvdB (val (digs (Nat.gcd (val l) (val l2)))) (val l2) = true := by rw [val_digs]; exact decide_eq_true (Nat.gcd_dvd_right _ _)
  have e3 : digs (Nat.gcd (val (digs (val l * val l3))) (val (digs (val l2 * val l3)))) = digs (Nat.gcd (val l) (val l2) * val l3) := by rw [val_digs, val_digs, Nat.gcd_mul_right]
  have e4 : digs (val (digs (Nat.gcd (val l) (val l2))) * val l3) = digs (Nat.gcd (val l) (val l2) * val l3) := by rw [val_digs]
  have e5 : digs (val l % val (digs (Nat.gcd (val l) (val l2)))) = [] := by rw [val_digs, Nat.mod_eq_zero_of_dvd (Nat.gcd_dvd_left _ _)]; rfl
  have e6 : digs (val l2 % val (digs (Nat.gcd (val l) (val l2)))) = [] := by rw [val_digs, Nat.mod_eq_zero_of_dvd (Nat.gcd_dvd_right _ _)]; rfl
  have e7 : digs (val l / val (digs (Nat.gcd (val l) (val l2)))) = digs (val l / Nat.gcd (val l) (val l2)) := by rw [val_digs]
  have e8 : digs (val l2 / val (digs (Nat.gcd (val l) (val l2)))) = digs (val l2 / Nat.gcd (val l) (val l2)) := by rw [val_digs]
  have e9 : digs (Nat.gcd (val (digs (val l / Nat.gcd (val l) (val l2)))) (val (digs (val l2 / Nat.gcd (val l) (val l2))))) = digs 1 := by rw [val_digs, val_digs, gcd_cop hz]
  have e10 : oneN (val (digs 1)) = 1 := by rw [val_digs]; rfl
  have e11 : oneB (val (digs 1)) = true := by rw [val_digs]; rfl
  have E0 := Lib.hid e0
  have E1 := Lib.hid e1
  have E2 := Lib.hid e2
  have E3 := Lib.hid e3
  have E4 := Lib.hid e4
  have E5 := Lib.hid e5
  have E6 := Lib.hid e6
  have E7 := Lib.hid e7
  have E8 := Lib.hid e8
  have E9 := Lib.hid e9
  have E10 := Lib.hid e10
  have E11 := Lib.hid e11
  clear e0 e1 e2 e3 e4 e5 e6 e7 e8 e9 e10 e11
  have HZ := Lib.hid hz
  have hzd : val (digs (Nat.gcd (val l) (val l2))) ≠ 0 := by rw [val_digs]; exact hz
  have HZD := Lib.hid hzd
  clear hz hzd
  go_enter Try.func9, Try.ntmps9
  have hB := Below.refl w.heap.size w
  go_wp2_with fail
  with_reducible refine (awake03 _).mono ?_
  rintro e w1 ⟨rfl, hb⟩
  have g1 := g1.past hb
  have g2 := g2.past hb
  have g3 := g3.past hb
  have hB := below_later hB hb
  clear hb
  go_wp2_with fail
  with_reducible refine (longNat_any _ _ _ _ _ hc1).mono ?_
  rintro e w' ⟨rfl, rfl⟩
  go_wp2_with fail
  with_reducible refine (longNat_any _ _ _ _ _ hc2).mono ?_
  rintro e w' ⟨rfl, rfl⟩
  go_wp2_with fail
  with_reducible refine (longNat_any _ _ _ _ _ hc3).mono ?_
  rintro e w' ⟨rfl, rfl⟩
  go_wp2_with fail
  with_reducible refine (gcd_any _ _ _ (l) _ _ _ (l2) _ g1 g2 (by omega) (by omega)).mono ?_
  rintro e w2 ⟨ahG, nhG, chG, rfl, hG, hb⟩
  have g1 := g1.past hb
  have g2 := g2.past hb
  have g3 := g3.past hb
  have hB := below_later hB hb
  clear hb
  have lenhG := hG.len
  go_wp2_with fail
  with_reducible refine (gcd_any _ _ _ (l2) _ _ _ (l) _ g2 g1 (by omega) (by omega)).mono ?_
  rintro e w3 ⟨ahK, nhK, chK, rfl, hK, hb⟩
  have g1 := g1.past hb
  have g2 := g2.past hb
  have g3 := g3.past hb
  have hG := hG.past hb
  have hB := below_later hB hb
  clear hb
  rw [E0.out] at hK
  have lenhK := hK.len
  go_wp2_with fail
  with_reducible refine (sameNat_yes hG.toNatAt hK.toNatAt).mono ?_
  rintro e w4 ⟨rfl, hb⟩
  have g1 := g1.past hb
  have g2 := g2.past hb
  have g3 := g3.past hb
  have hG := hG.past hb
  have hK := hK.past hb
  have hB := below_later hB hb
  clear hb
  go_wp2_with fail
  with_reducible refine (divides_any _ _ _ (digs (Nat.gcd (val l) (val l2))) _ _ _ l _ hG.toNatAt g1 (by omega) (by omega)).mono ?_
  rintro e w5 ⟨rfl, hb⟩
  have g1 := g1.past hb
  have g2 := g2.past hb
  have g3 := g3.past hb
  have hG := hG.past hb
  have hB := below_later hB hb
  clear hb
  rw [E1.out]
  go_wp2_with fail
  with_reducible refine (divides_any _ _ _ (digs (Nat.gcd (val l) (val l2))) _ _ _ l2 _ hG.toNatAt g2 (by omega) (by omega)).mono ?_
  rintro e w6 ⟨rfl, hb⟩
  have g1 := g1.past hb
  have g2 := g2.past hb
  have g3 := g3.past hb
  have hG := hG.past hb
  have hB := below_later hB hb
  clear hb
  rw [E2.out]
  go_wp2_with fail
  with_reducible refine (school_any _ _ _ (l) _ _ _ (l3) _ g1 g3 (by omega) (by omega)).mono ?_
  rintro e w7 ⟨ahM, nhM, chM, rfl, hM, hb⟩
  have g1 := g1.past hb
  have g2 := g2.past hb
  have g3 := g3.past hb
  have hG := hG.past hb
  have hB := below_later hB hb
  clear hb
  have lenhM := hM.len
  go_wp2_with fail
  with_reducible refine (school_any _ _ _ (l2) _ _ _ (l3) _ g2 g3 (by omega) (by omega)).mono ?_
  rintro e w8 ⟨ahN, nhN, chN, rfl, hN, hb⟩
  have g1 := g1.past hb
  have g2 := g2.past hb
  have g3 := g3.past hb
  have hG := hG.past hb
  have hM := hM.past hb
  have hB := below_later hB hb
  clear hb
  have lenhN := hN.len
  go_wp2_with fail
  with_reducible refine (gcd_any _ _ _ (digs (val l * val l3)) _ _ _ (digs (val l2 * val l3)) _ hM.toNatAt hN.toNatAt (by omega) (by omega)).mono ?_
  rintro e w9 ⟨ahX, nhX, chX, rfl, hX, hb⟩
  have g1 := g1.past hb
  have g2 := g2.past hb
  have g3 := g3.past hb
  have hG := hG.past hb
  have hM := hM.past hb
  have hN := hN.past hb
  have hB := below_later hB hb
  clear hb
  rw [E3.out] at hX
  have lenhX := hX.len
  go_wp2_with fail
  with_reducible refine (school_any _ _ _ (digs (Nat.gcd (val l) (val l2))) _ _ _ (l3) _ hG.toNatAt g3 (by omega) (by omega)).mono ?_
  rintro e w10 ⟨ahY, nhY, chY, rfl, hY, hb⟩
  have g1 := g1.past hb
  have g2 := g2.past hb
  have g3 := g3.past hb
  have hG := hG.past hb
  have hX := hX.past hb
  have hB := below_later hB hb
  clear hb
  rw [E4.out] at hY
  have lenhY := hY.len
  go_wp2_with fail
  with_reducible refine (sameNat_yes hX.toNatAt hY.toNatAt).mono ?_
  rintro e w11 ⟨rfl, hb⟩
  have g1 := g1.past hb
  have g2 := g2.past hb
  have g3 := g3.past hb
  have hG := hG.past hb
  have hX := hX.past hb
  have hY := hY.past hb
  have hB := below_later hB hb
  clear hb
  have tG := beq_pos (n := nhG) (by have := digsN_pos HZ.out; omega)
  go_wp2_with fail
  with_reducible refine (div_yes _ _ _ l _ _ _ (digs (Nat.gcd (val l) (val l2))) _ g1 hG.toNatAt (by omega) (by omega) HZD.out).mono ?_
  rintro e w12 ⟨ahQ, nhQ, chQ, ahR, nhR, chR, rfl, hQ, hR, hb⟩
  have g1 := g1.past hb
  have g2 := g2.past hb
  have hG := hG.past hb
  have hB := below_later hB hb
  clear hb
  rw [E5.out] at hR
  obtain rfl : nhR = 0 := hR.len.symm
  rw [E7.out] at hQ
  have lenhQ := hQ.len
  go_wp2_with fail
  with_reducible refine (div_yes _ _ _ l2 _ _ _ (digs (Nat.gcd (val l) (val l2))) _ g2 hG.toNatAt (by omega) (by omega) HZD.out).mono ?_
  rintro e w13 ⟨ahS, nhS, chS, ahT, nhT, chT, rfl, hS, hT, hb⟩
  have g1 := g1.past hb
  have g2 := g2.past hb
  have hG := hG.past hb
  have hQ := hQ.past hb
  have hB := below_later hB hb
  clear hb
  rw [E6.out] at hT
  obtain rfl : nhT = 0 := hT.len.symm
  rw [E8.out] at hS
  have lenhS := hS.len
  go_wp2_with fail
  with_reducible refine (gcd_any _ _ _ (digs (val l / Nat.gcd (val l) (val l2))) _ _ _ (digs (val l2 / Nat.gcd (val l) (val l2))) _ hQ.toNatAt hS.toNatAt (by omega) (by omega)).mono ?_
  rintro e w14 ⟨ahO, nhO, chO, rfl, hO, hb⟩
  have g1 := g1.past hb
  have g2 := g2.past hb
  have hG := hG.past hb
  have hQ := hQ.past hb
  have hS := hS.past hb
  have hB := below_later hB hb
  clear hb
  rw [E9.out] at hO
  have lenhO := hO.len
  go_wp2_with fail
  with_reducible refine (one_any _ _ _ (digs 1) _ hO.toNatAt).mono ?_
  rintro e w' ⟨rfl, rfl⟩
  rw [E10.out, E11.out]
  go_wp2
  go_ret
  exact ⟨rfl, hB⟩

theorem quotGreatest_any (a : Option Addr) (n c : Nat) (l : List Nat) (a2 : Option Addr) (n2 c2 : Nat) (l2 : List Nat) (a3 : Option Addr) (n3 c3 : Nat) (l3 : List Nat) (w : World) (g1 : NatAt w a n c l) (g2 : NatAt w a2 n2 c2 l2) (g3 : NatAt w a3 n3 c3 l3) :
    Calls Try.prog 9 #[.slice a n c, .slice a2 n2 c2, .slice a3 n3 c3] w (RetVal w (.bool true)) := by
  by_cases h1 : 5 < n
  · exact quotGreatest_long1 _ _ _ l _ _ _ l2 _ _ _ l3 w g1 g2 g3 h1
  by_cases h2 : 5 < n2
  · exact quotGreatest_long2 _ _ _ l _ _ _ l2 _ _ _ l3 w g1 g2 g3 (by omega) h2
  by_cases h3 : 5 < n3
  · exact quotGreatest_long3 _ _ _ l _ _ _ l2 _ _ _ l3 w g1 g2 g3 (by omega) (by omega) h3
  by_cases hz : Nat.gcd (val l) (val l2) = 0
  · exact quotGreatest_none _ _ _ l _ _ _ l2 _ _ _ l3 w g1 g2 g3 (by omega) (by omega) (by omega) hz
  · exact quotGreatest_some _ _ _ l _ _ _ l2 _ _ _ l3 w g1 g2 g3 (by omega) (by omega) (by omega) hz

end Go.Proofs.Ytdjhgalaianifaa
