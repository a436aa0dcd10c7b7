/- the laws of quot: QuotWhole. -/
import Derived.Test.YtdjhgalaianifaaNum5
import Derived.Test.YtdjhgalaianifaaLaw03a
set_option linter.unusedVariables false
set_option linter.unusedSimpArgs false
namespace Go.Proofs.Ytdjhgalaianifaa
open Go.RowKit

set_option maxRecDepth 100000 in
set_option maxHeartbeats 4000000 in
theorem quotWhole_long1 (a : Option Addr) (n c : Nat) (l : List Nat) (a2 : Option Addr) (n2 c2 : Nat) (l2 : List Nat) (a3 : Option Addr) (n3 c3 : Nat) (l3 : List Nat) (w : World) (g1 : NatAt w a n c l) (g2 : NatAt w a2 n2 c2 l2) (g3 : NatAt w a3 n3 c3 l3)  (hl : 16 < n) :
    Calls Try.prog 8 #[.slice a n c, .slice a2 n2 c2, .slice a3 n3 c3] w (RetVal w (.bool true)) := by
  have hc1 := Nat.le_trans g1.le g1.cle
  have hc2 := Nat.le_trans g2.le g2.cle
  have hc3 := Nat.le_trans g3.le g3.cle
  have t0 : decide ((16 : Int) < (n : Int)) = true := by simp; omega
  go_enter Try.func8, Try.ntmps8
  have hB := Below.refl w.heap.size w
  go_wp2_with fail
  with_reducible refine (awake03 _).mono ?_
  rintro e w1 ⟨rfl, hb⟩
  have g1 := g1.past hb
  have g2 := g2.past hb
  have g3 := g3.past hb
  have hB := below_later hB hb
  clear hb
  go_wp2_with fail
  with_reducible refine (longNat_any _ _ _ _ _ hc1).mono ?_
  rintro e w' ⟨rfl, rfl⟩
  go_wp2
  go_ret
  exact ⟨rfl, hB⟩

set_option maxRecDepth 100000 in
set_option maxHeartbeats 4000000 in
theorem quotWhole_long2 (a : Option Addr) (n c : Nat) (l : List Nat) (a2 : Option Addr) (n2 c2 : Nat) (l2 : List Nat) (a3 : Option Addr) (n3 c3 : Nat) (l3 : List Nat) (w : World) (g1 : NatAt w a n c l) (g2 : NatAt w a2 n2 c2 l2) (g3 : NatAt w a3 n3 c3 l3) (q0 : n ≤ 16) (hl : 16 < n2) :
    Calls Try.prog 8 #[.slice a n c, .slice a2 n2 c2, .slice a3 n3 c3] w (RetVal w (.bool true)) := by
  have hc1 := Nat.le_trans g1.le g1.cle
  have hc2 := Nat.le_trans g2.le g2.cle
  have hc3 := Nat.le_trans g3.le g3.cle
  have t0 : decide ((16 : Int) < (n : Int)) = false := by simp; omega
  have t1 : decide ((16 : Int) < (n2 : Int)) = true := by simp; omega
  go_enter Try.func8, Try.ntmps8
  have hB := Below.refl w.heap.size w
  go_wp2_with fail
  with_reducible refine (awake03 _).mono ?_
  rintro e w1 ⟨rfl, hb⟩
  have g1 := g1.past hb
  have g2 := g2.past hb
  have g3 := g3.past hb
  have hB := below_later hB hb
  clear hb
  go_wp2_with fail
  with_reducible refine (longNat_any _ _ _ _ _ hc1).mono ?_
  rintro e w' ⟨rfl, rfl⟩
  go_wp2_with fail
  with_reducible refine (longNat_any _ _ _ _ _ hc2).mono ?_
  rintro e w' ⟨rfl, rfl⟩
  go_wp2
  go_ret
  exact ⟨rfl, hB⟩

set_option maxRecDepth 100000 in
set_option maxHeartbeats 4000000 in
theorem quotWhole_long3 (a : Option Addr) (n c : Nat) (l : List Nat) (a2 : Option Addr) (n2 c2 : Nat) (l2 : List Nat) (a3 : Option Addr) (n3 c3 : Nat) (l3 : List Nat) (w : World) (g1 : NatAt w a n c l) (g2 : NatAt w a2 n2 c2 l2) (g3 : NatAt w a3 n3 c3 l3) (q0 : n ≤ 16) (q1 : n2 ≤ 16) (hl : 16 < n3) :
    Calls Try.prog 8 #[.slice a n c, .slice a2 n2 c2, .slice a3 n3 c3] w (RetVal w (.bool true)) := by
  have hc1 := Nat.le_trans g1.le g1.cle
  have hc2 := Nat.le_trans g2.le g2.cle
  have hc3 := Nat.le_trans g3.le g3.cle
  have t0 : decide ((16 : Int) < (n : Int)) = false := by simp; omega
  have t1 : decide ((16 : Int) < (n2 : Int)) = false := by simp; omega
  have t2 : decide ((16 : Int) < (n3 : Int)) = true := by simp; omega
  go_enter Try.func8, Try.ntmps8
  have hB := Below.refl w.heap.size w
  go_wp2_with fail
  with_reducible refine (awake03 _).mono ?_
  rintro e w1 ⟨rfl, hb⟩
  have g1 := g1.past hb
  have g2 := g2.past hb
  have g3 := g3.past hb
  have hB := below_later hB hb
  clear hb
  go_wp2_with fail
  with_reducible refine (longNat_any _ _ _ _ _ hc1).mono ?_
  rintro e w' ⟨rfl, rfl⟩
  go_wp2_with fail
  with_reducible refine (longNat_any _ _ _ _ _ hc2).mono ?_
  rintro e w' ⟨rfl, rfl⟩
  go_wp2_with fail
  with_reducible refine (longNat_any _ _ _ _ _ hc3).mono ?_
  rintro e w' ⟨rfl, rfl⟩
  go_wp2
  go_ret
  exact ⟨rfl, hB⟩

set_option maxRecDepth 100000 in
set_option maxHeartbeats 4000000 in
theorem quotWhole_zero (a : Option Addr) (n c : Nat) (l : List Nat) (a2 : Option Addr) (n2 c2 : Nat) (l2 : List Nat) (a3 : Option Addr) (n3 c3 : Nat) (l3 : List Nat) (w : World) (g1 : NatAt w a n c l) (g2 : NatAt w a2 n2 c2 l2) (g3 : NatAt w a3 n3 c3 l3) (q0 : n ≤ 16) (q1 : n2 ≤ 16) (q2 : n3 ≤ 16) (hz : val l2 = 0) :
    Calls Try.prog 8 #[.slice a n c, .slice a2 n2 c2, .slice a3 n3 c3] w (RetVal w (.bool true)) := by
  have hc1 := Nat.le_trans g1.le g1.cle
  have hc2 := Nat.le_trans g2.le g2.cle
  have hc3 := Nat.le_trans g3.le g3.cle
  have t0 : decide ((16 : Int) < (n : Int)) = false := by simp; omega
  have t1 : decide ((16 : Int) < (n2 : Int)) = false := by simp; omega
  have t2 : decide ((16 : Int) < (n3 : Int)) = false := by simp; omega
  have k1 := g1.short
  have k2 := g2.short
  have k3 := g3.short
  have ez : digs (val l2) = [] := by rw [hz]; rfl
  have EZ := Lib.hid ez
  clear hz ez
  go_enter Try.func8, Try.ntmps8
  have hB := Below.refl w.heap.size w
  go_wp2_with fail
  with_reducible refine (awake03 _).mono ?_
  rintro e w1 ⟨rfl, hb⟩
  have g1 := g1.past hb
  have g2 := g2.past hb
  have g3 := g3.past hb
  have hB := below_later hB hb
  clear hb
  go_wp2_with fail
  with_reducible refine (longNat_any _ _ _ _ _ hc1).mono ?_
  rintro e w' ⟨rfl, rfl⟩
  go_wp2_with fail
  with_reducible refine (longNat_any _ _ _ _ _ hc2).mono ?_
  rintro e w' ⟨rfl, rfl⟩
  go_wp2_with fail
  with_reducible refine (longNat_any _ _ _ _ _ hc3).mono ?_
  rintro e w' ⟨rfl, rfl⟩
  go_wp2_with fail
  with_reducible refine (trim_any _ _ _ l2 _ g2 (by omega)).mono ?_
  rintro e w2 ⟨ahZ, nhZ, chZ, rfl, hZ, hb⟩
  have g1 := g1.past hb
  have g2 := g2.past hb
  have g3 := g3.past hb
  have hB := below_later hB hb
  clear hb
  rw [EZ.out] at hZ
  obtain rfl : nhZ = 0 := hZ.len.symm
  go_wp2
  go_ret
  exact ⟨rfl, hB⟩

set_option maxRecDepth 100000 in
set_option maxHeartbeats 4000000 in
theorem quotWhole_gt (a : Option Addr) (n c : Nat) (l : List Nat) (a2 : Option Addr) (n2 c2 : Nat) (l2 : List Nat) (a3 : Option Addr) (n3 c3 : Nat) (l3 : List Nat) (w : World) (g1 : NatAt w a n c l) (g2 : NatAt w a2 n2 c2 l2) (g3 : NatAt w a3 n3 c3 l3) (q0 : n ≤ 16) (q1 : n2 ≤ 16) (q2 : n3 ≤ 16) (hz : val l2 ≠ 0) (hv : val l2 < val l3) :
    Calls Try.prog 8 #[.slice a n c, .slice a2 n2 c2, .slice a3 n3 c3] w (RetVal w (.bool true)) := by
  have hc1 := Nat.le_trans g1.le g1.cle
  have hc2 := Nat.le_trans g2.le g2.cle
  have hc3 := Nat.le_trans g3.le g3.cle
  have t0 : decide ((16 : Int) < (n : Int)) = false := by simp; omega
  have t1 : decide ((16 : Int) < (n2 : Int)) = false := by simp; omega
  have t2 : decide ((16 : Int) < (n3 : Int)) = false := by simp; omega
  have k1 := g1.short
  have k2 := g2.short
  have k3 := g3.short
  have km := len_mulN (a := val l) (b := val l2) k1 k2
  have ka := len_addN (a := val l * val l2) (b := val l3) (p := 32) (by omega) (by omega)
  have e0 : digs (val (digs (val l * val l2)) / val l2) = digs (val l) := by rw [val_digs, Nat.mul_div_cancel _ (Nat.pos_of_ne_zero hz)]
  have e1 : digs (val (digs (val l * val l2)) % val l2) = [] := by rw [val_digs, Nat.mul_mod_left]; rfl
  have e2 : dvdB (val l2) (val (digs (val l * val l2))) = true := by rw [val_digs]; exact decide_eq_true ⟨val l, Nat.mul_comm _ _⟩
  have e3 : cmpI (val l3) (val l2) = 1 := cmpI_gt hv
  have E0 := Lib.hid e0
  have E1 := Lib.hid e1
  have E2 := Lib.hid e2
  have E3 := Lib.hid e3
  clear e0 e1 e2 e3
  clear hv
  have HZ := Lib.hid hz
  clear hz
  go_enter Try.func8, Try.ntmps8
  have hB := Below.refl w.heap.size w
  go_wp2_with fail
  with_reducible refine (awake03 _).mono ?_
  rintro e w1 ⟨rfl, hb⟩
  have g1 := g1.past hb
  have g2 := g2.past hb
  have g3 := g3.past hb
  have hB := below_later hB hb
  clear hb
  go_wp2_with fail
  with_reducible refine (longNat_any _ _ _ _ _ hc1).mono ?_
  rintro e w' ⟨rfl, rfl⟩
  go_wp2_with fail
  with_reducible refine (longNat_any _ _ _ _ _ hc2).mono ?_
  rintro e w' ⟨rfl, rfl⟩
  go_wp2_with fail
  with_reducible refine (longNat_any _ _ _ _ _ hc3).mono ?_
  rintro e w' ⟨rfl, rfl⟩
  go_wp2_with fail
  with_reducible refine (trim_any _ _ _ l2 _ g2 (by omega)).mono ?_
  rintro e w2 ⟨ahZ, nhZ, chZ, rfl, hZ, hb⟩
  have g1 := g1.past hb
  have g2 := g2.past hb
  have g3 := g3.past hb
  have hB := below_later hB hb
  clear hb
  have tZ := beq_pos (n := nhZ) (by have := hZ.len; have := digsN_pos HZ.out; omega)
  go_wp2_with fail
  with_reducible refine (school_any _ _ _ (l) _ _ _ (l2) _ g1 g2 (by omega) (by omega)).mono ?_
  rintro e w3 ⟨ahP, nhP, chP, rfl, hP, hb⟩
  have g1 := g1.past hb
  have g2 := g2.past hb
  have g3 := g3.past hb
  have hB := below_later hB hb
  clear hb
  have lenhP := hP.len
  go_wp2_with fail
  with_reducible refine (trim_any _ _ _ (l) _ g1 (by omega)).mono ?_
  rintro e w4 ⟨ahT, nhT, chT, rfl, hT, hb⟩
  have g1 := g1.past hb
  have g2 := g2.past hb
  have g3 := g3.past hb
  have hP := hP.past hb
  have hB := below_later hB hb
  clear hb
  have lenhT := hT.len
  go_wp2_with fail
  with_reducible refine (divides03_yes (l := digs (val l * val l2)) (l2 := l2) (l3 := digs (val l)) (l4 := []) hP.toNatAt g2 hT.toNatAt (NatAt.nil _) (by omega) (by omega) HZ.out E0.out E1.out).mono ?_
  rintro e w5 ⟨rfl, hb⟩
  have g1 := g1.past hb
  have g2 := g2.past hb
  have g3 := g3.past hb
  have hP := hP.past hb
  have hT := hT.past hb
  have hB := below_later hB hb
  clear hb
  go_wp2_with fail
  with_reducible refine (divides_any _ _ _ l2 _ _ _ (digs (val l * val l2)) _ g2 hP.toNatAt (by omega) (by omega)).mono ?_
  rintro e w6 ⟨rfl, hb⟩
  have g1 := g1.past hb
  have g2 := g2.past hb
  have g3 := g3.past hb
  have hP := hP.past hb
  have hB := below_later hB hb
  clear hb
  rw [E2.out]
  go_wp2_with fail
  with_reducible refine (cmp_any _ _ _ l3 _ _ _ l2 _ g3 g2).mono ?_
  rintro e w7 ⟨rfl, hb⟩
  have g1 := g1.past hb
  have g2 := g2.past hb
  have g3 := g3.past hb
  have hP := hP.past hb
  have hB := below_later hB hb
  clear hb
  rw [E3.out]
  go_wp2
  go_ret
  exact ⟨rfl, hB⟩

set_option maxRecDepth 100000 in
set_option maxHeartbeats 4000000 in
theorem quotWhole_eq (a : Option Addr) (n c : Nat) (l : List Nat) (a2 : Option Addr) (n2 c2 : Nat) (l2 : List Nat) (a3 : Option Addr) (n3 c3 : Nat) (l3 : List Nat) (w : World) (g1 : NatAt w a n c l) (g2 : NatAt w a2 n2 c2 l2) (g3 : NatAt w a3 n3 c3 l3) (q0 : n ≤ 16) (q1 : n2 ≤ 16) (q2 : n3 ≤ 16) (hz : val l2 ≠ 0) (hv : val l3 = val l2) :
    Calls Try.prog 8 #[.slice a n c, .slice a2 n2 c2, .slice a3 n3 c3] w (RetVal w (.bool true)) := by
  have hc1 := Nat.le_trans g1.le g1.cle
  have hc2 := Nat.le_trans g2.le g2.cle
  have hc3 := Nat.le_trans g3.le g3.cle
  have t0 : decide ((16 : Int) < (n : Int)) = false := by simp; omega
  have t1 : decide ((16 : Int) < (n2 : Int)) = false := by simp; omega
  have t2 : decide ((16 : Int) < (n3 : Int)) = false := by simp; omega
  have k1 := g1.short
  have k2 := g2.short
  have k3 := g3.short
  have km := len_mulN (a := val l) (b := val l2) k1 k2
  have ka := len_addN (a := val l * val l2) (b := val l3) (p := 32) (by omega) (by omega)
  have e0 : digs (val (digs (val l * val l2)) / val l2) = digs (val l) := by rw [val_digs, Nat.mul_div_cancel _ (Nat.pos_of_ne_zero hz)]
  have e1 : digs (val (digs (val l * val l2)) % val l2) = [] := by rw [val_digs, Nat.mul_mod_left]; rfl
  have e2 : dvdB (val l2) (val (digs (val l * val l2))) = true := by rw [val_digs]; exact decide_eq_true ⟨val l, Nat.mul_comm _ _⟩
  have e3 : cmpI (val l3) (val l2) = 0 := by rw [hv]; exact cmpI_eq _
  have E0 := Lib.hid e0
  have E1 := Lib.hid e1
  have E2 := Lib.hid e2
  have E3 := Lib.hid e3
  clear e0 e1 e2 e3
  clear hv
  have HZ := Lib.hid hz
  clear hz
  go_enter Try.func8, Try.ntmps8
  have hB := Below.refl w.heap.size w
  go_wp2_with fail
  with_reducible refine (awake03 _).mono ?_
  rintro e w1 ⟨rfl, hb⟩
  have g1 := g1.past hb
  have g2 := g2.past hb
  have g3 := g3.past hb
  have hB := below_later hB hb
  clear hb
  go_wp2_with fail
  with_reducible refine (longNat_any _ _ _ _ _ hc1).mono ?_
  rintro e w' ⟨rfl, rfl⟩
  go_wp2_with fail
  with_reducible refine (longNat_any _ _ _ _ _ hc2).mono ?_
  rintro e w' ⟨rfl, rfl⟩
  go_wp2_with fail
  with_reducible refine (longNat_any _ _ _ _ _ hc3).mono ?_
  rintro e w' ⟨rfl, rfl⟩
  go_wp2_with fail
  with_reducible refine (trim_any _ _ _ l2 _ g2 (by omega)).mono ?_
  rintro e w2 ⟨ahZ, nhZ, chZ, rfl, hZ, hb⟩
  have g1 := g1.past hb
  have g2 := g2.past hb
  have g3 := g3.past hb
  have hB := below_later hB hb
  clear hb
  have tZ := beq_pos (n := nhZ) (by have := hZ.len; have := digsN_pos HZ.out; omega)
  go_wp2_with fail
  with_reducible refine (school_any _ _ _ (l) _ _ _ (l2) _ g1 g2 (by omega) (by omega)).mono ?_
  rintro e w3 ⟨ahP, nhP, chP, rfl, hP, hb⟩
  have g1 := g1.past hb
  have g2 := g2.past hb
  have g3 := g3.past hb
  have hB := below_later hB hb
  clear hb
  have lenhP := hP.len
  go_wp2_with fail
  with_reducible refine (trim_any _ _ _ (l) _ g1 (by omega)).mono ?_
  rintro e w4 ⟨ahT, nhT, chT, rfl, hT, hb⟩
  have g1 := g1.past hb
  have g2 := g2.past hb
  have g3 := g3.past hb
  have hP := hP.past hb
  have hB := below_later hB hb
  clear hb
  have lenhT := hT.len
  go_wp2_with fail
  with_reducible refine (divides03_yes (l := digs (val l * val l2)) (l2 := l2) (l3 := digs (val l)) (l4 := []) hP.toNatAt g2 hT.toNatAt (NatAt.nil _) (by omega) (by omega) HZ.out E0.out E1.out).mono ?_
  rintro e w5 ⟨rfl, hb⟩
  have g1 := g1.past hb
  have g2 := g2.past hb
  have g3 := g3.past hb
  have hP := hP.past hb
  have hT := hT.past hb
  have hB := below_later hB hb
  clear hb
  go_wp2_with fail
  with_reducible refine (divides_any _ _ _ l2 _ _ _ (digs (val l * val l2)) _ g2 hP.toNatAt (by omega) (by omega)).mono ?_
  rintro e w6 ⟨rfl, hb⟩
  have g1 := g1.past hb
  have g2 := g2.past hb
  have g3 := g3.past hb
  have hP := hP.past hb
  have hB := below_later hB hb
  clear hb
  rw [E2.out]
  go_wp2_with fail
  with_reducible refine (cmp_any _ _ _ l3 _ _ _ l2 _ g3 g2).mono ?_
  rintro e w7 ⟨rfl, hb⟩
  have g1 := g1.past hb
  have g2 := g2.past hb
  have g3 := g3.past hb
  have hP := hP.past hb
  have hB := below_later hB hb
  clear hb
  rw [E3.out]
  go_wp2
  go_ret
  exact ⟨rfl, hB⟩

set_option maxRecDepth 100000 in
set_option maxHeartbeats 4000000 in
theorem quotWhole_none (a : Option Addr) (n c : Nat) (l : List Nat) (a2 : Option Addr) (n2 c2 : Nat) (l2 : List Nat) (a3 : Option Addr) (n3 c3 : Nat) (l3 : List Nat) (w : World) (g1 : NatAt w a n c l) (g2 : NatAt w a2 n2 c2 l2) (g3 : NatAt w a3 n3 c3 l3) (q0 : n ≤ 16) (q1 : n2 ≤ 16) (q2 : n3 ≤ 16) (hz : val l2 ≠ 0) (hv : val l3 < val l2) (h0 : val l3 = 0) :
    Calls Try.prog 8 #[.slice a n c, .slice a2 n2 c2, .slice a3 n3 c3] w (RetVal w (.bool true)) := by
  have hc1 := Nat.le_trans g1.le g1.cle
  have hc2 := Nat.le_trans g2.le g2.cle
  have hc3 := Nat.le_trans g3.le g3.cle
  have t0 : decide ((16 : Int) < (n : Int)) = false := by simp; omega
  have t1 : decide ((16 : Int) < (n2 : Int)) = false := by simp; omega
  have t2 : decide ((16 : Int) < (n3 : Int)) = false := by simp; omega
  have k1 := g1.short
  have k2 := g2.short
  have k3 := g3.short
  have km := len_mulN (a := val l) (b := val l2) k1 k2
  have ka := len_addN (a := val l * val l2) (b := val l3) (p := 32) (by omega) (by omega)
  have e0 : digs (val (digs (val l * val l2)) / val l2) = digs (val l) := by rw [val_digs, Nat.mul_div_cancel _ (Nat.pos_of_ne_zero hz)]
  have e1 : digs (val (digs (val l * val l2)) % val l2) = [] := by rw [val_digs, Nat.mul_mod_left]; rfl
  have e2 : dvdB (val l2) (val (digs (val l * val l2))) = true := by rw [val_digs]; exact decide_eq_true ⟨val l, Nat.mul_comm _ _⟩
  have e3 : cmpI (val l3) (val l2) = -1 := cmpI_lt hv
  have e4 : digs (val (digs (val l * val l2)) + val l3) = digs (val l * val l2 + val l3) := by rw [val_digs]
  have e5 : digs (val (digs (val l * val l2 + val l3)) / val l2) = digs (val l) := by rw [val_digs, Nat.mul_comm, Nat.mul_add_div (Nat.pos_of_ne_zero hz), Nat.div_eq_of_lt hv, Nat.add_zero]
  have e6 : digs (val (digs (val l * val l2 + val l3)) % val l2) = [] := by rw [val_digs, Nat.mul_comm, Nat.mul_add_mod, Nat.mod_eq_of_lt hv]; rw [h0]; rfl
  have e7 : dvdB (val l2) (val (digs (val l * val l2 + val l3))) = true := by rw [val_digs, dvdB_pos, Nat.mul_comm, Nat.mul_add_mod, Nat.mod_eq_of_lt hv]; exact decide_eq_true h0
  have E0 := Lib.hid e0
  have E1 := Lib.hid e1
  have E2 := Lib.hid e2
  have E3 := Lib.hid e3
  have E4 := Lib.hid e4
  have E5 := Lib.hid e5
  have E6 := Lib.hid e6
  have E7 := Lib.hid e7
  clear e0 e1 e2 e3 e4 e5 e6 e7
  have ez : digs (val l3) = [] := by rw [h0]; rfl
  have EZ := Lib.hid ez
  clear ez h0 hv
  have HZ := Lib.hid hz
  clear hz
  go_enter Try.func8, Try.ntmps8
  have hB := Below.refl w.heap.size w
  go_wp2_with fail
  with_reducible refine (awake03 _).mono ?_
  rintro e w1 ⟨rfl, hb⟩
  have g1 := g1.past hb
  have g2 := g2.past hb
  have g3 := g3.past hb
  have hB := below_later hB hb
  clear hb
  go_wp2_with fail
  with_reducible refine (longNat_any _ _ _ _ _ hc1).mono ?_
  rintro e w' ⟨rfl, rfl⟩
  go_wp2_with fail
  with_reducible refine (longNat_any _ _ _ _ _ hc2).mono ?_
  rintro e w' ⟨rfl, rfl⟩
  go_wp2_with fail
  with_reducible refine (longNat_any _ _ _ _ _ hc3).mono ?_
  rintro e w' ⟨rfl, rfl⟩
  go_wp2_with fail
  with_reducible refine (trim_any _ _ _ l2 _ g2 (by omega)).mono ?_
  rintro e w2 ⟨ahZ, nhZ, chZ, rfl, hZ, hb⟩
  have g1 := g1.past hb
  have g2 := g2.past hb
  have g3 := g3.past hb
  have hB := below_later hB hb
  clear hb
  have tZ := beq_pos (n := nhZ) (by have := hZ.len; have := digsN_pos HZ.out; omega)
  go_wp2_with fail
  with_reducible refine (school_any _ _ _ (l) _ _ _ (l2) _ g1 g2 (by omega) (by omega)).mono ?_
  rintro e w3 ⟨ahP, nhP, chP, rfl, hP, hb⟩
  have g1 := g1.past hb
  have g2 := g2.past hb
  have g3 := g3.past hb
  have hB := below_later hB hb
  clear hb
  have lenhP := hP.len
  go_wp2_with fail
  with_reducible refine (trim_any _ _ _ (l) _ g1 (by omega)).mono ?_
  rintro e w4 ⟨ahT, nhT, chT, rfl, hT, hb⟩
  have g1 := g1.past hb
  have g2 := g2.past hb
  have g3 := g3.past hb
  have hP := hP.past hb
  have hB := below_later hB hb
  clear hb
  have lenhT := hT.len
  go_wp2_with fail
  with_reducible refine (divides03_yes (l := digs (val l * val l2)) (l2 := l2) (l3 := digs (val l)) (l4 := []) hP.toNatAt g2 hT.toNatAt (NatAt.nil _) (by omega) (by omega) HZ.out E0.out E1.out).mono ?_
  rintro e w5 ⟨rfl, hb⟩
  have g1 := g1.past hb
  have g2 := g2.past hb
  have g3 := g3.past hb
  have hP := hP.past hb
  have hT := hT.past hb
  have hB := below_later hB hb
  clear hb
  go_wp2_with fail
  with_reducible refine (divides_any _ _ _ l2 _ _ _ (digs (val l * val l2)) _ g2 hP.toNatAt (by omega) (by omega)).mono ?_
  rintro e w6 ⟨rfl, hb⟩
  have g1 := g1.past hb
  have g2 := g2.past hb
  have g3 := g3.past hb
  have hP := hP.past hb
  have hB := below_later hB hb
  clear hb
  rw [E2.out]
  go_wp2_with fail
  with_reducible refine (cmp_any _ _ _ l3 _ _ _ l2 _ g3 g2).mono ?_
  rintro e w7 ⟨rfl, hb⟩
  have g1 := g1.past hb
  have g2 := g2.past hb
  have g3 := g3.past hb
  have hP := hP.past hb
  have hB := below_later hB hb
  clear hb
  rw [E3.out]
  go_wp2_with fail
  with_reducible refine (trim_any _ _ _ (l3) _ g3 (by omega)).mono ?_
  rintro e w8 ⟨ahR, nhR, chR, rfl, hR, hb⟩
  have g1 := g1.past hb
  have g2 := g2.past hb
  have g3 := g3.past hb
  have hP := hP.past hb
  have hB := below_later hB hb
  clear hb
  have lenhR := hR.len
  rw [EZ.out] at hR lenhR
  obtain rfl : nhR = 0 := lenhR.symm
  go_wp2_with fail
  with_reducible refine (add_any _ _ _ (digs (val l * val l2)) _ _ _ (l3) _ hP.toNatAt g3 (by omega) (by omega)).mono ?_
  rintro e w9 ⟨ahS, nhS, chS, rfl, hS, hb⟩
  have g1 := g1.past hb
  have g2 := g2.past hb
  have g3 := g3.past hb
  have hP := hP.past hb
  have hR := hR.past hb
  have hB := below_later hB hb
  clear hb
  rw [E4.out] at hS
  have lenhS := hS.len
  go_wp2_with fail
  with_reducible refine (trim_any _ _ _ (l) _ g1 (by omega)).mono ?_
  rintro e w10 ⟨ahT, nhT, chT, rfl, hT, hb⟩
  have g1 := g1.past hb
  have g2 := g2.past hb
  have g3 := g3.past hb
  have hP := hP.past hb
  have hR := hR.past hb
  have hS := hS.past hb
  have hB := below_later hB hb
  clear hb
  have lenhT := hT.len
  go_wp2_with fail
  with_reducible refine (divides03_yes (l := digs (val l * val l2 + val l3)) (l2 := l2) (l3 := digs (val l)) (l4 := []) hS.toNatAt g2 hT.toNatAt hR.toNatAt (by omega) (by omega) HZ.out E5.out E6.out).mono ?_
  rintro e w11 ⟨rfl, hb⟩
  have g1 := g1.past hb
  have g2 := g2.past hb
  have g3 := g3.past hb
  have hP := hP.past hb
  have hR := hR.past hb
  have hS := hS.past hb
  have hT := hT.past hb
  have hB := below_later hB hb
  clear hb
  go_wp2_with fail
  with_reducible refine (add_any _ _ _ (digs (val l * val l2)) _ _ _ (l3) _ hP.toNatAt g3 (by omega) (by omega)).mono ?_
  rintro e w12 ⟨ahS, nhS, chS, rfl, hS, hb⟩
  have g2 := g2.past hb
  have g3 := g3.past hb
  have hP := hP.past hb
  have hB := below_later hB hb
  clear hb
  rw [E4.out] at hS
  have lenhS := hS.len
  go_wp2_with fail
  with_reducible refine (divides_any _ _ _ l2 _ _ _ (digs (val l * val l2 + val l3)) _ g2 hS.toNatAt (by omega) (by omega)).mono ?_
  rintro e w13 ⟨rfl, hb⟩
  have g2 := g2.past hb
  have g3 := g3.past hb
  have hP := hP.past hb
  have hS := hS.past hb
  have hB := below_later hB hb
  clear hb
  rw [E7.out]
  go_wp2
  go_ret
  exact ⟨rfl, hB⟩

set_option maxRecDepth 100000 in
set_option maxHeartbeats 4000000 in
theorem quotWhole_some (a : Option Addr) (n c : Nat) (l : List Nat) (a2 : Option Addr) (n2 c2 : Nat) (l2 : List Nat) (a3 : Option Addr) (n3 c3 : Nat) (l3 : List Nat) (w : World) (g1 : NatAt w a n c l) (g2 : NatAt w a2 n2 c2 l2) (g3 : NatAt w a3 n3 c3 l3) (q0 : n ≤ 16) (q1 : n2 ≤ 16) (q2 : n3 ≤ 16) (hz : val l2 ≠ 0) (hv : val l3 < val l2) (h0 : val l3 ≠ 0) :
    Calls Try.prog 8 #[.slice a n c, .slice a2 n2 c2, .slice a3 n3 c3] w (RetVal w (.bool true)) := by
  have hc1 := Nat.le_trans g1.le g1.cle
  have hc2 := Nat.le_trans g2.le g2.cle
  have hc3 := Nat.le_trans g3.le g3.cle
  have t0 : decide ((16 : Int) < (n : Int)) = false := by simp; omega
  have t1 : decide ((16 : Int) < (n2 : Int)) = false := by simp; omega
  have t2 : decide ((16 : Int) < (n3 : Int)) = false := by simp; omega
  have k1 := g1.short
  have k2 := g2.short
  have k3 := g3.short
  have km := len_mulN (a := val l) (b := val l2) k1 k2
  have ka := len_addN (a := val l * val l2) (b := val l3) (p := 32) (by omega) (by omega)
  have e0 : digs (val (digs (val l * val l2)) / val l2) = digs (val l) := by rw [val_digs, Nat.mul_div_cancel _ (Nat.pos_of_ne_zero hz)]
  have e1 : digs (val (digs (val l * val l2)) % val l2) = [] := by rw [val_digs, Nat.mul_mod_left]; rfl
  have e2 : dvdB (val l2) (val (digs (val l * val l2))) = true := by rw [val_digs]; exact decide_eq_true ⟨val l, Nat.mul_comm _ _⟩
  have e3 : cmpI (val l3) (val l2) = -1 := cmpI_lt hv
  have e4 : digs (val (digs (val l * val l2)) + val l3) = digs (val l * val l2 + val l3) := by rw [val_digs]
  have e5 : digs (val (digs (val l * val l2 + val l3)) / val l2) = digs (val l) := by rw [val_digs, Nat.mul_comm, Nat.mul_add_div (Nat.pos_of_ne_zero hz), Nat.div_eq_of_lt hv, Nat.add_zero]
  have e6 : digs (val (digs (val l * val l2 + val l3)) % val l2) = digs (val l3) := by rw [val_digs, Nat.mul_comm, Nat.mul_add_mod, Nat.mod_eq_of_lt hv]
  have e7 : dvdB (val l2) (val (digs (val l * val l2 + val l3))) = false := by rw [val_digs, dvdB_pos, Nat.mul_comm, Nat.mul_add_mod, Nat.mod_eq_of_lt hv]; exact decide_eq_false h0
  have E0 := Lib.hid e0
  have E1 := Lib.hid e1
  have E2 := Lib.hid e2
  have E3 := Lib.hid e3
  have E4 := Lib.hid e4
  have E5 := Lib.hid e5
  have E6 := Lib.hid e6
  have E7 := Lib.hid e7
  clear e0 e1 e2 e3 e4 e5 e6 e7
  have H0 := Lib.hid h0
  clear h0 hv
  have HZ := Lib.hid hz
  clear hz
  go_enter Try.func8, Try.ntmps8
  have hB := Below.refl w.heap.size w
  go_wp2_with fail
  with_reducible refine (awake03 _).mono ?_
  rintro e w1 ⟨rfl, hb⟩
  have g1 := g1.past hb
  have g2 := g2.past hb
  have g3 := g3.past hb
  have hB := below_later hB hb
  clear hb
  go_wp2_with fail
  with_reducible refine (longNat_any _ _ _ _ _ hc1).mono ?_
  rintro e w' ⟨rfl, rfl⟩
  go_wp2_with fail
  with_reducible refine (longNat_any _ _ _ _ _ hc2).mono ?_
  rintro e w' ⟨rfl, rfl⟩
  go_wp2_with fail
  with_reducible refine (longNat_any _ _ _ _ _ hc3).mono ?_
  rintro e w' ⟨rfl, rfl⟩
  go_wp2_with fail
  with_reducible refine (trim_any _ _ _ l2 _ g2 (by omega)).mono ?_
  rintro e w2 ⟨ahZ, nhZ, chZ, rfl, hZ, hb⟩
  have g1 := g1.past hb
  have g2 := g2.past hb
  have g3 := g3.past hb
  have hB := below_later hB hb
  clear hb
  have tZ := beq_pos (n := nhZ) (by have := hZ.len; have := digsN_pos HZ.out; omega)
  go_wp2_with fail
  with_reducible refine (school_any _ _ _ (l) _ _ _ (l2) _ g1 g2 (by omega) (by omega)).mono ?_
  rintro e w3 ⟨ahP, nhP, chP, rfl, hP, hb⟩
  have g1 := g1.past hb
  have g2 := g2.past hb
  have g3 := g3.past hb
  have hB := below_later hB hb
  clear hb
  have lenhP := hP.len
  go_wp2_with fail
  with_reducible refine (trim_any _ _ _ (l) _ g1 (by omega)).mono ?_
  rintro e w4 ⟨ahT, nhT, chT, rfl, hT, hb⟩
  have g1 := g1.past hb
  have g2 := g2.past hb
  have g3 := g3.past hb
  have hP := hP.past hb
  have hB := below_later hB hb
  clear hb
  have lenhT := hT.len
  go_wp2_with fail
  with_reducible refine (divides03_yes (l := digs (val l * val l2)) (l2 := l2) (l3 := digs (val l)) (l4 := []) hP.toNatAt g2 hT.toNatAt (NatAt.nil _) (by omega) (by omega) HZ.out E0.out E1.out).mono ?_
  rintro e w5 ⟨rfl, hb⟩
  have g1 := g1.past hb
  have g2 := g2.past hb
  have g3 := g3.past hb
  have hP := hP.past hb
  have hT := hT.past hb
  have hB := below_later hB hb
  clear hb
  go_wp2_with fail
  with_reducible refine (divides_any _ _ _ l2 _ _ _ (digs (val l * val l2)) _ g2 hP.toNatAt (by omega) (by omega)).mono ?_
  rintro e w6 ⟨rfl, hb⟩
  have g1 := g1.past hb
  have g2 := g2.past hb
  have g3 := g3.past hb
  have hP := hP.past hb
  have hB := below_later hB hb
  clear hb
  rw [E2.out]
  go_wp2_with fail
  with_reducible refine (cmp_any _ _ _ l3 _ _ _ l2 _ g3 g2).mono ?_
  rintro e w7 ⟨rfl, hb⟩
  have g1 := g1.past hb
  have g2 := g2.past hb
  have g3 := g3.past hb
  have hP := hP.past hb
  have hB := below_later hB hb
  clear hb
  rw [E3.out]
  go_wp2_with fail
  with_reducible refine (trim_any _ _ _ (l3) _ g3 (by omega)).mono ?_
  rintro e w8 ⟨ahR, nhR, chR, rfl, hR, hb⟩
  have g1 := g1.past hb
  have g2 := g2.past hb
  have g3 := g3.past hb
  have hP := hP.past hb
  have hB := below_later hB hb
  clear hb
  have lenhR := hR.len
  have tR := beq_pos (n := nhR) (by have := digsN_pos H0.out; omega)
  go_wp2_with fail
  with_reducible refine (add_any _ _ _ (digs (val l * val l2)) _ _ _ (l3) _ hP.toNatAt g3 (by omega) (by omega)).mono ?_
  rintro e w9 ⟨ahS, nhS, chS, rfl, hS, hb⟩
  have g1 := g1.past hb
  have g2 := g2.past hb
  have g3 := g3.past hb
  have hP := hP.past hb
  have hR := hR.past hb
  have hB := below_later hB hb
  clear hb
  rw [E4.out] at hS
  have lenhS := hS.len
  go_wp2_with fail
  with_reducible refine (trim_any _ _ _ (l) _ g1 (by omega)).mono ?_
  rintro e w10 ⟨ahT, nhT, chT, rfl, hT, hb⟩
  have g1 := g1.past hb
  have g2 := g2.past hb
  have g3 := g3.past hb
  have hP := hP.past hb
  have hR := hR.past hb
  have hS := hS.past hb
  have hB := below_later hB hb
  clear hb
  have lenhT := hT.len
  go_wp2_with fail
  with_reducible refine (divides03_yes (l := digs (val l * val l2 + val l3)) (l2 := l2) (l3 := digs (val l)) (l4 := digs (val l3)) hS.toNatAt g2 hT.toNatAt hR.toNatAt (by omega) (by omega) HZ.out E5.out E6.out).mono ?_
  rintro e w11 ⟨rfl, hb⟩
  have g1 := g1.past hb
  have g2 := g2.past hb
  have g3 := g3.past hb
  have hP := hP.past hb
  have hR := hR.past hb
  have hS := hS.past hb
  have hT := hT.past hb
  have hB := below_later hB hb
  clear hb
  go_wp2_with fail
  with_reducible refine (add_any _ _ _ (digs (val l * val l2)) _ _ _ (l3) _ hP.toNatAt g3 (by omega) (by omega)).mono ?_
  rintro e w12 ⟨ahS, nhS, chS, rfl, hS, hb⟩
  have g2 := g2.past hb
  have g3 := g3.past hb
  have hP := hP.past hb
  have hB := below_later hB hb
  clear hb
  rw [E4.out] at hS
  have lenhS := hS.len
  go_wp2_with fail
  with_reducible refine (divides_any _ _ _ l2 _ _ _ (digs (val l * val l2 + val l3)) _ g2 hS.toNatAt (by omega) (by omega)).mono ?_
  rintro e w13 ⟨rfl, hb⟩
  have g2 := g2.past hb
  have g3 := g3.past hb
  have hP := hP.past hb
  have hS := hS.past hb
  have hB := below_later hB hb
  clear hb
  rw [E7.out]
  go_wp2
  go_ret
  exact ⟨rfl, hB⟩

theorem quotWhole_any (a : Option Addr) (n c : Nat) (l : List Nat) (a2 : Option Addr) (n2 c2 : Nat) (l2 : List Nat) (a3 : Option Addr) (n3 c3 : Nat) (l3 : List Nat) (w : World) (g1 : NatAt w a n c l) (g2 : NatAt w a2 n2 c2 l2) (g3 : NatAt w a3 n3 c3 l3) :
    Calls Try.prog 8 #[.slice a n c, .slice a2 n2 c2, .slice a3 n3 c3] w (RetVal w (.bool true)) := by
  by_cases h1 : 16 < n
  · exact quotWhole_long1 _ _ _ l _ _ _ l2 _ _ _ l3 w g1 g2 g3 h1
  by_cases h2 : 16 < n2
  · exact quotWhole_long2 _ _ _ l _ _ _ l2 _ _ _ l3 w g1 g2 g3 (by omega) h2
  by_cases h3 : 16 < n3
  · exact quotWhole_long3 _ _ _ l _ _ _ l2 _ _ _ l3 w g1 g2 g3 (by omega) (by omega) h3
  by_cases hz : val l2 = 0
  · exact quotWhole_zero _ _ _ l _ _ _ l2 _ _ _ l3 w g1 g2 g3 (by omega) (by omega) (by omega) hz
  by_cases hv : val l3 < val l2
  · by_cases h0 : val l3 = 0
    · exact quotWhole_none _ _ _ l _ _ _ l2 _ _ _ l3 w g1 g2 g3 (by omega) (by omega) (by omega) hz hv h0
    · exact quotWhole_some _ _ _ l _ _ _ l2 _ _ _ l3 w g1 g2 g3 (by omega) (by omega) (by omega) hz hv h0
  · by_cases he : val l3 = val l2
    · exact quotWhole_eq _ _ _ l _ _ _ l2 _ _ _ l3 w g1 g2 g3 (by omega) (by omega) (by omega) hz he
    · exact quotWhole_gt _ _ _ l _ _ _ l2 _ _ _ l3 w g1 g2 g3 (by omega) (by omega) (by omega) hz (by omega)

end Go.Proofs.Ytdjhgalaianifaa
