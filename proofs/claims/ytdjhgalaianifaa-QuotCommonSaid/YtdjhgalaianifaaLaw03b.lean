/- the laws of quot: long, QuotBack. -/
import Derived.Test.YtdjhgalaianifaaNum5
import Derived.Test.YtdjhgalaianifaaLaw03a
set_option linter.unusedVariables false
set_option linter.unusedSimpArgs false
namespace Go.Proofs.Ytdjhgalaianifaa
open Go.RowKit

theorem long03_any (a : Option Addr) (n c : Nat) (a2 : Option Addr) (n2 c2 : Nat) (w : World) (hc : n ≤ 9223372036854775807) (hc2 : n2 ≤ 9223372036854775807) :
    Calls Try.prog 27 #[.slice a n c, .slice a2 n2 c2] w fun e w' => e = .returned (.bool (decide ((24 : Int) < (n : Int)) || decide ((24 : Int) < (n2 : Int)))) ∧ w = w' := by
  go_enter Try.func27, Try.ntmps27
  go_wp2_with fail
  with_reducible refine (longNat_any _ _ _ _ _ hc).mono ?_
  rintro e w' ⟨rfl, rfl⟩
  cases hd : decide ((24 : Int) < (n : Int)) <;> simp at hd
  · go_wp2_with fail
    with_reducible refine (longNat_any _ _ _ _ _ hc2).mono ?_
    rintro e w' ⟨rfl, rfl⟩
    go_wp2
    go_ret
    exact ⟨by simp; omega, rfl⟩
  · go_wp2
    go_ret
    exact ⟨by simp; omega, rfl⟩

set_option maxRecDepth 100000 in
set_option maxHeartbeats 4000000 in
theorem quotBack_long (a : Option Addr) (n c : Nat) (l : List Nat) (a2 : Option Addr) (n2 c2 : Nat) (l2 : List Nat) (x : Nat) (w : World) (g1 : NatAt w a n c l) (g2 : NatAt w a2 n2 c2 l2) (hl : 24 < n ∨ 24 < n2) :
    Calls Try.prog 7 #[.slice a n c, .slice a2 n2 c2, .int .u64 (x : Int)] w (RetVal w (.bool true)) := by
  have hc1 := Nat.le_trans g1.le g1.cle
  have hc2 := Nat.le_trans g2.le g2.cle
  have t0 : (decide ((24 : Int) < (n : Int)) || decide ((24 : Int) < (n2 : Int))) = true := by simp; omega
  have tl := Lib.hid t0
  clear t0
  go_enter Try.func7, Try.ntmps7
  have hB := Below.refl w.heap.size w
  go_wp2_with fail
  with_reducible refine (quotKnown_any _).mono ?_
  rintro e w1 ⟨rfl, hb⟩
  have g1 := g1.past hb
  have g2 := g2.past hb
  have hB := below_later hB hb
  clear hb
  go_wp2_with fail
  with_reducible refine (long03_any _ _ _ _ _ _ _ hc1 hc2).mono ?_
  rintro e w' ⟨rfl, rfl⟩
  rw [tl.out]
  go_wp2
  go_ret
  exact ⟨rfl, hB⟩

set_option maxRecDepth 100000 in
set_option maxHeartbeats 4000000 in
theorem quotBack_zero_none (a : Option Addr) (n c : Nat) (l : List Nat) (a2 : Option Addr) (n2 c2 : Nat) (l2 : List Nat) (x : Nat) (w : World) (g1 : NatAt w a n c l) (g2 : NatAt w a2 n2 c2 l2) (hn : n ≤ 24) (hn2 : n2 ≤ 24) (hz : val l2 = 0) (hx0 : x = 0) :
    Calls Try.prog 7 #[.slice a n c, .slice a2 n2 c2, .int .u64 (x : Int)] w (RetVal w (.bool true)) := by
  have hc1 := Nat.le_trans g1.le g1.cle
  have hc2 := Nat.le_trans g2.le g2.cle
  have t0 : (decide ((24 : Int) < (n : Int)) || decide ((24 : Int) < (n2 : Int))) = false := by simp; omega
  have tl := Lib.hid t0
  clear t0
  have k0 := g1.short
  have k2 := g2.short
  have ez : digs (val l2) = [] := by rw [hz]; rfl
  have HZ := Lib.hid hz
  have EZ := Lib.hid ez
  clear hz ez
  subst hx0
  go_enter Try.func7, Try.ntmps7
  have hB := Below.refl w.heap.size w
  go_wp2_with fail
  with_reducible refine (quotKnown_any _).mono ?_
  rintro e w1 ⟨rfl, hb⟩
  have g1 := g1.past hb
  have g2 := g2.past hb
  have hB := below_later hB hb
  clear hb
  go_wp2_with fail
  with_reducible refine (long03_any _ _ _ _ _ _ _ hc1 hc2).mono ?_
  rintro e w' ⟨rfl, rfl⟩
  rw [tl.out]
  go_wp2_with fail
  with_reducible refine (div_zero _ _ _ l _ _ _ l2 _ g1 g2 (by omega) (by omega) HZ.out).mono ?_
  rintro e w2 ⟨rfl, hb⟩
  have g1 := g1.past hb
  have g2 := g2.past hb
  have hB := below_later hB hb
  clear hb
  go_wp2_with fail
  with_reducible refine (trim_any _ _ _ l2 _ g2 (by omega)).mono ?_
  rintro e w3 ⟨ahB2, nhB2, chB2, rfl, hB2, hb⟩
  have g1 := g1.past hb
  have g2 := g2.past hb
  have hB := below_later hB hb
  clear hb
  rw [EZ.out] at hB2
  obtain rfl : nhB2 = 0 := hB2.len.symm
  go_wp2_with fail
  with_reducible refine (part_zero _ _ _ _).mono ?_
  rintro e w4 ⟨rfl, hb⟩
  have g1 := g1.past hb
  have hB := below_later hB hb
  clear hb
  go_wp2
  go_ret
  exact ⟨rfl, hB⟩

set_option maxRecDepth 100000 in
set_option maxHeartbeats 4000000 in
theorem quotBack_yes_none (a : Option Addr) (n c : Nat) (l : List Nat) (a2 : Option Addr) (n2 c2 : Nat) (l2 : List Nat) (x : Nat) (w : World) (g1 : NatAt w a n c l) (g2 : NatAt w a2 n2 c2 l2) (hn : n ≤ 24) (hn2 : n2 ≤ 24) (hz : val l2 ≠ 0) (hx0 : x = 0) :
    Calls Try.prog 7 #[.slice a n c, .slice a2 n2 c2, .int .u64 (x : Int)] w (RetVal w (.bool true)) := by
  have hc1 := Nat.le_trans g1.le g1.cle
  have hc2 := Nat.le_trans g2.le g2.cle
  have t0 : (decide ((24 : Int) < (n : Int)) || decide ((24 : Int) < (n2 : Int))) = false := by simp; omega
  have tl := Lib.hid t0
  clear t0
  have k0 := g1.short
  have k2 := g2.short
  have kQ := len_divN (b := val l2) k0
  have kR := len_modN (b := val l2) k0
  have kM2 := len_mulN kQ k2
  have e0 : cmpI (val (digs (val l % val l2))) (val l2) = -1 := by rw [val_digs]; exact cmpI_lt (Nat.mod_lt _ (Nat.pos_of_ne_zero hz))
  have e1 : digs (val (digs (val l / val l2)) * val l2) = digs (val l / val l2 * val l2) := by rw [val_digs]
  have e2 : digs (val (digs (val l / val l2 * val l2)) + val (digs (val l % val l2))) = digs (val l) := by rw [val_digs, val_digs, Nat.div_add_mod']
  have E0 := Lib.hid e0
  have E1 := Lib.hid e1
  have E2 := Lib.hid e2
  clear e0 e1 e2
  have HZ := Lib.hid hz
  clear hz
  subst hx0
  go_enter Try.func7, Try.ntmps7
  have hB := Below.refl w.heap.size w
  go_wp2_with fail
  with_reducible refine (quotKnown_any _).mono ?_
  rintro e w1 ⟨rfl, hb⟩
  have g1 := g1.past hb
  have g2 := g2.past hb
  have hB := below_later hB hb
  clear hb
  go_wp2_with fail
  with_reducible refine (long03_any _ _ _ _ _ _ _ hc1 hc2).mono ?_
  rintro e w' ⟨rfl, rfl⟩
  rw [tl.out]
  go_wp2_with fail
  with_reducible refine (div_yes _ _ _ l _ _ _ l2 _ g1 g2 (by omega) (by omega) HZ.out).mono ?_
  rintro e w2 ⟨ahQ, nhQ, chQ, ahR, nhR, chR, rfl, hQ, hR, hb⟩
  have g1 := g1.past hb
  have g2 := g2.past hb
  have hB := below_later hB hb
  clear hb
  have lenhQ := hQ.len
  have lenhR := hR.len
  go_wp2_with fail
  with_reducible refine (trim_any _ _ _ l2 _ g2 (by omega)).mono ?_
  rintro e w3 ⟨ahB2, nhB2, chB2, rfl, hB2, hb⟩
  have g1 := g1.past hb
  have g2 := g2.past hb
  have hQ := hQ.past hb
  have hR := hR.past hb
  have hB := below_later hB hb
  clear hb
  have tB := beq_pos (n := nhB2) (by have := hB2.len; have := digsN_pos HZ.out; omega)
  go_wp2_with fail
  with_reducible refine (cmp_any _ _ _ (digs (val l % val l2)) _ _ _ l2 _ hR.toNatAt g2).mono ?_
  rintro e w4 ⟨rfl, hb⟩
  have g1 := g1.past hb
  have g2 := g2.past hb
  have hQ := hQ.past hb
  have hR := hR.past hb
  have hB := below_later hB hb
  clear hb
  rw [E0.out]
  go_wp2_with fail
  with_reducible refine (school_any _ _ _ (digs (val l / val l2)) _ _ _ (l2) _ hQ.toNatAt g2 (by omega) (by omega)).mono ?_
  rintro e w5 ⟨ahM, nhM, chM, rfl, hM, hb⟩
  have g1 := g1.past hb
  have g2 := g2.past hb
  have hQ := hQ.past hb
  have hR := hR.past hb
  have hB := below_later hB hb
  clear hb
  rw [E1.out] at hM
  have lenhM := hM.len
  go_wp2_with fail
  with_reducible refine (add_any _ _ _ (digs (val l / val l2 * val l2)) _ _ _ (digs (val l % val l2)) _ hM.toNatAt hR.toNatAt (by omega) (by omega)).mono ?_
  rintro e w6 ⟨ahS, nhS, chS, rfl, hS, hb⟩
  have g1 := g1.past hb
  have g2 := g2.past hb
  have hQ := hQ.past hb
  have hR := hR.past hb
  have hM := hM.past hb
  have hB := below_later hB hb
  clear hb
  rw [E2.out] at hS
  have lenhS := hS.len
  go_wp2_with fail
  with_reducible refine (trim_any _ _ _ l _ g1 (by omega)).mono ?_
  rintro e w7 ⟨ahT, nhT, chT, rfl, hT, hb⟩
  have g1 := g1.past hb
  have g2 := g2.past hb
  have hQ := hQ.past hb
  have hR := hR.past hb
  have hM := hM.past hb
  have hS := hS.past hb
  have hB := below_later hB hb
  clear hb
  go_wp2_with fail
  with_reducible refine (sameNat_yes hS.toNatAt hT.toNatAt).mono ?_
  rintro e w8 ⟨rfl, hb⟩
  have g1 := g1.past hb
  have hS := hS.past hb
  have hT := hT.past hb
  have hB := below_later hB hb
  clear hb
  go_wp2_with fail
  with_reducible refine (part_zero _ _ _ _).mono ?_
  rintro e w9 ⟨rfl, hb⟩
  have g1 := g1.past hb
  have hB := below_later hB hb
  clear hb
  go_wp2
  go_ret
  exact ⟨rfl, hB⟩

set_option maxRecDepth 100000 in
set_option maxHeartbeats 4000000 in
theorem quotBack_zero_some (a : Option Addr) (n c : Nat) (l : List Nat) (a2 : Option Addr) (n2 c2 : Nat) (l2 : List Nat) (x : Nat) (w : World) (g1 : NatAt w a n c l) (g2 : NatAt w a2 n2 c2 l2) (hn : n ≤ 24) (hn2 : n2 ≤ 24) (hz : val l2 = 0) (hx0 : 0 < x) (hx : x < 18446744073709551616) :
    Calls Try.prog 7 #[.slice a n c, .slice a2 n2 c2, .int .u64 (x : Int)] w (RetVal w (.bool true)) := by
  have hc1 := Nat.le_trans g1.le g1.cle
  have hc2 := Nat.le_trans g2.le g2.cle
  have t0 : (decide ((24 : Int) < (n : Int)) || decide ((24 : Int) < (n2 : Int))) = false := by simp; omega
  have tl := Lib.hid t0
  clear t0
  have k0 := g1.short
  have k2 := g2.short
  have ez : digs (val l2) = [] := by rw [hz]; rfl
  have HZ := Lib.hid hz
  have EZ := Lib.hid ez
  clear hz ez
  obtain ⟨R, hRR⟩ : ∃ R, val l % x = R := ⟨_, rfl⟩
  have tx : ((x : Int) == 0) = false := beq_pos (by omega)
  have ty : decide (R < x) = true := decide_eq_true (by rw [← hRR]; exact Nat.mod_lt _ hx0)
  have kP := len_divN (b := x) k0
  have kM := len_mulN (a := val l / x) (b := x) (q := 1) kP (digs_length_le.2 (by rw [Nat.pow_one]; exact hx))
  have kN := len_modN (b := x) k0
  rw [hRR] at kN
  have kO : (digs x).length ≤ 1 := digs_length_le.2 (by rw [Nat.pow_one]; exact hx)
  have hR : R < 18446744073709551616 := by rw [← hRR]; exact Nat.lt_trans (Nat.mod_lt _ hx0) hx
  have HX := Lib.hid hx
  have HX0 := Lib.hid hx0
  have HR := Lib.hid hR
  have HRR := Lib.hid hRR
  have e10 : digs (val (digs (val l / x)) * val (digs x)) = digs (val l / x * x) := by rw [val_digs, val_digs]
  have e11 : digs (val (digs (val l / x * x)) + val (digs R)) = digs (val l) := by rw [val_digs, val_digs, ← hRR, Nat.div_add_mod']
  have E10 := Lib.hid e10
  have E11 := Lib.hid e11
  clear e10 e11
  clear hx hR hRR
  go_enter Try.func7, Try.ntmps7
  have hB := Below.refl w.heap.size w
  go_wp2_with fail
  with_reducible refine (quotKnown_any _).mono ?_
  rintro e w1 ⟨rfl, hb⟩
  have g1 := g1.past hb
  have g2 := g2.past hb
  have hB := below_later hB hb
  clear hb
  go_wp2_with fail
  with_reducible refine (long03_any _ _ _ _ _ _ _ hc1 hc2).mono ?_
  rintro e w' ⟨rfl, rfl⟩
  rw [tl.out]
  go_wp2_with fail
  with_reducible refine (div_zero _ _ _ l _ _ _ l2 _ g1 g2 (by omega) (by omega) HZ.out).mono ?_
  rintro e w2 ⟨rfl, hb⟩
  have g1 := g1.past hb
  have g2 := g2.past hb
  have hB := below_later hB hb
  clear hb
  go_wp2_with fail
  with_reducible refine (trim_any _ _ _ l2 _ g2 (by omega)).mono ?_
  rintro e w3 ⟨ahB2, nhB2, chB2, rfl, hB2, hb⟩
  have g1 := g1.past hb
  have g2 := g2.past hb
  have hB := below_later hB hb
  clear hb
  rw [EZ.out] at hB2
  obtain rfl : nhB2 = 0 := hB2.len.symm
  go_wp2_with fail
  with_reducible refine (part_yes _ _ _ l x _ g1 (by omega) HX0.out HX.out).mono ?_
  rintro e w4 ⟨ahP, nhP, chP, rfl, hP, hb⟩
  have g1 := g1.past hb
  have hB := below_later hB hb
  clear hb
  rw [HRR.out]
  have lenhP := hP.len
  go_wp2_with fail
  with_reducible refine (of_any x _ HX.out).mono ?_
  rintro e w5 ⟨ahO, nhO, chO, rfl, hO, hb⟩
  have g1 := g1.past hb
  have hP := hP.past hb
  have hB := below_later hB hb
  clear hb
  have lenhO := hO.len
  go_wp2_with fail
  with_reducible refine (school_any _ _ _ (digs (val l / x)) _ _ _ (digs x) _ hP.toNatAt hO.toNatAt (by omega) (by omega)).mono ?_
  rintro e w6 ⟨ahU, nhU, chU, rfl, hU, hb⟩
  have g1 := g1.past hb
  have hP := hP.past hb
  have hO := hO.past hb
  have hB := below_later hB hb
  clear hb
  rw [E10.out] at hU
  have lenhU := hU.len
  go_wp2_with fail
  with_reducible refine (of_any R _ HR.out).mono ?_
  rintro e w7 ⟨ahN, nhN, chN, rfl, hN, hb⟩
  have g1 := g1.past hb
  have hP := hP.past hb
  have hO := hO.past hb
  have hU := hU.past hb
  have hB := below_later hB hb
  clear hb
  have lenhN := hN.len
  go_wp2_with fail
  with_reducible refine (add_any _ _ _ (digs (val l / x * x)) _ _ _ (digs R) _ hU.toNatAt hN.toNatAt (by omega) (by omega)).mono ?_
  rintro e w8 ⟨ahV, nhV, chV, rfl, hV, hb⟩
  have g1 := g1.past hb
  have hP := hP.past hb
  have hO := hO.past hb
  have hU := hU.past hb
  have hN := hN.past hb
  have hB := below_later hB hb
  clear hb
  rw [E11.out] at hV
  have lenhV := hV.len
  go_wp2_with fail
  with_reducible refine (trim_any _ _ _ l _ g1 (by omega)).mono ?_
  rintro e w9 ⟨ahT, nhT, chT, rfl, hT, hb⟩
  have g1 := g1.past hb
  have hP := hP.past hb
  have hO := hO.past hb
  have hU := hU.past hb
  have hN := hN.past hb
  have hV := hV.past hb
  have hB := below_later hB hb
  clear hb
  go_wp2_with fail
  with_reducible refine (sameNat_yes hV.toNatAt hT.toNatAt).mono ?_
  rintro e w10 ⟨rfl, hb⟩
  have g1 := g1.past hb
  have hP := hP.past hb
  have hO := hO.past hb
  have hU := hU.past hb
  have hN := hN.past hb
  have hV := hV.past hb
  have hT := hT.past hb
  have hB := below_later hB hb
  clear hb
  go_wp2
  go_ret
  exact ⟨rfl, hB⟩

set_option maxRecDepth 100000 in
set_option maxHeartbeats 4000000 in
theorem quotBack_yes_some (a : Option Addr) (n c : Nat) (l : List Nat) (a2 : Option Addr) (n2 c2 : Nat) (l2 : List Nat) (x : Nat) (w : World) (g1 : NatAt w a n c l) (g2 : NatAt w a2 n2 c2 l2) (hn : n ≤ 24) (hn2 : n2 ≤ 24) (hz : val l2 ≠ 0) (hx0 : 0 < x) (hx : x < 18446744073709551616) :
    Calls Try.prog 7 #[.slice a n c, .slice a2 n2 c2, .int .u64 (x : Int)] w (RetVal w (.bool true)) := by
  have hc1 := Nat.le_trans g1.le g1.cle
  have hc2 := Nat.le_trans g2.le g2.cle
  have t0 : (decide ((24 : Int) < (n : Int)) || decide ((24 : Int) < (n2 : Int))) = false := by simp; omega
  have tl := Lib.hid t0
  clear t0
  have k0 := g1.short
  have k2 := g2.short
  have kQ := len_divN (b := val l2) k0
  have kR := len_modN (b := val l2) k0
  have kM2 := len_mulN kQ k2
  have e0 : cmpI (val (digs (val l % val l2))) (val l2) = -1 := by rw [val_digs]; exact cmpI_lt (Nat.mod_lt _ (Nat.pos_of_ne_zero hz))
  have e1 : digs (val (digs (val l / val l2)) * val l2) = digs (val l / val l2 * val l2) := by rw [val_digs]
  have e2 : digs (val (digs (val l / val l2 * val l2)) + val (digs (val l % val l2))) = digs (val l) := by rw [val_digs, val_digs, Nat.div_add_mod']
  have E0 := Lib.hid e0
  have E1 := Lib.hid e1
  have E2 := Lib.hid e2
  clear e0 e1 e2
  have HZ := Lib.hid hz
  clear hz
  obtain ⟨R, hRR⟩ : ∃ R, val l % x = R := ⟨_, rfl⟩
  have tx : ((x : Int) == 0) = false := beq_pos (by omega)
  have ty : decide (R < x) = true := decide_eq_true (by rw [← hRR]; exact Nat.mod_lt _ hx0)
  have kP := len_divN (b := x) k0
  have kM := len_mulN (a := val l / x) (b := x) (q := 1) kP (digs_length_le.2 (by rw [Nat.pow_one]; exact hx))
  have kN := len_modN (b := x) k0
  rw [hRR] at kN
  have kO : (digs x).length ≤ 1 := digs_length_le.2 (by rw [Nat.pow_one]; exact hx)
  have hR : R < 18446744073709551616 := by rw [← hRR]; exact Nat.lt_trans (Nat.mod_lt _ hx0) hx
  have HX := Lib.hid hx
  have HX0 := Lib.hid hx0
  have HR := Lib.hid hR
  have HRR := Lib.hid hRR
  have e10 : digs (val (digs (val l / x)) * val (digs x)) = digs (val l / x * x) := by rw [val_digs, val_digs]
  have e11 : digs (val (digs (val l / x * x)) + val (digs R)) = digs (val l) := by rw [val_digs, val_digs, ← hRR, Nat.div_add_mod']
  have E10 := Lib.hid e10
  have E11 := Lib.hid e11
  clear e10 e11
  clear hx hR hRR
  go_enter Try.func7, Try.ntmps7
  have hB := Below.refl w.heap.size w
  go_wp2_with fail
  with_reducible refine (quotKnown_any _).mono ?_
  rintro e w1 ⟨rfl, hb⟩
  have g1 := g1.past hb
  have g2 := g2.past hb
  have hB := below_later hB hb
  clear hb
  go_wp2_with fail
  with_reducible refine (long03_any _ _ _ _ _ _ _ hc1 hc2).mono ?_
  rintro e w' ⟨rfl, rfl⟩
  rw [tl.out]
  go_wp2_with fail
  with_reducible refine (div_yes _ _ _ l _ _ _ l2 _ g1 g2 (by omega) (by omega) HZ.out).mono ?_
  rintro e w2 ⟨ahQ, nhQ, chQ, ahR, nhR, chR, rfl, hQ, hR, hb⟩
  have g1 := g1.past hb
  have g2 := g2.past hb
  have hB := below_later hB hb
  clear hb
  have lenhQ := hQ.len
  have lenhR := hR.len
  go_wp2_with fail
  with_reducible refine (trim_any _ _ _ l2 _ g2 (by omega)).mono ?_
  rintro e w3 ⟨ahB2, nhB2, chB2, rfl, hB2, hb⟩
  have g1 := g1.past hb
  have g2 := g2.past hb
  have hQ := hQ.past hb
  have hR := hR.past hb
  have hB := below_later hB hb
  clear hb
  have tB := beq_pos (n := nhB2) (by have := hB2.len; have := digsN_pos HZ.out; omega)
  go_wp2_with fail
  with_reducible refine (cmp_any _ _ _ (digs (val l % val l2)) _ _ _ l2 _ hR.toNatAt g2).mono ?_
  rintro e w4 ⟨rfl, hb⟩
  have g1 := g1.past hb
  have g2 := g2.past hb
  have hQ := hQ.past hb
  have hR := hR.past hb
  have hB := below_later hB hb
  clear hb
  rw [E0.out]
  go_wp2_with fail
  with_reducible refine (school_any _ _ _ (digs (val l / val l2)) _ _ _ (l2) _ hQ.toNatAt g2 (by omega) (by omega)).mono ?_
  rintro e w5 ⟨ahM, nhM, chM, rfl, hM, hb⟩
  have g1 := g1.past hb
  have g2 := g2.past hb
  have hQ := hQ.past hb
  have hR := hR.past hb
  have hB := below_later hB hb
  clear hb
  rw [E1.out] at hM
  have lenhM := hM.len
  go_wp2_with fail
  with_reducible refine (add_any _ _ _ (digs (val l / val l2 * val l2)) _ _ _ (digs (val l % val l2)) _ hM.toNatAt hR.toNatAt (by omega) (by omega)).mono ?_
  rintro e w6 ⟨ahS, nhS, chS, rfl, hS, hb⟩
  have g1 := g1.past hb
  have g2 := g2.past hb
  have hQ := hQ.past hb
  have hR := hR.past hb
  have hM := hM.past hb
  have hB := below_later hB hb
  clear hb
  rw [E2.out] at hS
  have lenhS := hS.len
  go_wp2_with fail
  with_reducible refine (trim_any _ _ _ l _ g1 (by omega)).mono ?_
  rintro e w7 ⟨ahT, nhT, chT, rfl, hT, hb⟩
  have g1 := g1.past hb
  have g2 := g2.past hb
  have hQ := hQ.past hb
  have hR := hR.past hb
  have hM := hM.past hb
  have hS := hS.past hb
  have hB := below_later hB hb
  clear hb
  go_wp2_with fail
  with_reducible refine (sameNat_yes hS.toNatAt hT.toNatAt).mono ?_
  rintro e w8 ⟨rfl, hb⟩
  have g1 := g1.past hb
  have hS := hS.past hb
  have hT := hT.past hb
  have hB := below_later hB hb
  clear hb
  go_wp2_with fail
  with_reducible refine (part_yes _ _ _ l x _ g1 (by omega) HX0.out HX.out).mono ?_
  rintro e w9 ⟨ahP, nhP, chP, rfl, hP, hb⟩
  have g1 := g1.past hb
  have hB := below_later hB hb
  clear hb
  rw [HRR.out]
  have lenhP := hP.len
  go_wp2_with fail
  with_reducible refine (of_any x _ HX.out).mono ?_
  rintro e w10 ⟨ahO, nhO, chO, rfl, hO, hb⟩
  have g1 := g1.past hb
  have hP := hP.past hb
  have hB := below_later hB hb
  clear hb
  have lenhO := hO.len
  go_wp2_with fail
  with_reducible refine (school_any _ _ _ (digs (val l / x)) _ _ _ (digs x) _ hP.toNatAt hO.toNatAt (by omega) (by omega)).mono ?_
  rintro e w11 ⟨ahU, nhU, chU, rfl, hU, hb⟩
  have g1 := g1.past hb
  have hP := hP.past hb
  have hO := hO.past hb
  have hB := below_later hB hb
  clear hb
  rw [E10.out] at hU
  have lenhU := hU.len
  go_wp2_with fail
  with_reducible refine (of_any R _ HR.out).mono ?_
  rintro e w12 ⟨ahN, nhN, chN, rfl, hN, hb⟩
  have g1 := g1.past hb
  have hP := hP.past hb
  have hO := hO.past hb
  have hU := hU.past hb
  have hB := below_later hB hb
  clear hb
  have lenhN := hN.len
  go_wp2_with fail
  with_reducible refine (add_any _ _ _ (digs (val l / x * x)) _ _ _ (digs R) _ hU.toNatAt hN.toNatAt (by omega) (by omega)).mono ?_
  rintro e w13 ⟨ahV, nhV, chV, rfl, hV, hb⟩
  have g1 := g1.past hb
  have hP := hP.past hb
  have hO := hO.past hb
  have hU := hU.past hb
  have hN := hN.past hb
  have hB := below_later hB hb
  clear hb
  rw [E11.out] at hV
  have lenhV := hV.len
  go_wp2_with fail
  with_reducible refine (trim_any _ _ _ l _ g1 (by omega)).mono ?_
  rintro e w14 ⟨ahT, nhT, chT, rfl, hT, hb⟩
  have g1 := g1.past hb
  have hP := hP.past hb
  have hO := hO.past hb
  have hU := hU.past hb
  have hN := hN.past hb
  have hV := hV.past hb
  have hB := below_later hB hb
  clear hb
  go_wp2_with fail
  with_reducible refine (sameNat_yes hV.toNatAt hT.toNatAt).mono ?_
  rintro e w15 ⟨rfl, hb⟩
  have g1 := g1.past hb
  have hP := hP.past hb
  have hO := hO.past hb
  have hU := hU.past hb
  have hN := hN.past hb
  have hV := hV.past hb
  have hT := hT.past hb
  have hB := below_later hB hb
  clear hb
  go_wp2
  go_ret
  exact ⟨rfl, hB⟩

theorem quotBack_any (a : Option Addr) (n c : Nat) (l : List Nat) (a2 : Option Addr) (n2 c2 : Nat) (l2 : List Nat) (x : Int) (w : World) (g1 : NatAt w a n c l) (g2 : NatAt w a2 n2 c2 l2) (hx : 0 ≤ x) (hx2 : x < 18446744073709551616) :
    Calls Try.prog 7 #[.slice a n c, .slice a2 n2 c2, .int .u64 x] w (RetVal w (.bool true)) := by
  obtain ⟨x, rfl⟩ := Int.eq_ofNat_of_zero_le hx
  have hx : x < 18446744073709551616 := by omega
  by_cases hl : 24 < n ∨ 24 < n2
  · exact quotBack_long _ _ _ l _ _ _ l2 x w g1 g2 hl
  · by_cases hz : val l2 = 0 <;> by_cases hx0 : x = 0
    · exact quotBack_zero_none _ _ _ l _ _ _ l2 x w g1 g2 (by omega) (by omega) hz hx0
    · exact quotBack_zero_some _ _ _ l _ _ _ l2 x w g1 g2 (by omega) (by omega) hz (by omega) hx
    · exact quotBack_yes_none _ _ _ l _ _ _ l2 x w g1 g2 (by omega) (by omega) hz hx0
    · exact quotBack_yes_some _ _ _ l _ _ _ l2 x w g1 g2 (by omega) (by omega) hz (by omega) hx

end Go.Proofs.Ytdjhgalaianifaa
