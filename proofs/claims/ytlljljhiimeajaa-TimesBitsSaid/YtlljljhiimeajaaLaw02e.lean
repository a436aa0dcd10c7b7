/- the laws of times: TimesRing. -/
import Derived.Test.YtlljljhiimeajaaLaw02d
set_option linter.unusedVariables false
set_option linter.unusedSimpArgs false
namespace Go.Proofs.Ytlljljhiimeajaa
open Go.RowKit

theorem len_mul {a b p q : Nat} (h1 : (digs a).length ≤ p) (h2 : (digs b).length ≤ q) : (digs (a * b)).length ≤ p + q := by have := digs_len_prod a b; omega
theorem len_add {a b p : Nat} (h1 : (digs a).length ≤ p) (h2 : (digs b).length ≤ p) : (digs (a + b)).length ≤ p + 1 := by have := digs_len_add a b; omega

set_option maxRecDepth 100000 in
set_option maxHeartbeats 8000000 in
theorem timesRing_any (a : Option Addr) (n c : Nat) (l : List Nat) (a2 : Option Addr) (n2 c2 : Nat) (l2 : List Nat) (a3 : Option Addr) (n3 c3 : Nat) (l3 : List Nat) (w : World) (g1 : NatAt w a n c l) (g2 : NatAt w a2 n2 c2 l2) (g3 : NatAt w a3 n3 c3 l3) (least : Int) (b1 : -9223372036854775808 ≤ least) (b2 : least ≤ 9223372036854775807) :
    Calls Try.prog 7 #[.slice a n c, .slice a2 n2 c2, .slice a3 n3 c3, .int .i64 least] w (RetVal w (.bool true)) := by
  have hc1 := Nat.le_trans g1.le g1.cle
  have hc2 := Nat.le_trans g2.le g2.cle
  have hc3 := Nat.le_trans g3.le g3.cle
  by_cases hl0 : 12 < n
  · have t0 : decide ((12 : Int) < (n : Int)) = true := by simp; omega
    go_enter Try.func7, Try.ntmps7
    have hB := Below.refl w.heap.size w
    go_wp2_with fail
    with_reducible refine (timesKnown_any _).mono ?_
    rintro e w1 ⟨rfl, hb⟩
    have hB := below_later hB hb
    clear hb
    go_wp2_with fail
    with_reducible refine (longNat_any _ _ _ _ _ hc1).mono ?_
    rintro e w' ⟨rfl, rfl⟩
    go_wp2
    go_ret
    exact ⟨rfl, hB⟩
  have t0 : decide ((12 : Int) < (n : Int)) = false := by simp; omega
  by_cases hl1 : 12 < n2
  · have t1 : decide ((12 : Int) < (n2 : Int)) = true := by simp; omega
    go_enter Try.func7, Try.ntmps7
    have hB := Below.refl w.heap.size w
    go_wp2_with fail
    with_reducible refine (timesKnown_any _).mono ?_
    rintro e w1 ⟨rfl, hb⟩
    have hB := below_later hB hb
    clear hb
    go_wp2_with fail
    with_reducible refine (longNat_any _ _ _ _ _ hc1).mono ?_
    rintro e w' ⟨rfl, rfl⟩
    go_wp2_with fail
    with_reducible refine (longNat_any _ _ _ _ _ hc2).mono ?_
    rintro e w' ⟨rfl, rfl⟩
    go_wp2
    go_ret
    exact ⟨rfl, hB⟩
  have t1 : decide ((12 : Int) < (n2 : Int)) = false := by simp; omega
  by_cases hl2 : 12 < n3
  · have t2 : decide ((12 : Int) < (n3 : Int)) = true := by simp; omega
    go_enter Try.func7, Try.ntmps7
    have hB := Below.refl w.heap.size w
    go_wp2_with fail
    with_reducible refine (timesKnown_any _).mono ?_
    rintro e w1 ⟨rfl, hb⟩
    have hB := below_later hB hb
    clear hb
    go_wp2_with fail
    with_reducible refine (longNat_any _ _ _ _ _ hc1).mono ?_
    rintro e w' ⟨rfl, rfl⟩
    go_wp2_with fail
    with_reducible refine (longNat_any _ _ _ _ _ hc2).mono ?_
    rintro e w' ⟨rfl, rfl⟩
    go_wp2_with fail
    with_reducible refine (longNat_any _ _ _ _ _ hc3).mono ?_
    rintro e w' ⟨rfl, rfl⟩
    go_wp2
    go_ret
    exact ⟨rfl, hB⟩
  have t2 : decide ((12 : Int) < (n3 : Int)) = false := by simp; omega
  obtain ⟨p, hp, hp2⟩ := pickN least 8 (by decide)
  have HP := Lib.hid hp
  clear hp
  have s1 := g1.short
  have s2 := g2.short
  have s3 := g3.short
  have k1 := len_mul (a := val l) (b := val l2) (p := 12) (q := 12) (by omega) (by omega)
  have k2 := len_mul (a := val l2) (b := val l3) (p := 12) (q := 12) (by omega) (by omega)
  have k3 := len_add (a := val l2) (b := val l3) (p := 12) (by omega) (by omega)
  have k4 := len_mul (a := val l) (b := val l3) (p := 12) (q := 12) (by omega) (by omega)
  have e0 : digs (val l2 * val l) = digs (val l * val l2) := by rw [Nat.mul_comm]
  have e1 : digs (val (digs (val l * val l2)) * val l3) = digs (val l * val l2 * val l3) := by rw [val_digs]
  have e2 : digs (val l * val (digs (val l2 * val l3))) = digs (val l * val l2 * val l3) := by rw [val_digs, Nat.mul_assoc]
  have e3 : digs (val l * val (digs (val l2 + val l3))) = digs (val l * val l2 + val l * val l3) := by rw [val_digs, Nat.mul_add]
  have e4 : digs (val (digs (val l * val l2)) + val (digs (val l * val l3))) = digs (val l * val l2 + val l * val l3) := by rw [val_digs, val_digs]
  have e5 : digs (val l * val [1]) = digs (val l) := by rw [show val [1] = 1 from rfl, Nat.mul_one]
  have e6 : digs (val [1] * val l) = digs (val l) := by rw [show val [1] = 1 from rfl, Nat.one_mul]
  have e7 : digs (val l * 2) = digs (val l + val l) := by rw [Nat.mul_two]
  have e8 : (2 : Int) + (p : Int) = ((2 + p : Nat) : Int) := by omega
  have E0 := Lib.hid e0
  have E1 := Lib.hid e1
  have E2 := Lib.hid e2
  have E3 := Lib.hid e3
  have E4 := Lib.hid e4
  have E5 := Lib.hid e5
  have E6 := Lib.hid e6
  have E7 := Lib.hid e7
  have E8 := Lib.hid e8
  clear e0 e1 e2 e3 e4 e5 e6 e7 e8
  go_enter Try.func7, Try.ntmps7
  have hB := Below.refl w.heap.size w
  go_wp2_with fail
  with_reducible refine (timesKnown_any _).mono ?_
  rintro e w1 ⟨rfl, hb⟩
  have g1 := (g1).past hb
  have g2 := (g2).past hb
  have g3 := (g3).past hb
  have hB := below_later hB hb
  clear hb
  go_wp2_with fail
  with_reducible refine (longNat_any _ _ _ _ _ hc1).mono ?_
  rintro e w' ⟨rfl, rfl⟩
  go_wp2_with fail
  with_reducible refine (longNat_any _ _ _ _ _ hc2).mono ?_
  rintro e w' ⟨rfl, rfl⟩
  go_wp2_with fail
  with_reducible refine (longNat_any _ _ _ _ _ hc3).mono ?_
  rintro e w' ⟨rfl, rfl⟩
  go_wp2_with fail
  with_reducible refine (pick_any _ _ _ b1 b2 (by decide)).mono ?_
  rintro e w' ⟨rfl, rfl⟩
  rw [HP.out]
  go_wp2_with fail
  with_reducible refine (tmul_any _ _ _ l _ _ _ l2 _ g1 g2 (by omega) (by omega)).mono ?_
  rintro e w2 ⟨ahAB, nhAB, chAB, rfl, hAB, hb⟩
  have g1 := (g1).past hb
  have g2 := (g2).past hb
  have g3 := (g3).past hb
  have hB := below_later hB hb
  clear hb
  have lenhAB := hAB.len
  go_wp2_with fail
  with_reducible refine (tmul_any _ _ _ l2 _ _ _ l _ g2 g1 (by omega) (by omega)).mono ?_
  rintro e w3 ⟨ahBA, nhBA, chBA, rfl, hBA, hb⟩
  have g1 := (g1).past hb
  have g2 := (g2).past hb
  have g3 := (g3).past hb
  have hAB := (hAB).later hb (Nat.le_refl _)
  have hB := below_later hB hb
  clear hb
  rw [E0.out] at hBA
  have lenhBA := hBA.len
  go_wp2_with fail
  with_reducible refine (tmul_any _ _ _ (digs (val l * val l2)) _ _ _ l3 _ hAB.toNatAt g3 (by omega) (by omega)).mono ?_
  rintro e w4 ⟨ahL, nhL, chL, rfl, hL, hb⟩
  have g1 := (g1).past hb
  have g2 := (g2).past hb
  have g3 := (g3).past hb
  have hAB := (hAB).later hb (Nat.le_refl _)
  have hBA := (hBA).later hb (Nat.le_refl _)
  have hB := below_later hB hb
  clear hb
  rw [E1.out] at hL
  have lenhL := hL.len
  go_wp2_with fail
  with_reducible refine (tmul_any _ _ _ l2 _ _ _ l3 _ g2 g3 (by omega) (by omega)).mono ?_
  rintro e w5 ⟨ahBC, nhBC, chBC, rfl, hBC, hb⟩
  have g1 := (g1).past hb
  have g2 := (g2).past hb
  have g3 := (g3).past hb
  have hAB := (hAB).later hb (Nat.le_refl _)
  have hBA := (hBA).later hb (Nat.le_refl _)
  have hL := (hL).later hb (Nat.le_refl _)
  have hB := below_later hB hb
  clear hb
  have lenhBC := hBC.len
  go_wp2_with fail
  with_reducible refine (tmul_any _ _ _ l _ _ _ (digs (val l2 * val l3)) _ g1 hBC.toNatAt (by omega) (by omega)).mono ?_
  rintro e w6 ⟨ahR, nhR, chR, rfl, hR, hb⟩
  have g1 := (g1).past hb
  have g2 := (g2).past hb
  have g3 := (g3).past hb
  have hAB := (hAB).later hb (Nat.le_refl _)
  have hBA := (hBA).later hb (Nat.le_refl _)
  have hL := (hL).later hb (Nat.le_refl _)
  have hBC := (hBC).later hb (Nat.le_refl _)
  have hB := below_later hB hb
  clear hb
  rw [E2.out] at hR
  have lenhR := hR.len
  go_wp2_with fail
  with_reducible refine (add_any _ _ _ l2 _ _ _ l3 _ g2 g3 (by omega) (by omega)).mono ?_
  rintro e w7 ⟨ahPl, nhPl, chPl, rfl, hPl, hb⟩
  have g1 := (g1).past hb
  have g2 := (g2).past hb
  have g3 := (g3).past hb
  have hAB := (hAB).later hb (Nat.le_refl _)
  have hBA := (hBA).later hb (Nat.le_refl _)
  have hL := (hL).later hb (Nat.le_refl _)
  have hBC := (hBC).later hb (Nat.le_refl _)
  have hR := (hR).later hb (Nat.le_refl _)
  have hB := below_later hB hb
  clear hb
  have lenPl := hPl.len
  go_wp2_with fail
  with_reducible refine (tmul_any _ _ _ l _ _ _ (digs (val l2 + val l3)) _ g1 hPl.toNatAt (by omega) (by omega)).mono ?_
  rintro e w8 ⟨ahW, nhW, chW, rfl, hW, hb⟩
  have g1 := (g1).past hb
  have g2 := (g2).past hb
  have g3 := (g3).past hb
  have hAB := (hAB).later hb (Nat.le_refl _)
  have hBA := (hBA).later hb (Nat.le_refl _)
  have hL := (hL).later hb (Nat.le_refl _)
  have hBC := (hBC).later hb (Nat.le_refl _)
  have hR := (hR).later hb (Nat.le_refl _)
  have hPl := (hPl).later hb (Nat.le_refl _)
  have hB := below_later hB hb
  clear hb
  rw [E3.out] at hW
  have lenhW := hW.len
  go_wp2_with fail
  with_reducible refine (tmul_any _ _ _ l _ _ _ l3 _ g1 g3 (by omega) (by omega)).mono ?_
  rintro e w9 ⟨ahAC, nhAC, chAC, rfl, hAC, hb⟩
  have g1 := (g1).past hb
  have g2 := (g2).past hb
  have g3 := (g3).past hb
  have hAB := (hAB).later hb (Nat.le_refl _)
  have hBA := (hBA).later hb (Nat.le_refl _)
  have hL := (hL).later hb (Nat.le_refl _)
  have hBC := (hBC).later hb (Nat.le_refl _)
  have hR := (hR).later hb (Nat.le_refl _)
  have hPl := (hPl).later hb (Nat.le_refl _)
  have hW := (hW).later hb (Nat.le_refl _)
  have hB := below_later hB hb
  clear hb
  have lenhAC := hAC.len
  go_wp2_with fail
  with_reducible refine (add_any _ _ _ (digs (val l * val l2)) _ _ _ (digs (val l * val l3)) _ hAB.toNatAt hAC.toNatAt (by omega) (by omega)).mono ?_
  rintro e w10 ⟨ahPa, nhPa, chPa, rfl, hPa, hb⟩
  have g1 := (g1).past hb
  have g2 := (g2).past hb
  have g3 := (g3).past hb
  have hAB := (hAB).later hb (Nat.le_refl _)
  have hBA := (hBA).later hb (Nat.le_refl _)
  have hL := (hL).later hb (Nat.le_refl _)
  have hBC := (hBC).later hb (Nat.le_refl _)
  have hR := (hR).later hb (Nat.le_refl _)
  have hPl := (hPl).later hb (Nat.le_refl _)
  have hW := (hW).later hb (Nat.le_refl _)
  have hAC := (hAC).later hb (Nat.le_refl _)
  have hB := below_later hB hb
  clear hb
  rw [E4.out] at hPa
  go_wp2_with fail
  with_reducible refine (add_any _ _ _ l2 _ _ _ l3 _ g2 g3 (by omega) (by omega)).mono ?_
  rintro e w11 ⟨ahPm, nhPm, chPm, rfl, hPm, hb⟩
  have g1 := (g1).past hb
  have g2 := (g2).past hb
  have g3 := (g3).past hb
  have hAB := (hAB).later hb (Nat.le_refl _)
  have hBA := (hBA).later hb (Nat.le_refl _)
  have hL := (hL).later hb (Nat.le_refl _)
  have hBC := (hBC).later hb (Nat.le_refl _)
  have hR := (hR).later hb (Nat.le_refl _)
  have hPl := (hPl).later hb (Nat.le_refl _)
  have hW := (hW).later hb (Nat.le_refl _)
  have hAC := (hAC).later hb (Nat.le_refl _)
  have hPa := (hPa).later hb (Nat.le_refl _)
  have hB := below_later hB hb
  clear hb
  have lenPm := hPm.len
  go_wp2_with fail
  with_reducible refine (kara_yes _ _ _ l _ _ _ (digs (val l2 + val l3)) _ _ g1 hPm.toNatAt (by omega) (by omega) (by omega) (by omega)).mono ?_
  rintro e w12 ⟨ahH, nhH, chH, rfl, hH, hb⟩
  have g1 := (g1).past hb
  have g2 := (g2).past hb
  have g3 := (g3).past hb
  have hAB := (hAB).later hb (Nat.le_refl _)
  have hBA := (hBA).later hb (Nat.le_refl _)
  have hL := (hL).later hb (Nat.le_refl _)
  have hBC := (hBC).later hb (Nat.le_refl _)
  have hR := (hR).later hb (Nat.le_refl _)
  have hPl := (hPl).later hb (Nat.le_refl _)
  have hW := (hW).later hb (Nat.le_refl _)
  have hAC := (hAC).later hb (Nat.le_refl _)
  have hPa := (hPa).later hb (Nat.le_refl _)
  have hPm := (hPm).later hb (Nat.le_refl _)
  have hB := below_later hB hb
  clear hb
  rw [E3.out] at hH
  go_wp2_with fail
  with_reducible refine (sameNat_yes hAB.toNatAt hBA.toNatAt).mono ?_
  rintro e w13 ⟨rfl, hb⟩
  have g1 := (g1).past hb
  have hL := (hL).later hb (Nat.le_refl _)
  have hR := (hR).later hb (Nat.le_refl _)
  have hW := (hW).later hb (Nat.le_refl _)
  have hPa := (hPa).later hb (Nat.le_refl _)
  have hH := (hH).later hb (Nat.le_refl _)
  have hB := below_later hB hb
  clear hb
  go_wp2_with fail
  with_reducible refine (sameNat_yes hL.toNatAt hR.toNatAt).mono ?_
  rintro e w14 ⟨rfl, hb⟩
  have g1 := (g1).past hb
  have hW := (hW).later hb (Nat.le_refl _)
  have hPa := (hPa).later hb (Nat.le_refl _)
  have hH := (hH).later hb (Nat.le_refl _)
  have hB := below_later hB hb
  clear hb
  go_wp2_with fail
  with_reducible refine (sameNat_yes hW.toNatAt hPa.toNatAt).mono ?_
  rintro e w15 ⟨rfl, hb⟩
  have g1 := (g1).past hb
  have hW := (hW).later hb (Nat.le_refl _)
  have hH := (hH).later hb (Nat.le_refl _)
  have hB := below_later hB hb
  clear hb
  go_wp2_with fail
  with_reducible refine (sameNat_yes hH.toNatAt hW.toNatAt).mono ?_
  rintro e w16 ⟨rfl, hb⟩
  have g1 := (g1).past hb
  have hB := below_later hB hb
  clear hb
  go_wp2_with fail
  refine (of02_any _ _).mono ?_
  rintro e w' ⟨rfl, rfl⟩
  go_wp2_with fail
  refine (tmul_any _ _ _ l _ _ _ [1] _ ((g1).alloc _) ((litG _ _ _ [1] 1 (by simp) rfl rfl (by decide) (by decide)).toNatAt) (by omega) (by decide)).mono ?_
  rintro e w17 ⟨ahX, nhX, chX, rfl, hX, hb⟩
  have g1 := ((g1).alloc _).past hb
  have hB := below_later (below_alloc hB _) hb
  clear hb
  rw [E5.out] at hX
  go_wp2_with fail
  with_reducible refine (trim_any _ _ _ l _ g1 (by omega)).mono ?_
  rintro e w18 ⟨ahT, nhT, chT, rfl, hT, hb⟩
  have g1 := (g1).past hb
  have hX := (hX).later hb (Nat.le_refl _)
  have hB := below_later hB hb
  clear hb
  go_wp2_with fail
  with_reducible refine (sameNat_yes hX.toNatAt hT.toNatAt).mono ?_
  rintro e w19 ⟨rfl, hb⟩
  have g1 := (g1).past hb
  have hB := below_later hB hb
  clear hb
  go_wp2_with fail
  refine (of02_any _ _).mono ?_
  rintro e w' ⟨rfl, rfl⟩
  go_wp2_with fail
  refine (school_any _ _ _ [1] _ _ _ l _ ((litG _ _ _ [1] 1 (by simp) rfl rfl (by decide) (by decide)).toNatAt) ((g1).alloc _) (by decide) (by omega)).mono ?_
  rintro e w20 ⟨ahX, nhX, chX, rfl, hX, hb⟩
  have g1 := ((g1).alloc _).past hb
  have hB := below_later (below_alloc hB _) hb
  clear hb
  rw [E6.out] at hX
  go_wp2_with fail
  with_reducible refine (trim_any _ _ _ l _ g1 (by omega)).mono ?_
  rintro e w21 ⟨ahT, nhT, chT, rfl, hT, hb⟩
  have g1 := (g1).past hb
  have hX := (hX).later hb (Nat.le_refl _)
  have hB := below_later hB hb
  clear hb
  go_wp2_with fail
  with_reducible refine (sameNat_yes hX.toNatAt hT.toNatAt).mono ?_
  rintro e w22 ⟨rfl, hb⟩
  have g1 := (g1).past hb
  have hB := below_later hB hb
  clear hb
  go_wp2_with fail
  refine (tgrow_any _ _ _ l 2 _ g1 (by omega) (by decide)).mono ?_
  rintro e w23 ⟨ahX, nhX, chX, rfl, hX, hb⟩
  have g1 := (g1).past hb
  have hB := below_later hB hb
  clear hb
  rw [E7.out] at hX
  go_wp2_with fail
  with_reducible refine (add_any _ _ _ l _ _ _ l _ g1 g1 (by omega) (by omega)).mono ?_
  rintro e w24 ⟨ahT, nhT, chT, rfl, hT, hb⟩
  have g1 := (g1).past hb
  have hX := (hX).later hb (Nat.le_refl _)
  have hB := below_later hB hb
  clear hb
  go_wp2_with fail
  with_reducible refine (sameNat_yes hX.toNatAt hT.toNatAt).mono ?_
  rintro e w25 ⟨rfl, hb⟩
  have hB := below_later hB hb
  clear hb
  go_wp2
  go_ret
  exact ⟨rfl, hB⟩

end Go.Proofs.Ytlljljhiimeajaa
