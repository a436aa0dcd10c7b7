/- the laws of soliton: SolitonWhole. -/
import Derived.Test.YtlkoenpdmlbhlaaLaw13a
set_option linter.unusedVariables false
set_option linter.unusedSimpArgs false
namespace Go.Proofs.Ytlkoenpdmlbhlaa
open Go.RowKit

theorem o_pickN (x k : Int) (hk : 0 < k) : ∃ p : Nat, pickI x k = p ∧ (p : Int) < k := by
  have h : 0 ≤ pickI x k ∧ pickI x k < k := by
    unfold pickI
    rw [if_neg (by omega)]
    exact ⟨Int.emod_nonneg x (by omega), Int.emod_lt_of_pos x (by omega)⟩
  exact ⟨(pickI x k).toNat, by omega, by omega⟩

set_option maxRecDepth 100000 in
set_option maxHeartbeats 16000000 in
theorem solitonWhole_any (x y : Int) (w : World) (hx : -9223372036854775808 ≤ x ∧ x ≤ 9223372036854775807) (hy : -9223372036854775808 ≤ y ∧ y ≤ 9223372036854775807) :
    Calls Try.prog 3 #[.int .i64 x, .int .i64 y] w (RetVal w (.bool true)) := by
  obtain ⟨p, hp, hp2⟩ := o_pickN x 12 (by decide)
  obtain ⟨r, hr, hr2⟩ := o_pickN y 40 (by decide)
  obtain ⟨kN, hk⟩ : ∃ kN, p + 1 = kN := ⟨_, rfl⟩
  obtain ⟨mN, hm⟩ : ∃ mN, r + 1 = mN := ⟨_, rfl⟩
  obtain ⟨aN, ha⟩ : ∃ aN, 27720 * kN = aN := ⟨_, rfl⟩
  have hm0 : 1 ≤ mN := by omega
  have hm1 : mN ≤ 40 := by omega
  have hk0 : kN ≤ 12 := by omega
  have ha1 : aN ≤ 332640 := by omega
  have ha2 : kN < aN := by omega
  have hs0 : aN * 1 ≤ aN * mN := Nat.mul_le_mul_left aN hm0
  have hs3 := Nat.mul_le_mul ha1 hm1
  obtain ⟨sN, hs⟩ : ∃ sN, aN * mN = sN := ⟨_, rfl⟩
  rw [hs] at hs0 hs3
  have hTA := (show wrap64 (27720 * (kN : Int)) = (aN : Int) by unfold wrap64; omega)
  have TA := Lib.hid hTA
  have TK := Lib.hid (show wrap64 (1 + (p : Int)) = (kN : Int) by clear hTA; unfold wrap64; omega)
  have TM := Lib.hid (show wrap64 (1 + (r : Int)) = (mN : Int) by clear hTA; unfold wrap64; omega)
  clear hTA
  have hs5 : 27720 * kN * mN = sN := by rw [ha, hs]
  have hTB : wrap64 (27720 * (kN : Int) * (mN : Int)) = (sN : Int) := by
    rw [show (27720 * (kN : Int) * (mN : Int)) = ((27720 * kN * mN : Nat) : Int) by rw [Int.natCast_mul, Int.natCast_mul]; rfl, hs5]
    clear hs5 hs
    unfold wrap64
    omega
  have TB := Lib.hid hTB
  clear hTB
  have hk1 : 0 < kN := by clear hs5 hs; omega
  have hk2 : kN ≤ 12 := hk0
  have hs1 : kN < sN := by clear hs5 hs; omega
  have hs2 : sN ≤ 16777215 := by clear hs5 hs; omega
  have hk60 : kN ≤ 65536 := by clear hs5 hs; omega
  have hin : inR (kN : Int) (sN : Int) := by clear hs5 hs; unfold inR; omega
  have hT := idealT_in hin
  have hal := whole_all (K := kN) (M := mN) (sp := 1) (m := 0) hk1 hk2
  rw [hs5] at hal
  have hno := ok_one (K := kN) (S := sN) (sp := 1) (m := 0) hk1 hk60 hs2 hs1
  obtain ⟨W, hW⟩ : ∃ W, wtR (shR kN 1 0) 1 (sN : Int) = W := ⟨_, rfl⟩
  rw [hW] at hT hno hal
  rw [if_pos hno] at hT
  have hin2 := okT_in hno
  rw [tabL_len] at hin2
  have hsum : sumW (tabL W kN) kN = (sN : Int) := by
    rw [sumW_tot kN hk60 hin2, ← hal.1]
    exact totS_congr kN fun i hi => tabL_get hi
  have hal2 := hal.2
  have HX := Lib.hid hx
  have HY := Lib.hid hy
  have HP := Lib.hid hp
  have HR := Lib.hid hr
  have HT := Lib.hid hT
  have HIN := Lib.hid hin2
  have HSUM := Lib.hid hsum
  have HAL := Lib.hid hal2
  clear hx hy hp hr hT hno hin2 hsum hal2 hal hW hin hs hs0 hs3 hs5 ha hm hk hp2 hr2 ha1 ha2 hm0 hm1 hk0
  have tk := TK.out
  have tm := TM.out
  go_enter Try.func3, Try.ntmps3
  have hB := Below.refl w.heap.size w
  go_wp2_with fail
  with_reducible refine (awake13 _).mono ?_
  rintro e w1 ⟨rfl, hb⟩
  have hB := below_later hB hb
  clear hb
  go_wp2_with fail
  with_reducible refine (pick_any x 12 _ HX.out.1 HX.out.2 (by decide)).mono ?_
  rintro e w' ⟨rfl, rfl⟩
  rw [HP.out]
  go_wp2_with fail
  with_reducible refine (pick_any y 40 _ HY.out.1 HY.out.2 (by decide)).mono ?_
  rintro e w' ⟨rfl, rfl⟩
  rw [HR.out]
  go_wp2_with fail
  rw [TB.out]
  with_reducible refine (ideal_ok HT.out _).mono ?_
  rintro e w2 ⟨a1, n1, c1, rfl, h1, hb⟩
  have hB := below_later hB hb
  clear hb
  clear tk tm
  obtain rfl : kN = n1 := by rw [← h1.len, tabL_len]
  have hcl : c1 ≤ 9223372036854775807 := by have := h1.cle; simp only [maxLen] at this; omega
  have hle := h1.le
  go_wp2_with fail
  with_reducible refine (total_any _ _ _ (tabL W kN) _ h1).mono ?_
  rintro e w3 ⟨rfl, hb⟩
  have h1 := h1.past hb
  have hB := below_later hB hb
  clear hb
  rw [HSUM.out]
  go_wp2
  go_loopw [9] (fun i wr => ∃ (d : Nat), 2 ≤ d ∧ d ≤ kN + 1 ∧ i = .int .i64 (d : Int) ∧ IntsAt wr a1 kN c1 (tabL W kN) ∧ Below w.heap.size w wr) (fun i _ => kN + 1 - (intOf i).toNat)
  case atStart => exact ⟨2, Nat.le_refl _, by omega, rfl, h1, hB⟩
  case round =>
    clear h1 hB
    obtain ⟨d, hd1, hd2, rfl, h1, hB⟩ := hrel
    by_cases hlt : d ≤ kN
    · obtain ⟨i, rfl⟩ : ∃ i, d = i + 1 := ⟨d - 1, by omega⟩
      have hin := HIN.out i (by omega)
      rw [tabL_get (W := W) (K := kN) (i := i) (by omega)] at hin
      have hz := (HAL.out (i + 1) (by omega) hlt).2 (by omega)
      rcases h1.cell with h0 | ⟨b, o, rfl, hbl, hcl2⟩
      · omega
      have hq := hcl2 i (by omega)
      rw [tabL_get (W := W) (K := kN) (i := i) (by omega)] at hq
      obtain ⟨Z, hZ⟩ : ∃ Z, W (i + 1) = Z := ⟨_, rfl⟩
      rw [hZ] at hin hq hz
      have e0 : ((i + 1 : Nat) : Int) = (i : Int) + 1 := rfl
      have e1 : (i : Int) + 1 - 1 = (i : Int) := by omega
      rw [e0, e1] at hz
      have hZd : 0 ≤ Z * ((i : Int) + 1) ∧ Z * ((i : Int) + 1) ≤ 16777215 * 60 := ⟨Int.mul_nonneg hin.1 (by omega), Int.mul_le_mul hin.2 (by omega) (by omega) (by decide)⟩
      obtain ⟨ZD, hZD⟩ : ∃ ZD, Z * ((i : Int) + 1) = ZD := ⟨_, rfl⟩
      rw [hZD] at hz hZd
      have te : wrap64 (Z * ((i : Int) + 1)) = ZD := by rw [hZD]; unfold wrap64; omega
      have tf : wrap64 (ZD * (i : Int)) = (sN : Int) := by rw [hz]; unfold wrap64; omega
      have hik : i < kN := by omega
      clear hcl2 hz hZ e0 e1 hZd hin hZD
      go_wp2
      go_roundw
      case rel => exact ⟨i + 1 + 1, by omega, by omega, by go_num, h1, hB⟩
      case measure => simp [intOf]; omega
    · have hin := HIN.out 0 hk1
      rw [tabL_get (W := W) (K := kN) (i := 0) hk1] at hin
      have hz := (HAL.out 1 (Nat.le_refl _) (by omega)).1 rfl
      rcases h1.cell with h0 | ⟨b, o, rfl, hbl, hcl2⟩
      · omega
      have hq := hcl2 0 (by omega)
      rw [tabL_get (W := W) (K := kN) (i := 0) (by omega)] at hq
      obtain ⟨Z, hZ⟩ : ∃ Z, W (0 + 1) = Z := ⟨_, rfl⟩
      rw [show W 1 = W (0 + 1) from rfl] at hz
      rw [hZ] at hin hq hz
      have tz : wrap64 (Z * (kN : Int)) = (sN : Int) := by rw [hz]; unfold wrap64; omega
      rw [Nat.add_zero] at hq
      clear hcl2 hz hZ hin
      go_wp2
      go_ret
      exact ⟨rfl, hB⟩

end Go.Proofs.Ytlkoenpdmlbhlaa
