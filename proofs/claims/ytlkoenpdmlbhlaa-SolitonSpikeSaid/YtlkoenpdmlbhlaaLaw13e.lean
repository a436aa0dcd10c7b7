/- the laws of soliton: SolitonSpike. -/
import Derived.Test.YtlkoenpdmlbhlaaLaw13c
set_option linter.unusedVariables false
set_option linter.unusedSimpArgs false
namespace Go.Proofs.Ytlkoenpdmlbhlaa
open Go.RowKit

theorem part13_zero (w : World) : Calls Try.prog 16 #[.int .i64 0, .int .i64 1] w (RetRat w 0) := by
  have h := part13_any 0 1 w (by decide) (by decide) (by decide)
  rwa [show mkRat 0 1 = 0 by simp] at h
theorem part13_hund {x : Int} {m : Rat} (hm : mkRat x 100 = m) (w : World) (hx : -9223372036854775808 ≤ x ∧ x ≤ 9223372036854775807) : Calls Try.prog 16 #[.int .i64 x, .int .i64 100] w (RetRat w m) := by
  rw [← hm]
  exact part13_any x 100 w hx (by decide) (by decide)
theorem part13_over {D : Nat} {q : Rat} (hq : mkRat 1 D = q) (w : World) (hD : 0 < D) (hD2 : D ≤ 9223372036854775807) : Calls Try.prog 16 #[.int .i64 1, .int .i64 (D : Int)] w (RetRat w q) := by
  rw [← hq]
  exact part13_any 1 D w (by decide) hD hD2

set_option maxRecDepth 100000 in
set_option maxHeartbeats 32000000 in
theorem solitonSpike_any (x y z v : Int) (w : World) (hx : -9223372036854775808 ≤ x ∧ x ≤ 9223372036854775807) (hy : -9223372036854775808 ≤ y ∧ y ≤ 9223372036854775807) (hz : -9223372036854775808 ≤ z ∧ z ≤ 9223372036854775807) (hv : -9223372036854775808 ≤ v ∧ v ≤ 9223372036854775807) :
    Calls Try.prog 5 #[.int .i64 x, .int .i64 y, .int .i64 z, .int .i64 v] w (RetVal w (.bool true)) := by
  obtain ⟨p, hp, hp2⟩ := n_pickN x 40 (by decide)
  have HP := Lib.hid hp
  clear hp
  obtain ⟨r, hr, hr2⟩ := n_pickN y 10000 (by decide)
  have HR := Lib.hid hr
  clear hr
  obtain ⟨kN, hk⟩ : ∃ kN, p + 1 = kN := ⟨_, rfl⟩
  obtain ⟨sc, hs⟩ : ∃ sc, r + 1 = sc := ⟨_, rfl⟩
  obtain ⟨u, hu, hu2⟩ := n_pickN z (kN : Int) (by omega)
  have HU := Lib.hid hu
  clear hu
  obtain ⟨sp, hsp⟩ : ∃ sp, u + 1 = sp := ⟨_, rfl⟩
  obtain ⟨ms, hms, hms2⟩ := n_pickN v 301 (by decide)
  have HMS := Lib.hid hms
  clear hms
  have TK := Lib.hid (show wrap64 (1 + (p : Int)) = (kN : Int) by unfold wrap64; omega)
  have TS := Lib.hid (show wrap64 (1 + (r : Int)) = (sc : Int) by unfold wrap64; omega)
  have TU := Lib.hid (show wrap64 (1 + (u : Int)) = (sp : Int) by unfold wrap64; omega)
  have hk1 : 0 < kN := by omega
  have hk2 : kN ≤ 40 := by omega
  have hs1 : 0 < sc := by omega
  have hs2 : sc ≤ 10000 := by omega
  have hsp1 : 0 < sp := by omega
  have hsp2 : sp ≤ kN := by omega
  have hin : inR (kN : Int) (sc : Int) := by unfold inR; omega
  have hm0 : ¬ (mkRat (ms : Int) 100).num < 0 := by
    obtain ⟨e, _⟩ := mkRat_parts (z := (ms : Int)) (d := 100) (by decide)
    rw [e]
    exact Int.not_lt.2 (Int.ediv_nonneg (by omega) (by omega))
  have hT := robustT_in (sp := sp) hin (by omega) hsp2 hm0
  have hno := ok_two (K := kN) (S := sc) (sp := sp) (m := ms) hk1 (by omega) hs2 hsp1 (by omega)
  have lm : rlen (mkRat (ms : Int) 100) ≤ 1 := n_rlen_small (by decide) (by omega) (by decide)
  obtain ⟨m, hm⟩ : ∃ m, mkRat (ms : Int) 100 = m := ⟨_, rfl⟩
  rw [hm] at hT hno lm hm0
  have hzz : ∀ d, rndR ((idealR kN d + spikeR sp m d) * mkRat (sc : Int) 1) = wtR (shR kN sp m) 2 (sc : Int) d := fun d => by unfold wtR; rw [sumS_two]
  obtain ⟨W, hW⟩ : ∃ W, wtR (shR kN sp m) 2 (sc : Int) = W := ⟨_, rfl⟩
  rw [hW] at hT hno
  simp only [hW] at hzz
  have HX := Lib.hid hx
  have HY := Lib.hid hy
  have HV := Lib.hid hv
  have HZI := Lib.hid hz
  have HZ := Lib.hid hzz
  have HM := Lib.hid hm
  have LM := Lib.hid lm
  have HMB := Lib.hid (show -9223372036854775808 ≤ (ms : Int) ∧ (ms : Int) ≤ 9223372036854775807 by omega)
  clear hx hy hz hv hzz hW hk hs hsp hp2 hr2 hu2 hms2 hm hm0 lm
  by_cases hok : okT (tabL W kN) (kN : Int)
  · rw [if_pos hok] at hT
    have hin2 := okT_in hok
    rw [tabL_len] at hin2
    have HT := Lib.hid hT
    have HIN := Lib.hid hin2
    clear hT hno hok hin2 hin
    have tk := TK.out
    have ts := TS.out
    have tu := TU.out
    go_enter Try.func5, Try.ntmps5
    have hB := Below.refl w.heap.size w
    go_wp2_with fail
    with_reducible refine (awake13 _).mono ?_
    rintro e w1 ⟨rfl, hb⟩
    have hB := below_later hB hb
    clear hb
    go_wp2_with fail
    with_reducible refine (pick_any x 40 _ HX.out.1 HX.out.2 (by decide)).mono ?_
    rintro e w' ⟨rfl, rfl⟩
    rw [HP.out]
    go_wp2_with fail
    with_reducible refine (pick_any y 10000 _ HY.out.1 HY.out.2 (by decide)).mono ?_
    rintro e w' ⟨rfl, rfl⟩
    rw [HR.out]
    go_wp2_with fail
    with_reducible refine (pick_any z (kN : Int) _ HZI.out.1 HZI.out.2 (by omega)).mono ?_
    rintro e w' ⟨rfl, rfl⟩
    rw [HU.out]
    go_wp2_with fail
    with_reducible refine (pick_any v 301 _ HV.out.1 HV.out.2 (by decide)).mono ?_
    rintro e w' ⟨rfl, rfl⟩
    rw [HMS.out]
    go_wp2_with fail
    with_reducible refine (part13_hund HM.out _ HMB.out).mono ?_
    rintro e w2 ⟨ahMU, nhMU, chMU, ahMD, nhMD, chMD, rfl, hMU, hMD, hb⟩
    have hB := below_later hB hb
    clear hb
    clear tk ts tu
    go_wp2_with fail
    with_reducible refine (robust_ok HT.out hMU.toNatAt hMD.toNatAt (Nat.le_trans LM.out (by decide))).mono ?_
    rintro e w3 ⟨a1, n1, c1, rfl, h1, hb⟩
    have hMU := hMU.past hb
    have hMD := hMD.past hb
    have hB := below_later hB hb
    clear hb
    obtain rfl : kN = n1 := by rw [← h1.len, tabL_len]
    have hcl : c1 ≤ 9223372036854775807 := by have := h1.cle; simp only [maxLen] at this; omega
    have hle := h1.le
    go_wp2
    go_loopw [12] (fun i wr => ∃ (d : Nat), 1 ≤ d ∧ d ≤ kN + 1 ∧ i = .int .i64 (d : Int) ∧ IntsAt wr a1 kN c1 (tabL W kN) ∧ Below w.heap.size w wr) (fun i _ => kN + 1 - (intOf i).toNat)
    case atStart => exact ⟨1, Nat.le_refl _, by omega, rfl, h1, hB⟩
    case round =>
      clear h1 hB
      obtain ⟨d, hd1, hd2, rfl, h1, hB⟩ := hrel
      by_cases hlt : d ≤ kN
      · obtain ⟨i, hi⟩ : ∃ i, i + 1 = d := ⟨d - 1, by omega⟩
        have hin := HIN.out i (by omega)
        have hg := tabL_get (W := W) (K := kN) (i := i) (by omega)
        rw [hg, hi] at hin
        have hzd := HZ.out d
        have td : IntKind.i64.wrap ((d : Int) - 1) = (i : Int) := by rw [IntKind.wrap_i64]; omega
        have hik : i < kN := by omega
        obtain ⟨Z, hZ⟩ : ∃ Z, W d = Z := ⟨_, rfl⟩
        have hid := fun w' => lideal_any kN d w' hk1 (by omega) hd1 (by omega)
        have li := idealR_len (k := kN) (d := d) hk1 (by omega) hd1 (by omega)
        have ls : rlen (spikeR sp m d) ≤ 1 := spikeR_len hsp1 (by omega) hd1 (by omega) LM.out (Nat.le_refl 1)
        have hsv : spikeR sp m d = if d < sp then mkRat 1 (d * sp) else if d = sp then m else 0 := rfl
        obtain ⟨I, hI⟩ : ∃ I, idealR kN d = I := ⟨_, rfl⟩
        obtain ⟨S, hS⟩ : ∃ S, spikeR sp m d = S := ⟨_, rfl⟩
        rw [hZ] at hin hzd
        rw [hI, hS] at hzd
        rw [hI] at li
        simp only [hI] at hid
        rw [hS] at ls hsv
        have lb : rlen (I + S) ≤ rlen I + rlen S + 1 := sum_short I S
        obtain ⟨B, hBB⟩ : ∃ B, I + S = B := ⟨_, rfl⟩
        rw [hBB] at lb hzd
        have HID := Lib.hid hid
        have HZD := Lib.hid hzd
        have TD := Lib.hid td
        have HIK := Lib.hid hik
        have HBB := Lib.hid hBB
        have HG := Lib.hid (show (tabL W kN).getD i 0 = Z by rw [hg, hi, hZ])
        have LI := Lib.hid (show rlen I ≤ 1048576 by omega)
        have LS := Lib.hid (show rlen S ≤ 1048576 by omega)
        have LB := Lib.hid (show rlen B ≤ 1000 by omega)
        have HZB := Lib.hid (show -9223372036854775808 ≤ Z ∧ Z ≤ 9223372036854775807 by omega)
        have hs2b : sc ≤ 16777215 := by omega
        clear hg hi hzd td hik hZ hI hS hid hin li ls lb hBB
        by_cases hc1 : d < sp
        · rw [if_pos hc1] at hsv
          have hdm : d * sp ≤ 40 * 40 := Nat.mul_le_mul (by omega) (by omega)
          have hD1 : 0 < d * sp := Nat.mul_pos (by omega) hsp1
          have td2 : wrap64 ((d : Int) * (sp : Int)) = ((d * sp : Nat) : Int) := by rw [Int.natCast_mul]; unfold wrap64; omega
          obtain ⟨D, hD⟩ : ∃ D, d * sp = D := ⟨_, rfl⟩
          rw [hD] at hdm hD1 td2 hsv
          have hD2 : D ≤ 9223372036854775807 := by omega
          have HQS := Lib.hid hsv.symm
          have tc2 : ((d : Int) == (sp : Int)) = false := by rw [beq_eq_false_iff_ne]; omega
          clear hsv hD hdm
          have hws := hB.size
          have hZ := Below.refl wr.heap.size wr
          have zB := hB
          have zh1 := h1
          go_wp2_with fail
          with_reducible refine (part13_zero _).mono ?_
          rintro e w1 ⟨ah0U, nh0U, ch0U, ah0D, nh0D, ch0D, rfl, h0U, h0D, hb⟩
          have h0U := h0U.mono hZ.size
          have h0D := h0D.mono hZ.size
          have h1 := h1.past hb
          have hB := below_later hB hb
          have hZ := below_later hZ hb
          clear hb
          obtain ⟨Z0, hZ0⟩ : ∃ Z0, (0 : Rat) = Z0 := ⟨_, rfl⟩
          rw [hZ0] at h0U h0D ⊢
          have HZ0 := Lib.hid hZ0
          clear hZ0
          go_wp2_with fail
          obtain ⟨w2, hW, hz0, hb, q, f⟩ := box1g w1 (w1.heap.size) (by omega) #[.bool (neg Z0.num), .slice ah0U nh0U ch0U, .slice ah0D nh0D ch0D] 36
          have gmore : wr.heap.size ≤ w1.heap.size := by have := hZ.size; omega
          rw [hW]
          clear hW
          have h1 := h1.past hb
          have h0U := h0U.past hb
          have h0D := h0D.past hb
          have hB := below_later hB hb
          have hZ := below_later hZ hb
          clear hb
          have lmore : w1.heap.size < w2.heap.size := by omega
          have qmore0 := q 0; have qmore1 := q 1; have qmore2 := q 2
          simp only [List.getElem?_toArray, List.getElem?_cons_zero, List.getElem?_cons_succ] at qmore0 qmore1 qmore2
          have xmore : BoxAt w2 (w1.heap.size) 3 := BoxAt.of q f rfl (by simp [notU_bool, notU_slice, notU_i64])
          clear q f
          clear hz0
          with_reducible refine (part13_over HQS.out _ hD1 hD2).mono ?_
          rintro e w3 ⟨ahSU, nhSU, chSU, ahSD, nhSD, chSD, rfl, hSU, hSD, hb⟩
          have hSU := hSU.mono hZ.size
          have hSD := hSD.mono hZ.size
          have h1 := h1.past hb
          have h0U := h0U.past hb
          have h0D := h0D.past hb
          have qmore0 := bq hb lmore qmore0; have qmore1 := bq hb lmore qmore1; have qmore2 := bq hb lmore qmore2
          have xmore := xmore.past hb lmore
          have lmore := bl hb lmore
          have hB := below_later hB hb
          have hZ := below_later hZ hb
          clear hb
          have zf0 := xmore.f 0 (by decide)
          have zf1 := xmore.f 1 (by decide)
          have zf2 := xmore.f 2 (by decide)
          go_wp2_with fail
          obtain ⟨w4, hW, hO, qN0, qN1, qN2, xN⟩ := store3 xmore (.bool (neg (S).num)) (.slice ahSU nhSU chSU) (.slice ahSD nhSD chSD) (nu rfl) (nu rfl) (nu rfl)
          try rw [hW]
          clear hW
          have hSU := hO.own hSU
          have hSD := hO.own hSD
          have lmore : w1.heap.size < w4.heap.size := by rw [hO.size]; exact lmore
          have qmore0 := qN0
          have qmore1 := qN1
          have qmore2 := qN2
          have xmore := xN
          have hB := hO.below (by omega) hB
          have hZ := hO.below (by omega) hZ
          clear hO qN0 qN1 qN2 xN zf0 zf1 zf2
          have h1 := zh1.past hZ
          have hB := below_later zB hZ
          go_wp2_with fail
          refine wp_region_invA (by kernel_rfl) rfl (by kernel_rfl) (fun A0 V0 dd aa ww => ∃ (blk : Nat → Nat) (y73 y74 y75 y76 y77 y78 y72 y79 y80 y14 y15 : Value), aa = puts A0 [(73, y73), (74, y74), (75, y75), (76, y76), (77, y77), (78, y78), (72, y72), (79, y79), (80, y80), (14, y14), (15, y15)] ∧ Below V0.heap.size V0 ww ∧ Boxes [(9, 3)] V0.heap.size dd blk ww ∧ Shut (dd 0 = true → y73 = .int .i64 (kN : Int)) ∧ Shut (dd 1 = true → y74 = .int .i64 (d : Int)) ∧ Shut (dd 2 = true → RatV V0.heap.size (I) y75 ww) ∧ Shut (dd 3 = true → y76 = .agg #[.bool (neg (S).num), .slice ahSU nhSU chSU, .slice ahSD nhSD chSD]) ∧ Shut (dd 4 = true → dd 5 = false → LstV V0.heap.size 2 ([y75, y76].flatMap cellsOf) y77 ww) ∧ Shut (dd 5 = true → OkV V0.heap.size (B) y78 ww) ∧ Shut (dd 6 = true → y72 = y78) ∧ Shut (dd 7 = true → y79 = part 0 y72) ∧ Shut (dd 8 = true → y80 = part 1 y72) ∧ Shut (dd 9 = true → y14 = .pointer (some ⟨blk 9, 0, none⟩)) ∧ Shut (dd 10 = true → HoldsV dd 9 7 (blk 9) y79 ww) ∧ Shut (dd 11 = true → y15 = y80) ∧ True) ?_ ?_ ?_
          · exact ⟨fun _ => 0, _, _, _, _, _, _, _, _, _, _, _, puts_self _ [73, 74, 75, 76, 77, 78, 72, 79, 80, 14, 15], (Below.refl _ _).drew, Boxes.none _ _ _ _, fun h => (by cases h), fun h => (by cases h), fun h => (by cases h), fun h => (by cases h), fun h => (by cases h), fun h => (by cases h), fun h => (by cases h), fun h => (by cases h), fun h => (by cases h), fun h => (by cases h), fun h => (by cases h), fun h => (by cases h), trivial⟩
          · refine Steps.cons ?_ (Steps.cons ?_ (Steps.cons ?_ (Steps.cons ?_ (Steps.cons ?_ (Steps.cons ?_ (Steps.cons ?_ (Steps.cons ?_ (Steps.cons ?_ (Steps.cons ?_ (Steps.cons ?_ (Steps.cons ?_ (Steps.nil))))))))))))
            · intro dd aa ww K hc hun hn hI hK
              obtain ⟨blk, y73, y74, y75, y76, y77, y78, y72, y79, y80, y14, y15, ea, hb, hX, f0, f1, f2, f3, f4, f5, f6, f7, f8, f9, f10, f11, _⟩ := hI
              try simp [Region.binds] at hn
              subst ea
              simp only [puts, Act.put, List.setIfInBounds_toArray, List.set_cons_zero, List.set_cons_succ]
              go_simp
              refine hK.out _ _ ?_
              exact ⟨blk, .int .i64 (kN : Int), y74, y75, y76, y77, y78, y72, y79, y80, y14, y15, by simp only [puts, Act.put, List.setIfInBounds_toArray, List.set_cons_zero, List.set_cons_succ], hb, hX.same 0 rfl, fun _ => rfl, fun h => (f1.out (upd_of rfl h)), fun h => (f2.out (upd_of rfl h)), fun h => (f3.out (upd_of rfl h)), fun h h2 => ((f4.out (upd_of rfl h)) (upd_off h2)), fun h => (f5.out (upd_of rfl h)), fun h => (f6.out (upd_of rfl h)), fun h => (f7.out (upd_of rfl h)), fun h => (f8.out (upd_of rfl h)), fun h => (f9.out (upd_of rfl h)), fun h => (f10.out (upd_of rfl h)).same 0, fun h => (f11.out (upd_of rfl h)), trivial⟩
            · intro dd aa ww K hc hun hn hI hK
              obtain ⟨blk, y73, y74, y75, y76, y77, y78, y72, y79, y80, y14, y15, ea, hb, hX, f0, f1, f2, f3, f4, f5, f6, f7, f8, f9, f10, f11, _⟩ := hI
              try simp [Region.binds] at hn
              subst ea
              simp only [puts, Act.put, List.setIfInBounds_toArray, List.set_cons_zero, List.set_cons_succ]
              go_simp
              refine hK.out _ _ ?_
              exact ⟨blk, y73, .int .i64 (d : Int), y75, y76, y77, y78, y72, y79, y80, y14, y15, by simp only [puts, Act.put, List.setIfInBounds_toArray, List.set_cons_zero, List.set_cons_succ], hb, hX.same 1 rfl, fun h => (f0.out (upd_of rfl h)), fun _ => rfl, fun h => (f2.out (upd_of rfl h)), fun h => (f3.out (upd_of rfl h)), fun h h2 => ((f4.out (upd_of rfl h)) (upd_off h2)), fun h => (f5.out (upd_of rfl h)), fun h => (f6.out (upd_of rfl h)), fun h => (f7.out (upd_of rfl h)), fun h => (f8.out (upd_of rfl h)), fun h => (f9.out (upd_of rfl h)), fun h => (f10.out (upd_of rfl h)).same 1, fun h => (f11.out (upd_of rfl h)), trivial⟩
            · intro dd aa ww K hc hun hn hI hK
              obtain ⟨blk, y73, y74, y75, y76, y77, y78, y72, y79, y80, y14, y15, ea, hb, hX, f0, f1, f2, f3, f4, f5, f6, f7, f8, f9, f10, f11, _⟩ := hI
              try simp [Region.binds] at hn
              have ex := f0.out (by first | (simp [hn]; done) | exact hc.reach (f := 8) (by decide +kernel) hn | exact hc.reach (f := 8) (by decide +kernel) hn.1 | exact hc.reach (f := 8) (by decide +kernel) hn.2 | exact hc.reach (f := 8) (by decide +kernel) hn.2.1 | exact hc.reach (f := 8) (by decide +kernel) hn.2.2 | exact hc.reach (f := 8) (by decide +kernel) hn.2.2.1 | exact hc.reach (f := 8) (by decide +kernel) hn.2.2.2)
              subst ex
              have ex := f1.out (by first | (simp [hn]; done) | exact hc.reach (f := 8) (by decide +kernel) hn | exact hc.reach (f := 8) (by decide +kernel) hn.1 | exact hc.reach (f := 8) (by decide +kernel) hn.2 | exact hc.reach (f := 8) (by decide +kernel) hn.2.1 | exact hc.reach (f := 8) (by decide +kernel) hn.2.2 | exact hc.reach (f := 8) (by decide +kernel) hn.2.2.1 | exact hc.reach (f := 8) (by decide +kernel) hn.2.2.2)
              subst ex
              subst ea
              simp only [puts, Act.put, List.setIfInBounds_toArray, List.set_cons_zero, List.set_cons_succ]
              go_simp
              with_reducible refine (HID.out _).mono ?_
              rintro e w1 ⟨ahIU, nhIU, chIU, ahID, nhID, chID, rfl, hIU, hID, h1⟩
              refine hK.out _ _ ?_
              exact ⟨blk, .int .i64 (kN : Int), .int .i64 (d : Int), .agg #[.bool (neg (I).num), .slice ahIU nhIU chIU, .slice ahID nhID chID], y76, y77, y78, y72, y79, y80, y14, y15, by simp only [puts, Act.put, List.setIfInBounds_toArray, List.set_cons_zero, List.set_cons_succ], below_later hb h1, hX.past h1 2 rfl, fun h => rfl, fun h => rfl, fun _ => ⟨_, _, _, _, _, _, rfl, hIU.mono hb.size, hID.mono hb.size⟩, fun h => (f3.out (upd_of rfl h)), fun h => absurd (hc.reach (f := 8) (s := 4) (l := 2) (by kernel_rfl) (upd_of rfl h)) (by rw [hun]; decide), fun h => (f5.out (upd_of rfl h)).past h1, fun h => (f6.out (upd_of rfl h)), fun h => (f7.out (upd_of rfl h)), fun h => (f8.out (upd_of rfl h)), fun h => (f9.out (upd_of rfl h)), fun h => (f10.out (upd_of rfl h)).past h1 2, fun h => (f11.out (upd_of rfl h)), trivial⟩
            · intro dd aa ww K hc hun hn hI hK
              obtain ⟨blk, y73, y74, y75, y76, y77, y78, y72, y79, y80, y14, y15, ea, hb, hX, f0, f1, f2, f3, f4, f5, f6, f7, f8, f9, f10, f11, _⟩ := hI
              try simp [Region.binds] at hn
              have e0 := (hb.cell (p := ⟨w1.heap.size, 0, none⟩) lmore).trans qmore0
              have e1 := (hb.cell (p := ⟨w1.heap.size, 1, none⟩) lmore).trans qmore1
              have e2 := (hb.cell (p := ⟨w1.heap.size, 2, none⟩) lmore).trans qmore2
              subst ea
              simp only [puts, Act.put, List.setIfInBounds_toArray, List.set_cons_zero, List.set_cons_succ]
              go_simp
              refine hK.out _ _ ?_
              exact ⟨blk, y73, y74, y75, .agg #[.bool (neg (S).num), .slice ahSU nhSU chSU, .slice ahSD nhSD chSD], y77, y78, y72, y79, y80, y14, y15, by simp only [puts, Act.put, List.setIfInBounds_toArray, List.set_cons_zero, List.set_cons_succ], hb, hX.same 3 rfl, fun h => (f0.out (upd_of rfl h)), fun h => (f1.out (upd_of rfl h)), fun h => (f2.out (upd_of rfl h)), fun _ => rfl, fun h => absurd (hc.reach (f := 8) (s := 4) (l := 3) (by kernel_rfl) (upd_of rfl h)) (by rw [hun]; decide), fun h => (f5.out (upd_of rfl h)), fun h => (f6.out (upd_of rfl h)), fun h => (f7.out (upd_of rfl h)), fun h => (f8.out (upd_of rfl h)), fun h => (f9.out (upd_of rfl h)), fun h => (f10.out (upd_of rfl h)).same 3, fun h => (f11.out (upd_of rfl h)), trivial⟩
            · intro dd aa ww K hc hun hn hI hK
              obtain ⟨blk, y73, y74, y75, y76, y77, y78, y72, y79, y80, y14, y15, ea, hb, hX, f0, f1, f2, f3, f4, f5, f6, f7, f8, f9, f10, f11, _⟩ := hI
              try simp [Region.binds] at hn
              obtain ⟨ahIU, nhIU, chIU, ahID, nhID, chID, ex, hIU, hID⟩ := f2.out (by first | (simp [hn]; done) | exact hc.reach (f := 8) (by decide +kernel) hn | exact hc.reach (f := 8) (by decide +kernel) hn.1 | exact hc.reach (f := 8) (by decide +kernel) hn.2 | exact hc.reach (f := 8) (by decide +kernel) hn.2.1 | exact hc.reach (f := 8) (by decide +kernel) hn.2.2 | exact hc.reach (f := 8) (by decide +kernel) hn.2.2.1 | exact hc.reach (f := 8) (by decide +kernel) hn.2.2.2)
              subst ex
              have ex := f3.out (by first | (simp [hn]; done) | exact hc.reach (f := 8) (by decide +kernel) hn | exact hc.reach (f := 8) (by decide +kernel) hn.1 | exact hc.reach (f := 8) (by decide +kernel) hn.2 | exact hc.reach (f := 8) (by decide +kernel) hn.2.1 | exact hc.reach (f := 8) (by decide +kernel) hn.2.2 | exact hc.reach (f := 8) (by decide +kernel) hn.2.2.1 | exact hc.reach (f := 8) (by decide +kernel) hn.2.2.2)
              subst ex
              subst ea
              simp only [puts, Act.put, List.setIfInBounds_toArray, List.set_cons_zero, List.set_cons_succ]
              go_simp
              refine hK.out _ _ ?_
              exact ⟨blk, y73, y74, .agg #[.bool (neg (I).num), .slice ahIU nhIU chIU, .slice ahID nhID chID], .agg #[.bool (neg (S).num), .slice ahSU nhSU chSU, .slice ahSD nhSD chSD], .slice (some ⟨ww.heap.size, 0, none⟩) 2 2, y78, y72, y79, y80, y14, y15, by simp only [puts, Act.put, List.setIfInBounds_toArray, List.set_cons_zero, List.set_cons_succ], below_alloc hb _, hX.past ((Below.refl _ _).alloc (Nat.le_refl _) _) 4 rfl, fun h => (f0.out (upd_of rfl h)), fun h => (f1.out (upd_of rfl h)), fun h => (f2.out (upd_of rfl h)).past ((Below.refl _ _).alloc (Nat.le_refl _) _), fun h => rfl, fun _ _ => LstV.new hb.size _ _, fun h => (f5.out (upd_of rfl h)).past ((Below.refl _ _).alloc (Nat.le_refl _) _), fun h => (f6.out (upd_of rfl h)), fun h => (f7.out (upd_of rfl h)), fun h => (f8.out (upd_of rfl h)), fun h => (f9.out (upd_of rfl h)), fun h => (f10.out (upd_of rfl h)).past ((Below.refl _ _).alloc (Nat.le_refl _) _) 4, fun h => (f11.out (upd_of rfl h)), trivial⟩
            · intro dd aa ww K hc hun hn hI hK
              obtain ⟨blk, y73, y74, y75, y76, y77, y78, y72, y79, y80, y14, y15, ea, hb, hX, f0, f1, f2, f3, f4, f5, f6, f7, f8, f9, f10, f11, _⟩ := hI
              try simp [Region.binds] at hn
              obtain ⟨ahIU, nhIU, chIU, ahID, nhID, chID, ex, hIU, hID⟩ := f2.out (by first | (simp [hn]; done) | exact hc.reach (f := 8) (by decide +kernel) hn | exact hc.reach (f := 8) (by decide +kernel) hn.1 | exact hc.reach (f := 8) (by decide +kernel) hn.2 | exact hc.reach (f := 8) (by decide +kernel) hn.2.1 | exact hc.reach (f := 8) (by decide +kernel) hn.2.2 | exact hc.reach (f := 8) (by decide +kernel) hn.2.2.1 | exact hc.reach (f := 8) (by decide +kernel) hn.2.2.2)
              subst ex
              have ex := f3.out (by first | (simp [hn]; done) | exact hc.reach (f := 8) (by decide +kernel) hn | exact hc.reach (f := 8) (by decide +kernel) hn.1 | exact hc.reach (f := 8) (by decide +kernel) hn.2 | exact hc.reach (f := 8) (by decide +kernel) hn.2.1 | exact hc.reach (f := 8) (by decide +kernel) hn.2.2 | exact hc.reach (f := 8) (by decide +kernel) hn.2.2.1 | exact hc.reach (f := 8) (by decide +kernel) hn.2.2.2)
              subst ex
              obtain ⟨G4, ex, hg1, hg2, hg3⟩ := f4.out (by first | (simp [hn]; done) | exact hc.reach (f := 8) (by decide +kernel) hn | exact hc.reach (f := 8) (by decide +kernel) hn.1 | exact hc.reach (f := 8) (by decide +kernel) hn.2 | exact hc.reach (f := 8) (by decide +kernel) hn.2.1 | exact hc.reach (f := 8) (by decide +kernel) hn.2.2 | exact hc.reach (f := 8) (by decide +kernel) hn.2.2.1 | exact hc.reach (f := 8) (by decide +kernel) hn.2.2.2) hun
              subst ex
              have z0 := hg3 0 (by simp [cellsOf])
              have z1 := hg3 1 (by simp [cellsOf])
              have z2 := hg3 2 (by simp [cellsOf])
              have z3 := hg3 3 (by simp [cellsOf])
              have z4 := hg3 4 (by simp [cellsOf])
              have z5 := hg3 5 (by simp [cellsOf])
              simp only [List.flatMap_cons, List.flatMap_nil, cellsOf, List.cons_append, List.nil_append, List.append_nil, List.getElem?_cons_zero, List.getElem?_cons_succ] at z0 z1 z2 z3 z4 z5
              subst ea
              simp only [puts, Act.put, List.setIfInBounds_toArray, List.set_cons_zero, List.set_cons_succ]
              go_simp
              with_reducible refine (add_two (RatsAt.two hg2 z0 z1 z2 z3 z4 z5 hIU.toNatAt hID.toNatAt (hSU.past hb).toNatAt (hSD.past hb).toNatAt) LI.out LS.out).mono ?_
              rintro e w1 ⟨ahAU, nhAU, chAU, ahAD, nhAD, chAD, rfl, hAU, hAD, h1⟩
              rw [HBB.out] at hAU hAD ⊢
              refine hK.out _ _ ?_
              exact ⟨blk, y73, y74, .agg #[.bool (neg (I).num), .slice ahIU nhIU chIU, .slice ahID nhID chID], .agg #[.bool (neg (S).num), .slice ahSU nhSU chSU, .slice ahSD nhSD chSD], .slice (some ⟨G4, 0, none⟩) 2 2, .tuple #[.agg #[.bool (neg (B).num), .slice ahAU nhAU chAU, .slice ahAD nhAD chAD], .int .i64 0], y72, y79, y80, y14, y15, by simp only [puts, Act.put, List.setIfInBounds_toArray, List.set_cons_zero, List.set_cons_succ], below_later hb h1, hX.past h1 5 rfl, fun h => (f0.out (upd_of rfl h)), fun h => (f1.out (upd_of rfl h)), fun h => (f2.out (upd_of rfl h)).past h1, fun h => rfl, fun _ h2 => absurd h2 (by simp [upd]), fun _ => ⟨_, _, _, _, _, _, rfl, hAU.mono hb.size, hAD.mono hb.size⟩, fun h => absurd (hc.reach (f := 8) (s := 6) (l := 5) (by kernel_rfl) (upd_of rfl h)) (by rw [hun]; decide), fun h => (f7.out (upd_of rfl h)), fun h => (f8.out (upd_of rfl h)), fun h => (f9.out (upd_of rfl h)), fun h => (f10.out (upd_of rfl h)).past h1 5, fun h => (f11.out (upd_of rfl h)), trivial⟩
            · intro dd aa ww K hc hun hn hI hK
              obtain ⟨blk, y73, y74, y75, y76, y77, y78, y72, y79, y80, y14, y15, ea, hb, hX, f0, f1, f2, f3, f4, f5, f6, f7, f8, f9, f10, f11, _⟩ := hI
              try simp [Region.binds] at hn
              obtain ⟨ahAU, nhAU, chAU, ahAD, nhAD, chAD, ex, hAU, hAD⟩ := f5.out (by first | (simp [hn]; done) | exact hc.reach (f := 8) (by decide +kernel) hn | exact hc.reach (f := 8) (by decide +kernel) hn.1 | exact hc.reach (f := 8) (by decide +kernel) hn.2 | exact hc.reach (f := 8) (by decide +kernel) hn.2.1 | exact hc.reach (f := 8) (by decide +kernel) hn.2.2 | exact hc.reach (f := 8) (by decide +kernel) hn.2.2.1 | exact hc.reach (f := 8) (by decide +kernel) hn.2.2.2)
              subst ex
              subst ea
              simp only [puts, Act.put, List.setIfInBounds_toArray, List.set_cons_zero, List.set_cons_succ]
              go_simp
              refine hK.out _ _ ?_
              exact ⟨blk, y73, y74, y75, y76, y77, .tuple #[.agg #[.bool (neg (B).num), .slice ahAU nhAU chAU, .slice ahAD nhAD chAD], .int .i64 0], .tuple #[.agg #[.bool (neg (B).num), .slice ahAU nhAU chAU, .slice ahAD nhAD chAD], .int .i64 0], y79, y80, y14, y15, by simp only [puts, Act.put, List.setIfInBounds_toArray, List.set_cons_zero, List.set_cons_succ], hb, hX.same 6 rfl, fun h => (f0.out (upd_of rfl h)), fun h => (f1.out (upd_of rfl h)), fun h => (f2.out (upd_of rfl h)), fun h => (f3.out (upd_of rfl h)), fun _ h2 => absurd (show dd 5 = true from (by first | (simp [hn]; done) | exact hc.reach (f := 8) (by decide +kernel) hn | exact hc.reach (f := 8) (by decide +kernel) hn.1 | exact hc.reach (f := 8) (by decide +kernel) hn.2 | exact hc.reach (f := 8) (by decide +kernel) hn.2.1 | exact hc.reach (f := 8) (by decide +kernel) hn.2.2 | exact hc.reach (f := 8) (by decide +kernel) hn.2.2.1 | exact hc.reach (f := 8) (by decide +kernel) hn.2.2.2)) (by rw [upd_off h2]; decide), fun h => (f5.out (upd_of rfl h)), fun _ => rfl, fun h => absurd (hc.reach (f := 8) (s := 7) (l := 6) (by kernel_rfl) (upd_of rfl h)) (by rw [hun]; decide), fun h => absurd (hc.reach (f := 8) (s := 8) (l := 6) (by kernel_rfl) (upd_of rfl h)) (by rw [hun]; decide), fun h => (f9.out (upd_of rfl h)), fun h => (f10.out (upd_of rfl h)).same 6, fun h => (f11.out (upd_of rfl h)), trivial⟩
            · intro dd aa ww K hc hun hn hI hK
              obtain ⟨blk, y73, y74, y75, y76, y77, y78, y72, y79, y80, y14, y15, ea, hb, hX, f0, f1, f2, f3, f4, f5, f6, f7, f8, f9, f10, f11, _⟩ := hI
              try simp [Region.binds] at hn
              obtain ⟨ahAU, nhAU, chAU, ahAD, nhAD, chAD, ex, hAU, hAD⟩ := f5.out (by first | (simp [hn]; done) | exact hc.reach (f := 8) (by decide +kernel) hn | exact hc.reach (f := 8) (by decide +kernel) hn.1 | exact hc.reach (f := 8) (by decide +kernel) hn.2 | exact hc.reach (f := 8) (by decide +kernel) hn.2.1 | exact hc.reach (f := 8) (by decide +kernel) hn.2.2 | exact hc.reach (f := 8) (by decide +kernel) hn.2.2.1 | exact hc.reach (f := 8) (by decide +kernel) hn.2.2.2)
              subst ex
              have ex : y72 = .tuple #[.agg #[.bool (neg (B).num), .slice ahAU nhAU chAU, .slice ahAD nhAD chAD], .int .i64 0] := f6.out (by first | (simp [hn]; done) | exact hc.reach (f := 8) (by decide +kernel) hn | exact hc.reach (f := 8) (by decide +kernel) hn.1 | exact hc.reach (f := 8) (by decide +kernel) hn.2 | exact hc.reach (f := 8) (by decide +kernel) hn.2.1 | exact hc.reach (f := 8) (by decide +kernel) hn.2.2 | exact hc.reach (f := 8) (by decide +kernel) hn.2.2.1 | exact hc.reach (f := 8) (by decide +kernel) hn.2.2.2)
              subst ex
              subst ea
              simp only [puts, Act.put, List.setIfInBounds_toArray, List.set_cons_zero, List.set_cons_succ]
              go_simp
              refine hK.out _ _ ?_
              exact ⟨blk, y73, y74, y75, y76, y77, .tuple #[.agg #[.bool (neg (B).num), .slice ahAU nhAU chAU, .slice ahAD nhAD chAD], .int .i64 0], .tuple #[.agg #[.bool (neg (B).num), .slice ahAU nhAU chAU, .slice ahAD nhAD chAD], .int .i64 0], .agg #[.bool (neg (B).num), .slice ahAU nhAU chAU, .slice ahAD nhAD chAD], y80, y14, y15, by simp only [puts, Act.put, List.setIfInBounds_toArray, List.set_cons_zero, List.set_cons_succ], hb, hX.same 7 rfl, fun h => (f0.out (upd_of rfl h)), fun h => (f1.out (upd_of rfl h)), fun h => (f2.out (upd_of rfl h)), fun h => (f3.out (upd_of rfl h)), fun _ h2 => absurd (show dd 5 = true from (by first | (simp [hn]; done) | exact hc.reach (f := 8) (by decide +kernel) hn | exact hc.reach (f := 8) (by decide +kernel) hn.1 | exact hc.reach (f := 8) (by decide +kernel) hn.2 | exact hc.reach (f := 8) (by decide +kernel) hn.2.1 | exact hc.reach (f := 8) (by decide +kernel) hn.2.2 | exact hc.reach (f := 8) (by decide +kernel) hn.2.2.1 | exact hc.reach (f := 8) (by decide +kernel) hn.2.2.2)) (by rw [upd_off h2]; decide), fun h => (f5.out (upd_of rfl h)), fun h => rfl, fun _ => rfl, fun h => (f8.out (upd_of rfl h)), fun h => (f9.out (upd_of rfl h)), fun h => absurd (HoldsV.vp (f10.out (upd_of rfl h))) (by rw [hun]; decide), fun h => (f11.out (upd_of rfl h)), trivial⟩
            · intro dd aa ww K hc hun hn hI hK
              obtain ⟨blk, y73, y74, y75, y76, y77, y78, y72, y79, y80, y14, y15, ea, hb, hX, f0, f1, f2, f3, f4, f5, f6, f7, f8, f9, f10, f11, _⟩ := hI
              try simp [Region.binds] at hn
              obtain ⟨ahAU, nhAU, chAU, ahAD, nhAD, chAD, ex, hAU, hAD⟩ := f5.out (by first | (simp [hn]; done) | exact hc.reach (f := 8) (by decide +kernel) hn | exact hc.reach (f := 8) (by decide +kernel) hn.1 | exact hc.reach (f := 8) (by decide +kernel) hn.2 | exact hc.reach (f := 8) (by decide +kernel) hn.2.1 | exact hc.reach (f := 8) (by decide +kernel) hn.2.2 | exact hc.reach (f := 8) (by decide +kernel) hn.2.2.1 | exact hc.reach (f := 8) (by decide +kernel) hn.2.2.2)
              subst ex
              have ex : y72 = .tuple #[.agg #[.bool (neg (B).num), .slice ahAU nhAU chAU, .slice ahAD nhAD chAD], .int .i64 0] := f6.out (by first | (simp [hn]; done) | exact hc.reach (f := 8) (by decide +kernel) hn | exact hc.reach (f := 8) (by decide +kernel) hn.1 | exact hc.reach (f := 8) (by decide +kernel) hn.2 | exact hc.reach (f := 8) (by decide +kernel) hn.2.1 | exact hc.reach (f := 8) (by decide +kernel) hn.2.2 | exact hc.reach (f := 8) (by decide +kernel) hn.2.2.1 | exact hc.reach (f := 8) (by decide +kernel) hn.2.2.2)
              subst ex
              subst ea
              simp only [puts, Act.put, List.setIfInBounds_toArray, List.set_cons_zero, List.set_cons_succ]
              go_simp
              refine hK.out _ _ ?_
              exact ⟨blk, y73, y74, y75, y76, y77, .tuple #[.agg #[.bool (neg (B).num), .slice ahAU nhAU chAU, .slice ahAD nhAD chAD], .int .i64 0], .tuple #[.agg #[.bool (neg (B).num), .slice ahAU nhAU chAU, .slice ahAD nhAD chAD], .int .i64 0], y79, .int .i64 0, y14, y15, by simp only [puts, Act.put, List.setIfInBounds_toArray, List.set_cons_zero, List.set_cons_succ], hb, hX.same 8 rfl, fun h => (f0.out (upd_of rfl h)), fun h => (f1.out (upd_of rfl h)), fun h => (f2.out (upd_of rfl h)), fun h => (f3.out (upd_of rfl h)), fun _ h2 => absurd (show dd 5 = true from (by first | (simp [hn]; done) | exact hc.reach (f := 8) (by decide +kernel) hn | exact hc.reach (f := 8) (by decide +kernel) hn.1 | exact hc.reach (f := 8) (by decide +kernel) hn.2 | exact hc.reach (f := 8) (by decide +kernel) hn.2.1 | exact hc.reach (f := 8) (by decide +kernel) hn.2.2 | exact hc.reach (f := 8) (by decide +kernel) hn.2.2.1 | exact hc.reach (f := 8) (by decide +kernel) hn.2.2.2)) (by rw [upd_off h2]; decide), fun h => (f5.out (upd_of rfl h)), fun h => rfl, fun h => (f7.out (upd_of rfl h)), fun _ => rfl, fun h => (f9.out (upd_of rfl h)), fun h => (f10.out (upd_of rfl h)).same 8, fun h => absurd (hc.reach (f := 8) (s := 11) (l := 8) (by kernel_rfl) (upd_of rfl h)) (by rw [hun]; decide), trivial⟩
            · intro dd aa ww K hc hun hn hI hK
              obtain ⟨blk, y73, y74, y75, y76, y77, y78, y72, y79, y80, y14, y15, ea, hb, hX, f0, f1, f2, f3, f4, f5, f6, f7, f8, f9, f10, f11, _⟩ := hI
              try simp [Region.binds] at hn
              subst ea
              simp only [puts, Act.put, List.setIfInBounds_toArray, List.set_cons_zero, List.set_cons_succ]
              go_simp
              refine hK.out _ _ ?_
              exact ⟨setB blk 9 ww.heap.size, y73, y74, y75, y76, y77, y78, y72, y79, y80, .pointer (some ⟨ww.heap.size, 0, none⟩), y15, by simp only [puts, Act.put, List.setIfInBounds_toArray, List.set_cons_zero, List.set_cons_succ], below_alloc hb _, hX.new hb.size 9 #[.bool false, .slice none 0 0, .slice none 0 0] _ rfl (by simp [notU_bool, notU_slice, notU_i64]), fun h => (f0.out (upd_of rfl h)), fun h => (f1.out (upd_of rfl h)), fun h => (f2.out (upd_of rfl h)).past ((Below.refl _ _).alloc (Nat.le_refl _) _), fun h => (f3.out (upd_of rfl h)), fun h h2 => ((f4.out (upd_of rfl h)) (upd_off h2)).past ((Below.refl _ _).alloc (Nat.le_refl _) _), fun h => (f5.out (upd_of rfl h)).past ((Below.refl _ _).alloc (Nat.le_refl _) _), fun h => (f6.out (upd_of rfl h)), fun h => (f7.out (upd_of rfl h)), fun h => (f8.out (upd_of rfl h)), fun _ => rfl, fun h => absurd (HoldsV.up (f10.out (upd_of rfl h))) (by rw [hun]; decide), fun h => (f11.out (upd_of rfl h)), trivial⟩
            · intro dd aa ww K hc hun hn hI hK
              obtain ⟨blk, y73, y74, y75, y76, y77, y78, y72, y79, y80, y14, y15, ea, hb, hX, f0, f1, f2, f3, f4, f5, f6, f7, f8, f9, f10, f11, _⟩ := hI
              try simp [Region.binds] at hn
              have ex := f9.out (by first | (simp [hn]; done) | exact hc.reach (f := 8) (by decide +kernel) hn | exact hc.reach (f := 8) (by decide +kernel) hn.1 | exact hc.reach (f := 8) (by decide +kernel) hn.2 | exact hc.reach (f := 8) (by decide +kernel) hn.2.1 | exact hc.reach (f := 8) (by decide +kernel) hn.2.2 | exact hc.reach (f := 8) (by decide +kernel) hn.2.2.1 | exact hc.reach (f := 8) (by decide +kernel) hn.2.2.2)
              subst ex
              obtain ⟨ahAU, nhAU, chAU, ahAD, nhAD, chAD, ex, hAU, hAD⟩ := f5.out (by first | (simp [hn]; done) | exact hc.reach (f := 8) (by decide +kernel) hn | exact hc.reach (f := 8) (by decide +kernel) hn.1 | exact hc.reach (f := 8) (by decide +kernel) hn.2 | exact hc.reach (f := 8) (by decide +kernel) hn.2.1 | exact hc.reach (f := 8) (by decide +kernel) hn.2.2 | exact hc.reach (f := 8) (by decide +kernel) hn.2.2.1 | exact hc.reach (f := 8) (by decide +kernel) hn.2.2.2)
              subst ex
              have ex : y72 = .tuple #[.agg #[.bool (neg (B).num), .slice ahAU nhAU chAU, .slice ahAD nhAD chAD], .int .i64 0] := f6.out (by first | (simp [hn]; done) | exact hc.reach (f := 8) (by decide +kernel) hn | exact hc.reach (f := 8) (by decide +kernel) hn.1 | exact hc.reach (f := 8) (by decide +kernel) hn.2 | exact hc.reach (f := 8) (by decide +kernel) hn.2.1 | exact hc.reach (f := 8) (by decide +kernel) hn.2.2 | exact hc.reach (f := 8) (by decide +kernel) hn.2.2.1 | exact hc.reach (f := 8) (by decide +kernel) hn.2.2.2)
              subst ex
              have ex : y79 = .agg #[.bool (neg (B).num), .slice ahAU nhAU chAU, .slice ahAD nhAD chAD] := f7.out (by first | (simp [hn]; done) | exact hc.reach (f := 8) (by decide +kernel) hn | exact hc.reach (f := 8) (by decide +kernel) hn.1 | exact hc.reach (f := 8) (by decide +kernel) hn.2 | exact hc.reach (f := 8) (by decide +kernel) hn.2.1 | exact hc.reach (f := 8) (by decide +kernel) hn.2.2 | exact hc.reach (f := 8) (by decide +kernel) hn.2.2.1 | exact hc.reach (f := 8) (by decide +kernel) hn.2.2.2)
              subst ex
              have hd9 : dd 9 = true := by simp [hn]
              have hv7 : dd 7 = true := by simp [hn]
              obtain ⟨x1, x2, x3⟩ := hX.at_ (9, 3) (by simp) hd9
              obtain ⟨v0, v1, v2, z0, z1, z2, z3, z4, z5, _, _, _⟩ := x3.three
              have hv : ∀ v ∈ ([.bool (neg (B).num), .slice ahAU nhAU chAU, .slice ahAD nhAD chAD] : List Value), notU v := by simp [notU_bool, notU_slice, notU_i64]
              subst ea
              simp only [puts, Act.put, List.setIfInBounds_toArray, List.set_cons_zero, List.set_cons_succ]
              go_simp
              refine hK.out _ _ ?_
              exact ⟨blk, y73, y74, y75, y76, y77, .tuple #[.agg #[.bool (neg (B).num), .slice ahAU nhAU chAU, .slice ahAD nhAD chAD], .int .i64 0], .tuple #[.agg #[.bool (neg (B).num), .slice ahAU nhAU chAU, .slice ahAD nhAD chAD], .int .i64 0], .agg #[.bool (neg (B).num), .slice ahAU nhAU chAU, .slice ahAD nhAD chAD], y80, .pointer (some ⟨blk 9, 0, none⟩), y15, by simp only [puts, Act.put, List.setIfInBounds_toArray, List.set_cons_zero, List.set_cons_succ], hb.trans (below_setCells _ _ x1 [.bool (neg (B).num), .slice ahAU nhAU chAU, .slice ahAD nhAD chAD] 0 _), (hX.sets [.bool (neg (B).num), .slice ahAU nhAU chAU, .slice ahAD nhAD chAD] _ 0 _ hv).same 10 rfl, fun h => (f0.out (upd_of rfl h)), fun h => (f1.out (upd_of rfl h)), fun h => ((f2.out (upd_of rfl h)).sets [.bool (neg (B).num), .slice ahAU nhAU chAU, .slice ahAD nhAD chAD] x3 (by simp) hv), fun h => (f3.out (upd_of rfl h)), fun _ h2 => absurd (show dd 5 = true from (by first | (simp [hn]; done) | exact hc.reach (f := 8) (by decide +kernel) hn | exact hc.reach (f := 8) (by decide +kernel) hn.1 | exact hc.reach (f := 8) (by decide +kernel) hn.2 | exact hc.reach (f := 8) (by decide +kernel) hn.2.1 | exact hc.reach (f := 8) (by decide +kernel) hn.2.2 | exact hc.reach (f := 8) (by decide +kernel) hn.2.2.1 | exact hc.reach (f := 8) (by decide +kernel) hn.2.2.2)) (by rw [upd_off h2]; decide), fun h => ((f5.out (upd_of rfl h)).sets [.bool (neg (B).num), .slice ahAU nhAU chAU, .slice ahAD nhAD chAD] x3 (by simp) hv), fun h => rfl, fun h => rfl, fun h => (f8.out (upd_of rfl h)), fun h => rfl, fun _ => (HoldsV.new hd9 hv7 x2 x3 [.bool (neg (B).num), .slice ahAU nhAU chAU, .slice ahAD nhAD chAD] (by simp)).same 10, fun h => (f11.out (upd_of rfl h)), trivial⟩
            · intro dd aa ww K hc hun hn hI hK
              obtain ⟨blk, y73, y74, y75, y76, y77, y78, y72, y79, y80, y14, y15, ea, hb, hX, f0, f1, f2, f3, f4, f5, f6, f7, f8, f9, f10, f11, _⟩ := hI
              try simp [Region.binds] at hn
              obtain ⟨ahAU, nhAU, chAU, ahAD, nhAD, chAD, ex, hAU, hAD⟩ := f5.out (by first | (simp [hn]; done) | exact hc.reach (f := 8) (by decide +kernel) hn | exact hc.reach (f := 8) (by decide +kernel) hn.1 | exact hc.reach (f := 8) (by decide +kernel) hn.2 | exact hc.reach (f := 8) (by decide +kernel) hn.2.1 | exact hc.reach (f := 8) (by decide +kernel) hn.2.2 | exact hc.reach (f := 8) (by decide +kernel) hn.2.2.1 | exact hc.reach (f := 8) (by decide +kernel) hn.2.2.2)
              subst ex
              have ex : y72 = .tuple #[.agg #[.bool (neg (B).num), .slice ahAU nhAU chAU, .slice ahAD nhAD chAD], .int .i64 0] := f6.out (by first | (simp [hn]; done) | exact hc.reach (f := 8) (by decide +kernel) hn | exact hc.reach (f := 8) (by decide +kernel) hn.1 | exact hc.reach (f := 8) (by decide +kernel) hn.2 | exact hc.reach (f := 8) (by decide +kernel) hn.2.1 | exact hc.reach (f := 8) (by decide +kernel) hn.2.2 | exact hc.reach (f := 8) (by decide +kernel) hn.2.2.1 | exact hc.reach (f := 8) (by decide +kernel) hn.2.2.2)
              subst ex
              have ex : y80 = .int .i64 0 := f8.out (by first | (simp [hn]; done) | exact hc.reach (f := 8) (by decide +kernel) hn | exact hc.reach (f := 8) (by decide +kernel) hn.1 | exact hc.reach (f := 8) (by decide +kernel) hn.2 | exact hc.reach (f := 8) (by decide +kernel) hn.2.1 | exact hc.reach (f := 8) (by decide +kernel) hn.2.2 | exact hc.reach (f := 8) (by decide +kernel) hn.2.2.1 | exact hc.reach (f := 8) (by decide +kernel) hn.2.2.2)
              subst ex
              subst ea
              simp only [puts, Act.put, List.setIfInBounds_toArray, List.set_cons_zero, List.set_cons_succ]
              go_simp
              refine hK.out _ _ ?_
              exact ⟨blk, y73, y74, y75, y76, y77, .tuple #[.agg #[.bool (neg (B).num), .slice ahAU nhAU chAU, .slice ahAD nhAD chAD], .int .i64 0], .tuple #[.agg #[.bool (neg (B).num), .slice ahAU nhAU chAU, .slice ahAD nhAD chAD], .int .i64 0], y79, .int .i64 0, y14, .int .i64 0, by simp only [puts, Act.put, List.setIfInBounds_toArray, List.set_cons_zero, List.set_cons_succ], hb, hX.same 11 rfl, fun h => (f0.out (upd_of rfl h)), fun h => (f1.out (upd_of rfl h)), fun h => (f2.out (upd_of rfl h)), fun h => (f3.out (upd_of rfl h)), fun _ h2 => absurd (show dd 5 = true from (by first | (simp [hn]; done) | exact hc.reach (f := 8) (by decide +kernel) hn | exact hc.reach (f := 8) (by decide +kernel) hn.1 | exact hc.reach (f := 8) (by decide +kernel) hn.2 | exact hc.reach (f := 8) (by decide +kernel) hn.2.1 | exact hc.reach (f := 8) (by decide +kernel) hn.2.2 | exact hc.reach (f := 8) (by decide +kernel) hn.2.2.1 | exact hc.reach (f := 8) (by decide +kernel) hn.2.2.2)) (by rw [upd_off h2]; decide), fun h => (f5.out (upd_of rfl h)), fun h => rfl, fun h => (f7.out (upd_of rfl h)), fun h => rfl, fun h => (f9.out (upd_of rfl h)), fun h => (f10.out (upd_of rfl h)).same 11, fun _ => rfl, trivial⟩
          intro dd aa w5 hd hI
          obtain ⟨blk, y73, y74, y75, y76, y77, y78, y72, y79, y80, y14, y15, ea, hb, hX, f0, f1, f2, f3, f4, f5, f6, f7, f8, f9, f10, f11, _⟩ := hI
          have ex := f0.out (hd 0 (by simp))
          subst ex
          have ex := f1.out (hd 1 (by simp))
          subst ex
          obtain ⟨ahIU, nhIU, chIU, ahID, nhID, chID, ex, hIU, hID⟩ := f2.out (hd 2 (by simp))
          subst ex
          have ex := f3.out (hd 3 (by simp))
          subst ex
          obtain ⟨ahAU, nhAU, chAU, ahAD, nhAD, chAD, ex, hAU, hAD⟩ := f5.out (hd 5 (by simp))
          subst ex
          have ex : y72 = .tuple #[.agg #[.bool (neg (B).num), .slice ahAU nhAU chAU, .slice ahAD nhAD chAD], .int .i64 0] := f6.out (hd 6 (by simp))
          subst ex
          have ex : y79 = .agg #[.bool (neg (B).num), .slice ahAU nhAU chAU, .slice ahAD nhAD chAD] := f7.out (hd 7 (by simp))
          subst ex
          have ex : y80 = .int .i64 0 := f8.out (hd 8 (by simp))
          subst ex
          have ex := f9.out (hd 9 (by simp))
          subst ex
          obtain ⟨vs10, e, h10⟩ := f10.out (hd 10 (by simp))
          cases e
          have ex : y15 = .int .i64 0 := f11.out (hd 11 (by simp))
          subst ex
          have lboth := h10.lt
          have qboth0 := h10.at_ 0 (by simp)
          simp only [List.getElem?_cons_zero, List.getElem?_cons_succ] at qboth0
          have qboth1 := h10.at_ 1 (by simp)
          simp only [List.getElem?_cons_zero, List.getElem?_cons_succ] at qboth1
          have qboth2 := h10.at_ 2 (by simp)
          simp only [List.getElem?_cons_zero, List.getElem?_cons_succ] at qboth2
          have ubothmore : w1.heap.size < blk 9 := Nat.lt_of_lt_of_le lmore (hX.at_ (9, 3) (by simp) (hd 9 (by simp))).1
          generalize blk 9 = Bboth at *
          subst ea
          simp only [puts, Act.put, List.setIfInBounds_toArray, List.set_cons_zero, List.set_cons_succ]
          have hIU := hIU.mono hZ.size
          have hID := hID.mono hZ.size
          have hAU := hAU.mono hZ.size
          have hAD := hAD.mono hZ.size
          have hSU := hSU.past hb
          have hSD := hSD.past hb
          have h1 := h1.past hb
          have qmore0 := bq hb lmore qmore0; have qmore1 := bq hb lmore qmore1; have qmore2 := bq hb lmore qmore2
          have xmore := xmore.past hb lmore
          have lmore := bl hb lmore
          have hB := below_later hB hb
          have hZ := below_later hZ hb
          clear hX
          clear hb hd
          rcases h1.cell with h0 | ⟨b, o, rfl, hbl, hcl2⟩
          · omega
          have hq := hcl2 i HIK.out
          rw [HG.out] at hq
          clear hcl2
          go_wp2_with fail
          refine wp_region_held_drew (S := fun w' => (w'.cell? ⟨Bboth, 0, none⟩ = some (.bool (neg (B).num)) ∧ w'.cell? ⟨Bboth, 1, none⟩ = some (.slice ahAU nhAU chAU) ∧ w'.cell? ⟨Bboth, 2, none⟩ = some (.slice ahAD nhAD chAD)) ∧ Below w5.heap.size w5 w') (by kernel_rfl) ⟨⟨((Below.refl w5.heap.size w5).drew.cell (p := ⟨Bboth, 0, none⟩) lboth).trans qboth0, ((Below.refl w5.heap.size w5).drew.cell (p := ⟨Bboth, 1, none⟩) lboth).trans qboth1, ((Below.refl w5.heap.size w5).drew.cell (p := ⟨Bboth, 2, none⟩) lboth).trans qboth2⟩, (Below.refl _ _).drew⟩ (fun hHeld => ?_)
          refine takeL 0 (?_) rfl (by kernel_rfl) (by kernel_rfl) (by kernel_rfl) (fun _ _ _ h => h) (Or.inl ⟨by rfl, ?_⟩) (by assumption) ?_
          rotate_left
          · intro ws hSw; obtain ⟨⟨s0, s1, s2⟩, sB⟩ := hSw; go_simp; with_reducible rfl
          try simp only [Act.put, List.setIfInBounds_toArray, List.set_cons_zero, List.set_cons_succ]
          refine takeL 1 (?_) rfl (by kernel_rfl) (by kernel_rfl) (by kernel_rfl) (fun _ _ _ h => h) (Or.inl ⟨by rfl, ?_⟩) (by assumption) ?_
          rotate_left
          · intro ws hSw; obtain ⟨⟨s0, s1, s2⟩, sB⟩ := hSw; go_simp; with_reducible rfl
          try simp only [Act.put, List.setIfInBounds_toArray, List.set_cons_zero, List.set_cons_succ]
          refine takeL 2 (?_) rfl (by kernel_rfl) (by kernel_rfl) (by kernel_rfl) (fun _ _ _ h => h) (Or.inl ⟨by rfl, ?_⟩) (by assumption) ?_
          rotate_left
          · intro ws hSw; obtain ⟨⟨s0, s1, s2⟩, sB⟩ := hSw; go_simp; with_reducible rfl
          try simp only [Act.put, List.setIfInBounds_toArray, List.set_cons_zero, List.set_cons_succ]
          refine takeL 3 (?_) rfl (by kernel_rfl) (by kernel_rfl) (by kernel_rfl) (fun _ _ _ h => h) (Or.inl ⟨by rfl, ?_⟩) (by assumption) ?_
          rotate_left
          · intro ws hSw; obtain ⟨⟨s0, s1, s2⟩, sB⟩ := hSw; go_simp; with_reducible rfl
          try simp only [Act.put, List.setIfInBounds_toArray, List.set_cons_zero, List.set_cons_succ]
          refine takeL 4 (?_) rfl (by kernel_rfl) (by kernel_rfl) (by kernel_rfl) (fun _ _ _ h => h) (Or.inl ⟨by rfl, ?_⟩) (by assumption) ?_
          rotate_left
          · intro ws hSw; obtain ⟨⟨s0, s1, s2⟩, sB⟩ := hSw; go_simp; with_reducible rfl
          try simp only [Act.put, List.setIfInBounds_toArray, List.set_cons_zero, List.set_cons_succ]
          refine takeL 5 (.int .i64 (i : Int)) rfl (by kernel_rfl) (by kernel_rfl) (by kernel_rfl) (fun _ _ _ h => h) (Or.inl ⟨by rfl, ?_⟩) (by assumption) ?_
          · intro ws hSw; obtain ⟨⟨s0, s1, s2⟩, sB⟩ := hSw; have td := TD.out; go_simp
          try simp only [Act.put, List.setIfInBounds_toArray, List.set_cons_zero, List.set_cons_succ]
          refine takeL 6 (.pointer (some ⟨b, o + i, none⟩)) rfl (by kernel_rfl) (by kernel_rfl) (by kernel_rfl) (fun _ _ _ h => h) (Or.inl ⟨by rfl, ?_⟩) (by assumption) ?_
          · intro ws hSw; obtain ⟨⟨s0, s1, s2⟩, sB⟩ := hSw; have hik := HIK.out; go_simp
          try simp only [Act.put, List.setIfInBounds_toArray, List.set_cons_zero, List.set_cons_succ]
          refine takeL 7 (.int .i64 Z) rfl (by kernel_rfl) (by kernel_rfl) (by kernel_rfl) (fun _ _ _ h => h) (Or.inl ⟨by rfl, ?_⟩) (by assumption) ?_
          · intro ws hSw; obtain ⟨⟨s0, s1, s2⟩, sB⟩ := hSw; have e := (sB.cell (p := ⟨b, o + i, none⟩) hbl).trans hq; go_simp
          try simp only [Act.put, List.setIfInBounds_toArray, List.set_cons_zero, List.set_cons_succ]
          refine takeL 8 (?_) rfl (by kernel_rfl) (by kernel_rfl) (by kernel_rfl) (fun _ _ _ h => h) (Or.inl ⟨by rfl, ?_⟩) (by assumption) ?_
          rotate_left
          · intro ws hSw; obtain ⟨⟨s0, s1, s2⟩, sB⟩ := hSw; go_simp; with_reducible rfl
          try simp only [Act.put, List.setIfInBounds_toArray, List.set_cons_zero, List.set_cons_succ]
          refine takeL 9 (.agg #[.bool (neg (B).num), .slice ahAU nhAU chAU, .slice ahAD nhAD chAD]) rfl (by kernel_rfl) (by kernel_rfl) (by kernel_rfl) (fun _ _ _ h => h) (Or.inl ⟨by rfl, ?_⟩) (by assumption) ?_
          · intro ws hSw; obtain ⟨⟨s0, s1, s2⟩, sB⟩ := hSw; go_simp
          try simp only [Act.put, List.setIfInBounds_toArray, List.set_cons_zero, List.set_cons_succ]
          refine wpAnyH_ready (rs := [10]) (by kernel_rfl) (by simp) ?_
          refine consL rfl (fun K hK => ?_) AllReadyH.nil
          go_simp
          have hS := hHeld
          with_reducible refine (near13_yes Z sc (hAU.past hS.2).toNatAt (hAD.past hS.2).toNatAt LB.out hs2b HZB.out HZD.out).mono ?_
          rintro e w6 ⟨rfl, hbw6⟩
          refine hK.out _ _ ⟨⟨((below_later hS.2 hbw6).cell (p := ⟨Bboth, 0, none⟩) lboth).trans qboth0, ((below_later hS.2 hbw6).cell (p := ⟨Bboth, 1, none⟩) lboth).trans qboth1, ((below_later hS.2 hbw6).cell (p := ⟨Bboth, 2, none⟩) lboth).trans qboth2⟩, below_later hS.2 hbw6⟩ (fun hHeld => ?_)
          clear hK K hS
          try simp only [Act.put, List.setIfInBounds_toArray, List.set_cons_zero, List.set_cons_succ]
          refine takeL 11 (?_) rfl (by kernel_rfl) (by kernel_rfl) (by kernel_rfl) (fun _ _ _ h => h) (Or.inl ⟨by rfl, ?_⟩) (by assumption) ?_
          rotate_left
          · intro ws hSw; obtain ⟨⟨s0, s1, s2⟩, sB⟩ := hSw; go_simp; with_reducible rfl
          try simp only [Act.put, List.setIfInBounds_toArray, List.set_cons_zero, List.set_cons_succ]
          refine takeL 12 (?_) rfl (by kernel_rfl) (by kernel_rfl) (by kernel_rfl) (fun _ _ _ h => h) (Or.inl ⟨by rfl, ?_⟩) (by assumption) ?_
          rotate_left
          · intro ws hSw; obtain ⟨⟨s0, s1, s2⟩, sB⟩ := hSw; go_simp; with_reducible rfl
          try simp only [Act.put, List.setIfInBounds_toArray, List.set_cons_zero, List.set_cons_succ]
          refine wpAnyH_done (by kernel_rfl) ?_ _
          have hbR := hHeld.2
          have h1 := h1.past hbR
          have hAU := hAU.past hbR
          have hAD := hAD.past hbR
          have qboth0 := bq hbR lboth qboth0; have qboth1 := bq hbR lboth qboth1; have qboth2 := bq hbR lboth qboth2
          have lboth := bl hbR lboth
          have hB := below_later hB hbR
          have hZ := below_later hZ hbR
          clear hHeld hbR
          go_wp2
          go_roundw
          case rel => exact ⟨d + 1, by omega, by omega, by go_num, h1, hB⟩
          case measure => simp [intOf]; omega
        · rw [if_neg hc1] at hsv
          by_cases hc2 : d = sp
          · rw [if_pos hc2] at hsv
            have HQS := Lib.hid hsv.symm
            subst hc2
            clear hsv
            have hws := hB.size
            have hZ := Below.refl wr.heap.size wr
            have zB := hB
            have zh1 := h1
            go_wp2_with fail
            with_reducible refine (part13_zero _).mono ?_
            rintro e w1 ⟨ah0U, nh0U, ch0U, ah0D, nh0D, ch0D, rfl, h0U, h0D, hb⟩
            have h0U := h0U.mono hZ.size
            have h0D := h0D.mono hZ.size
            have h1 := h1.past hb
            have hB := below_later hB hb
            have hZ := below_later hZ hb
            clear hb
            obtain ⟨Z0, hZ0⟩ : ∃ Z0, (0 : Rat) = Z0 := ⟨_, rfl⟩
            rw [hZ0] at h0U h0D ⊢
            have HZ0 := Lib.hid hZ0
            clear hZ0
            go_wp2_with fail
            obtain ⟨w2, hW, hz0, hb, q, f⟩ := box1g w1 (w1.heap.size) (by omega) #[.bool (neg Z0.num), .slice ah0U nh0U ch0U, .slice ah0D nh0D ch0D] 36
            have gmore : wr.heap.size ≤ w1.heap.size := by have := hZ.size; omega
            rw [hW]
            clear hW
            have h1 := h1.past hb
            have h0U := h0U.past hb
            have h0D := h0D.past hb
            have hB := below_later hB hb
            have hZ := below_later hZ hb
            clear hb
            have lmore : w1.heap.size < w2.heap.size := by omega
            have qmore0 := q 0; have qmore1 := q 1; have qmore2 := q 2
            simp only [List.getElem?_toArray, List.getElem?_cons_zero, List.getElem?_cons_succ] at qmore0 qmore1 qmore2
            have xmore : BoxAt w2 (w1.heap.size) 3 := BoxAt.of q f rfl (by simp [notU_bool, notU_slice, notU_i64])
            clear q f
            clear hz0
            with_reducible refine (part13_hund (HM.out.trans HQS.out) _ HMB.out).mono ?_
            rintro e w3 ⟨ahSU, nhSU, chSU, ahSD, nhSD, chSD, rfl, hSU, hSD, hb⟩
            have hSU := hSU.mono hZ.size
            have hSD := hSD.mono hZ.size
            have h1 := h1.past hb
            have h0U := h0U.past hb
            have h0D := h0D.past hb
            have qmore0 := bq hb lmore qmore0; have qmore1 := bq hb lmore qmore1; have qmore2 := bq hb lmore qmore2
            have xmore := xmore.past hb lmore
            have lmore := bl hb lmore
            have hB := below_later hB hb
            have hZ := below_later hZ hb
            clear hb
            have zf0 := xmore.f 0 (by decide)
            have zf1 := xmore.f 1 (by decide)
            have zf2 := xmore.f 2 (by decide)
            go_wp2_with fail
            obtain ⟨w4, hW, hO, qN0, qN1, qN2, xN⟩ := store3 xmore (.bool (neg (S).num)) (.slice ahSU nhSU chSU) (.slice ahSD nhSD chSD) (nu rfl) (nu rfl) (nu rfl)
            try rw [hW]
            clear hW
            have hSU := hO.own hSU
            have hSD := hO.own hSD
            have lmore : w1.heap.size < w4.heap.size := by rw [hO.size]; exact lmore
            have qmore0 := qN0
            have qmore1 := qN1
            have qmore2 := qN2
            have xmore := xN
            have hB := hO.below (by omega) hB
            have hZ := hO.below (by omega) hZ
            clear hO qN0 qN1 qN2 xN zf0 zf1 zf2
            have h1 := zh1.past hZ
            have hB := below_later zB hZ
            go_wp2_with fail
            refine wp_region_invA (by kernel_rfl) rfl (by kernel_rfl) (fun A0 V0 dd aa ww => ∃ (blk : Nat → Nat) (y73 y74 y75 y76 y77 y78 y72 y79 y80 y14 y15 : Value), aa = puts A0 [(73, y73), (74, y74), (75, y75), (76, y76), (77, y77), (78, y78), (72, y72), (79, y79), (80, y80), (14, y14), (15, y15)] ∧ Below V0.heap.size V0 ww ∧ Boxes [(9, 3)] V0.heap.size dd blk ww ∧ Shut (dd 0 = true → y73 = .int .i64 (kN : Int)) ∧ Shut (dd 1 = true → y74 = .int .i64 (d : Int)) ∧ Shut (dd 2 = true → RatV V0.heap.size (I) y75 ww) ∧ Shut (dd 3 = true → y76 = .agg #[.bool (neg (S).num), .slice ahSU nhSU chSU, .slice ahSD nhSD chSD]) ∧ Shut (dd 4 = true → dd 5 = false → LstV V0.heap.size 2 ([y75, y76].flatMap cellsOf) y77 ww) ∧ Shut (dd 5 = true → OkV V0.heap.size (B) y78 ww) ∧ Shut (dd 6 = true → y72 = y78) ∧ Shut (dd 7 = true → y79 = part 0 y72) ∧ Shut (dd 8 = true → y80 = part 1 y72) ∧ Shut (dd 9 = true → y14 = .pointer (some ⟨blk 9, 0, none⟩)) ∧ Shut (dd 10 = true → HoldsV dd 9 7 (blk 9) y79 ww) ∧ Shut (dd 11 = true → y15 = y80) ∧ True) ?_ ?_ ?_
            · exact ⟨fun _ => 0, _, _, _, _, _, _, _, _, _, _, _, puts_self _ [73, 74, 75, 76, 77, 78, 72, 79, 80, 14, 15], (Below.refl _ _).drew, Boxes.none _ _ _ _, fun h => (by cases h), fun h => (by cases h), fun h => (by cases h), fun h => (by cases h), fun h => (by cases h), fun h => (by cases h), fun h => (by cases h), fun h => (by cases h), fun h => (by cases h), fun h => (by cases h), fun h => (by cases h), fun h => (by cases h), trivial⟩
            · refine Steps.cons ?_ (Steps.cons ?_ (Steps.cons ?_ (Steps.cons ?_ (Steps.cons ?_ (Steps.cons ?_ (Steps.cons ?_ (Steps.cons ?_ (Steps.cons ?_ (Steps.cons ?_ (Steps.cons ?_ (Steps.cons ?_ (Steps.nil))))))))))))
              · intro dd aa ww K hc hun hn hI hK
                obtain ⟨blk, y73, y74, y75, y76, y77, y78, y72, y79, y80, y14, y15, ea, hb, hX, f0, f1, f2, f3, f4, f5, f6, f7, f8, f9, f10, f11, _⟩ := hI
                try simp [Region.binds] at hn
                subst ea
                simp only [puts, Act.put, List.setIfInBounds_toArray, List.set_cons_zero, List.set_cons_succ]
                go_simp
                refine hK.out _ _ ?_
                exact ⟨blk, .int .i64 (kN : Int), y74, y75, y76, y77, y78, y72, y79, y80, y14, y15, by simp only [puts, Act.put, List.setIfInBounds_toArray, List.set_cons_zero, List.set_cons_succ], hb, hX.same 0 rfl, fun _ => rfl, fun h => (f1.out (upd_of rfl h)), fun h => (f2.out (upd_of rfl h)), fun h => (f3.out (upd_of rfl h)), fun h h2 => ((f4.out (upd_of rfl h)) (upd_off h2)), fun h => (f5.out (upd_of rfl h)), fun h => (f6.out (upd_of rfl h)), fun h => (f7.out (upd_of rfl h)), fun h => (f8.out (upd_of rfl h)), fun h => (f9.out (upd_of rfl h)), fun h => (f10.out (upd_of rfl h)).same 0, fun h => (f11.out (upd_of rfl h)), trivial⟩
              · intro dd aa ww K hc hun hn hI hK
                obtain ⟨blk, y73, y74, y75, y76, y77, y78, y72, y79, y80, y14, y15, ea, hb, hX, f0, f1, f2, f3, f4, f5, f6, f7, f8, f9, f10, f11, _⟩ := hI
                try simp [Region.binds] at hn
                subst ea
                simp only [puts, Act.put, List.setIfInBounds_toArray, List.set_cons_zero, List.set_cons_succ]
                go_simp
                refine hK.out _ _ ?_
                exact ⟨blk, y73, .int .i64 (d : Int), y75, y76, y77, y78, y72, y79, y80, y14, y15, by simp only [puts, Act.put, List.setIfInBounds_toArray, List.set_cons_zero, List.set_cons_succ], hb, hX.same 1 rfl, fun h => (f0.out (upd_of rfl h)), fun _ => rfl, fun h => (f2.out (upd_of rfl h)), fun h => (f3.out (upd_of rfl h)), fun h h2 => ((f4.out (upd_of rfl h)) (upd_off h2)), fun h => (f5.out (upd_of rfl h)), fun h => (f6.out (upd_of rfl h)), fun h => (f7.out (upd_of rfl h)), fun h => (f8.out (upd_of rfl h)), fun h => (f9.out (upd_of rfl h)), fun h => (f10.out (upd_of rfl h)).same 1, fun h => (f11.out (upd_of rfl h)), trivial⟩
              · intro dd aa ww K hc hun hn hI hK
                obtain ⟨blk, y73, y74, y75, y76, y77, y78, y72, y79, y80, y14, y15, ea, hb, hX, f0, f1, f2, f3, f4, f5, f6, f7, f8, f9, f10, f11, _⟩ := hI
                try simp [Region.binds] at hn
                have ex := f0.out (by first | (simp [hn]; done) | exact hc.reach (f := 8) (by decide +kernel) hn | exact hc.reach (f := 8) (by decide +kernel) hn.1 | exact hc.reach (f := 8) (by decide +kernel) hn.2 | exact hc.reach (f := 8) (by decide +kernel) hn.2.1 | exact hc.reach (f := 8) (by decide +kernel) hn.2.2 | exact hc.reach (f := 8) (by decide +kernel) hn.2.2.1 | exact hc.reach (f := 8) (by decide +kernel) hn.2.2.2)
                subst ex
                have ex := f1.out (by first | (simp [hn]; done) | exact hc.reach (f := 8) (by decide +kernel) hn | exact hc.reach (f := 8) (by decide +kernel) hn.1 | exact hc.reach (f := 8) (by decide +kernel) hn.2 | exact hc.reach (f := 8) (by decide +kernel) hn.2.1 | exact hc.reach (f := 8) (by decide +kernel) hn.2.2 | exact hc.reach (f := 8) (by decide +kernel) hn.2.2.1 | exact hc.reach (f := 8) (by decide +kernel) hn.2.2.2)
                subst ex
                subst ea
                simp only [puts, Act.put, List.setIfInBounds_toArray, List.set_cons_zero, List.set_cons_succ]
                go_simp
                with_reducible refine (HID.out _).mono ?_
                rintro e w1 ⟨ahIU, nhIU, chIU, ahID, nhID, chID, rfl, hIU, hID, h1⟩
                refine hK.out _ _ ?_
                exact ⟨blk, .int .i64 (kN : Int), .int .i64 (d : Int), .agg #[.bool (neg (I).num), .slice ahIU nhIU chIU, .slice ahID nhID chID], y76, y77, y78, y72, y79, y80, y14, y15, by simp only [puts, Act.put, List.setIfInBounds_toArray, List.set_cons_zero, List.set_cons_succ], below_later hb h1, hX.past h1 2 rfl, fun h => rfl, fun h => rfl, fun _ => ⟨_, _, _, _, _, _, rfl, hIU.mono hb.size, hID.mono hb.size⟩, fun h => (f3.out (upd_of rfl h)), fun h => absurd (hc.reach (f := 8) (s := 4) (l := 2) (by kernel_rfl) (upd_of rfl h)) (by rw [hun]; decide), fun h => (f5.out (upd_of rfl h)).past h1, fun h => (f6.out (upd_of rfl h)), fun h => (f7.out (upd_of rfl h)), fun h => (f8.out (upd_of rfl h)), fun h => (f9.out (upd_of rfl h)), fun h => (f10.out (upd_of rfl h)).past h1 2, fun h => (f11.out (upd_of rfl h)), trivial⟩
              · intro dd aa ww K hc hun hn hI hK
                obtain ⟨blk, y73, y74, y75, y76, y77, y78, y72, y79, y80, y14, y15, ea, hb, hX, f0, f1, f2, f3, f4, f5, f6, f7, f8, f9, f10, f11, _⟩ := hI
                try simp [Region.binds] at hn
                have e0 := (hb.cell (p := ⟨w1.heap.size, 0, none⟩) lmore).trans qmore0
                have e1 := (hb.cell (p := ⟨w1.heap.size, 1, none⟩) lmore).trans qmore1
                have e2 := (hb.cell (p := ⟨w1.heap.size, 2, none⟩) lmore).trans qmore2
                subst ea
                simp only [puts, Act.put, List.setIfInBounds_toArray, List.set_cons_zero, List.set_cons_succ]
                go_simp
                refine hK.out _ _ ?_
                exact ⟨blk, y73, y74, y75, .agg #[.bool (neg (S).num), .slice ahSU nhSU chSU, .slice ahSD nhSD chSD], y77, y78, y72, y79, y80, y14, y15, by simp only [puts, Act.put, List.setIfInBounds_toArray, List.set_cons_zero, List.set_cons_succ], hb, hX.same 3 rfl, fun h => (f0.out (upd_of rfl h)), fun h => (f1.out (upd_of rfl h)), fun h => (f2.out (upd_of rfl h)), fun _ => rfl, fun h => absurd (hc.reach (f := 8) (s := 4) (l := 3) (by kernel_rfl) (upd_of rfl h)) (by rw [hun]; decide), fun h => (f5.out (upd_of rfl h)), fun h => (f6.out (upd_of rfl h)), fun h => (f7.out (upd_of rfl h)), fun h => (f8.out (upd_of rfl h)), fun h => (f9.out (upd_of rfl h)), fun h => (f10.out (upd_of rfl h)).same 3, fun h => (f11.out (upd_of rfl h)), trivial⟩
              · intro dd aa ww K hc hun hn hI hK
                obtain ⟨blk, y73, y74, y75, y76, y77, y78, y72, y79, y80, y14, y15, ea, hb, hX, f0, f1, f2, f3, f4, f5, f6, f7, f8, f9, f10, f11, _⟩ := hI
                try simp [Region.binds] at hn
                obtain ⟨ahIU, nhIU, chIU, ahID, nhID, chID, ex, hIU, hID⟩ := f2.out (by first | (simp [hn]; done) | exact hc.reach (f := 8) (by decide +kernel) hn | exact hc.reach (f := 8) (by decide +kernel) hn.1 | exact hc.reach (f := 8) (by decide +kernel) hn.2 | exact hc.reach (f := 8) (by decide +kernel) hn.2.1 | exact hc.reach (f := 8) (by decide +kernel) hn.2.2 | exact hc.reach (f := 8) (by decide +kernel) hn.2.2.1 | exact hc.reach (f := 8) (by decide +kernel) hn.2.2.2)
                subst ex
                have ex := f3.out (by first | (simp [hn]; done) | exact hc.reach (f := 8) (by decide +kernel) hn | exact hc.reach (f := 8) (by decide +kernel) hn.1 | exact hc.reach (f := 8) (by decide +kernel) hn.2 | exact hc.reach (f := 8) (by decide +kernel) hn.2.1 | exact hc.reach (f := 8) (by decide +kernel) hn.2.2 | exact hc.reach (f := 8) (by decide +kernel) hn.2.2.1 | exact hc.reach (f := 8) (by decide +kernel) hn.2.2.2)
                subst ex
                subst ea
                simp only [puts, Act.put, List.setIfInBounds_toArray, List.set_cons_zero, List.set_cons_succ]
                go_simp
                refine hK.out _ _ ?_
                exact ⟨blk, y73, y74, .agg #[.bool (neg (I).num), .slice ahIU nhIU chIU, .slice ahID nhID chID], .agg #[.bool (neg (S).num), .slice ahSU nhSU chSU, .slice ahSD nhSD chSD], .slice (some ⟨ww.heap.size, 0, none⟩) 2 2, y78, y72, y79, y80, y14, y15, by simp only [puts, Act.put, List.setIfInBounds_toArray, List.set_cons_zero, List.set_cons_succ], below_alloc hb _, hX.past ((Below.refl _ _).alloc (Nat.le_refl _) _) 4 rfl, fun h => (f0.out (upd_of rfl h)), fun h => (f1.out (upd_of rfl h)), fun h => (f2.out (upd_of rfl h)).past ((Below.refl _ _).alloc (Nat.le_refl _) _), fun h => rfl, fun _ _ => LstV.new hb.size _ _, fun h => (f5.out (upd_of rfl h)).past ((Below.refl _ _).alloc (Nat.le_refl _) _), fun h => (f6.out (upd_of rfl h)), fun h => (f7.out (upd_of rfl h)), fun h => (f8.out (upd_of rfl h)), fun h => (f9.out (upd_of rfl h)), fun h => (f10.out (upd_of rfl h)).past ((Below.refl _ _).alloc (Nat.le_refl _) _) 4, fun h => (f11.out (upd_of rfl h)), trivial⟩
              · intro dd aa ww K hc hun hn hI hK
                obtain ⟨blk, y73, y74, y75, y76, y77, y78, y72, y79, y80, y14, y15, ea, hb, hX, f0, f1, f2, f3, f4, f5, f6, f7, f8, f9, f10, f11, _⟩ := hI
                try simp [Region.binds] at hn
                obtain ⟨ahIU, nhIU, chIU, ahID, nhID, chID, ex, hIU, hID⟩ := f2.out (by first | (simp [hn]; done) | exact hc.reach (f := 8) (by decide +kernel) hn | exact hc.reach (f := 8) (by decide +kernel) hn.1 | exact hc.reach (f := 8) (by decide +kernel) hn.2 | exact hc.reach (f := 8) (by decide +kernel) hn.2.1 | exact hc.reach (f := 8) (by decide +kernel) hn.2.2 | exact hc.reach (f := 8) (by decide +kernel) hn.2.2.1 | exact hc.reach (f := 8) (by decide +kernel) hn.2.2.2)
                subst ex
                have ex := f3.out (by first | (simp [hn]; done) | exact hc.reach (f := 8) (by decide +kernel) hn | exact hc.reach (f := 8) (by decide +kernel) hn.1 | exact hc.reach (f := 8) (by decide +kernel) hn.2 | exact hc.reach (f := 8) (by decide +kernel) hn.2.1 | exact hc.reach (f := 8) (by decide +kernel) hn.2.2 | exact hc.reach (f := 8) (by decide +kernel) hn.2.2.1 | exact hc.reach (f := 8) (by decide +kernel) hn.2.2.2)
                subst ex
                obtain ⟨G4, ex, hg1, hg2, hg3⟩ := f4.out (by first | (simp [hn]; done) | exact hc.reach (f := 8) (by decide +kernel) hn | exact hc.reach (f := 8) (by decide +kernel) hn.1 | exact hc.reach (f := 8) (by decide +kernel) hn.2 | exact hc.reach (f := 8) (by decide +kernel) hn.2.1 | exact hc.reach (f := 8) (by decide +kernel) hn.2.2 | exact hc.reach (f := 8) (by decide +kernel) hn.2.2.1 | exact hc.reach (f := 8) (by decide +kernel) hn.2.2.2) hun
                subst ex
                have z0 := hg3 0 (by simp [cellsOf])
                have z1 := hg3 1 (by simp [cellsOf])
                have z2 := hg3 2 (by simp [cellsOf])
                have z3 := hg3 3 (by simp [cellsOf])
                have z4 := hg3 4 (by simp [cellsOf])
                have z5 := hg3 5 (by simp [cellsOf])
                simp only [List.flatMap_cons, List.flatMap_nil, cellsOf, List.cons_append, List.nil_append, List.append_nil, List.getElem?_cons_zero, List.getElem?_cons_succ] at z0 z1 z2 z3 z4 z5
                subst ea
                simp only [puts, Act.put, List.setIfInBounds_toArray, List.set_cons_zero, List.set_cons_succ]
                go_simp
                with_reducible refine (add_two (RatsAt.two hg2 z0 z1 z2 z3 z4 z5 hIU.toNatAt hID.toNatAt (hSU.past hb).toNatAt (hSD.past hb).toNatAt) LI.out LS.out).mono ?_
                rintro e w1 ⟨ahAU, nhAU, chAU, ahAD, nhAD, chAD, rfl, hAU, hAD, h1⟩
                rw [HBB.out] at hAU hAD ⊢
                refine hK.out _ _ ?_
                exact ⟨blk, y73, y74, .agg #[.bool (neg (I).num), .slice ahIU nhIU chIU, .slice ahID nhID chID], .agg #[.bool (neg (S).num), .slice ahSU nhSU chSU, .slice ahSD nhSD chSD], .slice (some ⟨G4, 0, none⟩) 2 2, .tuple #[.agg #[.bool (neg (B).num), .slice ahAU nhAU chAU, .slice ahAD nhAD chAD], .int .i64 0], y72, y79, y80, y14, y15, by simp only [puts, Act.put, List.setIfInBounds_toArray, List.set_cons_zero, List.set_cons_succ], below_later hb h1, hX.past h1 5 rfl, fun h => (f0.out (upd_of rfl h)), fun h => (f1.out (upd_of rfl h)), fun h => (f2.out (upd_of rfl h)).past h1, fun h => rfl, fun _ h2 => absurd h2 (by simp [upd]), fun _ => ⟨_, _, _, _, _, _, rfl, hAU.mono hb.size, hAD.mono hb.size⟩, fun h => absurd (hc.reach (f := 8) (s := 6) (l := 5) (by kernel_rfl) (upd_of rfl h)) (by rw [hun]; decide), fun h => (f7.out (upd_of rfl h)), fun h => (f8.out (upd_of rfl h)), fun h => (f9.out (upd_of rfl h)), fun h => (f10.out (upd_of rfl h)).past h1 5, fun h => (f11.out (upd_of rfl h)), trivial⟩
              · intro dd aa ww K hc hun hn hI hK
                obtain ⟨blk, y73, y74, y75, y76, y77, y78, y72, y79, y80, y14, y15, ea, hb, hX, f0, f1, f2, f3, f4, f5, f6, f7, f8, f9, f10, f11, _⟩ := hI
                try simp [Region.binds] at hn
                obtain ⟨ahAU, nhAU, chAU, ahAD, nhAD, chAD, ex, hAU, hAD⟩ := f5.out (by first | (simp [hn]; done) | exact hc.reach (f := 8) (by decide +kernel) hn | exact hc.reach (f := 8) (by decide +kernel) hn.1 | exact hc.reach (f := 8) (by decide +kernel) hn.2 | exact hc.reach (f := 8) (by decide +kernel) hn.2.1 | exact hc.reach (f := 8) (by decide +kernel) hn.2.2 | exact hc.reach (f := 8) (by decide +kernel) hn.2.2.1 | exact hc.reach (f := 8) (by decide +kernel) hn.2.2.2)
                subst ex
                subst ea
                simp only [puts, Act.put, List.setIfInBounds_toArray, List.set_cons_zero, List.set_cons_succ]
                go_simp
                refine hK.out _ _ ?_
                exact ⟨blk, y73, y74, y75, y76, y77, .tuple #[.agg #[.bool (neg (B).num), .slice ahAU nhAU chAU, .slice ahAD nhAD chAD], .int .i64 0], .tuple #[.agg #[.bool (neg (B).num), .slice ahAU nhAU chAU, .slice ahAD nhAD chAD], .int .i64 0], y79, y80, y14, y15, by simp only [puts, Act.put, List.setIfInBounds_toArray, List.set_cons_zero, List.set_cons_succ], hb, hX.same 6 rfl, fun h => (f0.out (upd_of rfl h)), fun h => (f1.out (upd_of rfl h)), fun h => (f2.out (upd_of rfl h)), fun h => (f3.out (upd_of rfl h)), fun _ h2 => absurd (show dd 5 = true from (by first | (simp [hn]; done) | exact hc.reach (f := 8) (by decide +kernel) hn | exact hc.reach (f := 8) (by decide +kernel) hn.1 | exact hc.reach (f := 8) (by decide +kernel) hn.2 | exact hc.reach (f := 8) (by decide +kernel) hn.2.1 | exact hc.reach (f := 8) (by decide +kernel) hn.2.2 | exact hc.reach (f := 8) (by decide +kernel) hn.2.2.1 | exact hc.reach (f := 8) (by decide +kernel) hn.2.2.2)) (by rw [upd_off h2]; decide), fun h => (f5.out (upd_of rfl h)), fun _ => rfl, fun h => absurd (hc.reach (f := 8) (s := 7) (l := 6) (by kernel_rfl) (upd_of rfl h)) (by rw [hun]; decide), fun h => absurd (hc.reach (f := 8) (s := 8) (l := 6) (by kernel_rfl) (upd_of rfl h)) (by rw [hun]; decide), fun h => (f9.out (upd_of rfl h)), fun h => (f10.out (upd_of rfl h)).same 6, fun h => (f11.out (upd_of rfl h)), trivial⟩
              · intro dd aa ww K hc hun hn hI hK
                obtain ⟨blk, y73, y74, y75, y76, y77, y78, y72, y79, y80, y14, y15, ea, hb, hX, f0, f1, f2, f3, f4, f5, f6, f7, f8, f9, f10, f11, _⟩ := hI
                try simp [Region.binds] at hn
                obtain ⟨ahAU, nhAU, chAU, ahAD, nhAD, chAD, ex, hAU, hAD⟩ := f5.out (by first | (simp [hn]; done) | exact hc.reach (f := 8) (by decide +kernel) hn | exact hc.reach (f := 8) (by decide +kernel) hn.1 | exact hc.reach (f := 8) (by decide +kernel) hn.2 | exact hc.reach (f := 8) (by decide +kernel) hn.2.1 | exact hc.reach (f := 8) (by decide +kernel) hn.2.2 | exact hc.reach (f := 8) (by decide +kernel) hn.2.2.1 | exact hc.reach (f := 8) (by decide +kernel) hn.2.2.2)
                subst ex
                have ex : y72 = .tuple #[.agg #[.bool (neg (B).num), .slice ahAU nhAU chAU, .slice ahAD nhAD chAD], .int .i64 0] := f6.out (by first | (simp [hn]; done) | exact hc.reach (f := 8) (by decide +kernel) hn | exact hc.reach (f := 8) (by decide +kernel) hn.1 | exact hc.reach (f := 8) (by decide +kernel) hn.2 | exact hc.reach (f := 8) (by decide +kernel) hn.2.1 | exact hc.reach (f := 8) (by decide +kernel) hn.2.2 | exact hc.reach (f := 8) (by decide +kernel) hn.2.2.1 | exact hc.reach (f := 8) (by decide +kernel) hn.2.2.2)
                subst ex
                subst ea
                simp only [puts, Act.put, List.setIfInBounds_toArray, List.set_cons_zero, List.set_cons_succ]
                go_simp
                refine hK.out _ _ ?_
                exact ⟨blk, y73, y74, y75, y76, y77, .tuple #[.agg #[.bool (neg (B).num), .slice ahAU nhAU chAU, .slice ahAD nhAD chAD], .int .i64 0], .tuple #[.agg #[.bool (neg (B).num), .slice ahAU nhAU chAU, .slice ahAD nhAD chAD], .int .i64 0], .agg #[.bool (neg (B).num), .slice ahAU nhAU chAU, .slice ahAD nhAD chAD], y80, y14, y15, by simp only [puts, Act.put, List.setIfInBounds_toArray, List.set_cons_zero, List.set_cons_succ], hb, hX.same 7 rfl, fun h => (f0.out (upd_of rfl h)), fun h => (f1.out (upd_of rfl h)), fun h => (f2.out (upd_of rfl h)), fun h => (f3.out (upd_of rfl h)), fun _ h2 => absurd (show dd 5 = true from (by first | (simp [hn]; done) | exact hc.reach (f := 8) (by decide +kernel) hn | exact hc.reach (f := 8) (by decide +kernel) hn.1 | exact hc.reach (f := 8) (by decide +kernel) hn.2 | exact hc.reach (f := 8) (by decide +kernel) hn.2.1 | exact hc.reach (f := 8) (by decide +kernel) hn.2.2 | exact hc.reach (f := 8) (by decide +kernel) hn.2.2.1 | exact hc.reach (f := 8) (by decide +kernel) hn.2.2.2)) (by rw [upd_off h2]; decide), fun h => (f5.out (upd_of rfl h)), fun h => rfl, fun _ => rfl, fun h => (f8.out (upd_of rfl h)), fun h => (f9.out (upd_of rfl h)), fun h => absurd (HoldsV.vp (f10.out (upd_of rfl h))) (by rw [hun]; decide), fun h => (f11.out (upd_of rfl h)), trivial⟩
              · intro dd aa ww K hc hun hn hI hK
                obtain ⟨blk, y73, y74, y75, y76, y77, y78, y72, y79, y80, y14, y15, ea, hb, hX, f0, f1, f2, f3, f4, f5, f6, f7, f8, f9, f10, f11, _⟩ := hI
                try simp [Region.binds] at hn
                obtain ⟨ahAU, nhAU, chAU, ahAD, nhAD, chAD, ex, hAU, hAD⟩ := f5.out (by first | (simp [hn]; done) | exact hc.reach (f := 8) (by decide +kernel) hn | exact hc.reach (f := 8) (by decide +kernel) hn.1 | exact hc.reach (f := 8) (by decide +kernel) hn.2 | exact hc.reach (f := 8) (by decide +kernel) hn.2.1 | exact hc.reach (f := 8) (by decide +kernel) hn.2.2 | exact hc.reach (f := 8) (by decide +kernel) hn.2.2.1 | exact hc.reach (f := 8) (by decide +kernel) hn.2.2.2)
                subst ex
                have ex : y72 = .tuple #[.agg #[.bool (neg (B).num), .slice ahAU nhAU chAU, .slice ahAD nhAD chAD], .int .i64 0] := f6.out (by first | (simp [hn]; done) | exact hc.reach (f := 8) (by decide +kernel) hn | exact hc.reach (f := 8) (by decide +kernel) hn.1 | exact hc.reach (f := 8) (by decide +kernel) hn.2 | exact hc.reach (f := 8) (by decide +kernel) hn.2.1 | exact hc.reach (f := 8) (by decide +kernel) hn.2.2 | exact hc.reach (f := 8) (by decide +kernel) hn.2.2.1 | exact hc.reach (f := 8) (by decide +kernel) hn.2.2.2)
                subst ex
                subst ea
                simp only [puts, Act.put, List.setIfInBounds_toArray, List.set_cons_zero, List.set_cons_succ]
                go_simp
                refine hK.out _ _ ?_
                exact ⟨blk, y73, y74, y75, y76, y77, .tuple #[.agg #[.bool (neg (B).num), .slice ahAU nhAU chAU, .slice ahAD nhAD chAD], .int .i64 0], .tuple #[.agg #[.bool (neg (B).num), .slice ahAU nhAU chAU, .slice ahAD nhAD chAD], .int .i64 0], y79, .int .i64 0, y14, y15, by simp only [puts, Act.put, List.setIfInBounds_toArray, List.set_cons_zero, List.set_cons_succ], hb, hX.same 8 rfl, fun h => (f0.out (upd_of rfl h)), fun h => (f1.out (upd_of rfl h)), fun h => (f2.out (upd_of rfl h)), fun h => (f3.out (upd_of rfl h)), fun _ h2 => absurd (show dd 5 = true from (by first | (simp [hn]; done) | exact hc.reach (f := 8) (by decide +kernel) hn | exact hc.reach (f := 8) (by decide +kernel) hn.1 | exact hc.reach (f := 8) (by decide +kernel) hn.2 | exact hc.reach (f := 8) (by decide +kernel) hn.2.1 | exact hc.reach (f := 8) (by decide +kernel) hn.2.2 | exact hc.reach (f := 8) (by decide +kernel) hn.2.2.1 | exact hc.reach (f := 8) (by decide +kernel) hn.2.2.2)) (by rw [upd_off h2]; decide), fun h => (f5.out (upd_of rfl h)), fun h => rfl, fun h => (f7.out (upd_of rfl h)), fun _ => rfl, fun h => (f9.out (upd_of rfl h)), fun h => (f10.out (upd_of rfl h)).same 8, fun h => absurd (hc.reach (f := 8) (s := 11) (l := 8) (by kernel_rfl) (upd_of rfl h)) (by rw [hun]; decide), trivial⟩
              · intro dd aa ww K hc hun hn hI hK
                obtain ⟨blk, y73, y74, y75, y76, y77, y78, y72, y79, y80, y14, y15, ea, hb, hX, f0, f1, f2, f3, f4, f5, f6, f7, f8, f9, f10, f11, _⟩ := hI
                try simp [Region.binds] at hn
                subst ea
                simp only [puts, Act.put, List.setIfInBounds_toArray, List.set_cons_zero, List.set_cons_succ]
                go_simp
                refine hK.out _ _ ?_
                exact ⟨setB blk 9 ww.heap.size, y73, y74, y75, y76, y77, y78, y72, y79, y80, .pointer (some ⟨ww.heap.size, 0, none⟩), y15, by simp only [puts, Act.put, List.setIfInBounds_toArray, List.set_cons_zero, List.set_cons_succ], below_alloc hb _, hX.new hb.size 9 #[.bool false, .slice none 0 0, .slice none 0 0] _ rfl (by simp [notU_bool, notU_slice, notU_i64]), fun h => (f0.out (upd_of rfl h)), fun h => (f1.out (upd_of rfl h)), fun h => (f2.out (upd_of rfl h)).past ((Below.refl _ _).alloc (Nat.le_refl _) _), fun h => (f3.out (upd_of rfl h)), fun h h2 => ((f4.out (upd_of rfl h)) (upd_off h2)).past ((Below.refl _ _).alloc (Nat.le_refl _) _), fun h => (f5.out (upd_of rfl h)).past ((Below.refl _ _).alloc (Nat.le_refl _) _), fun h => (f6.out (upd_of rfl h)), fun h => (f7.out (upd_of rfl h)), fun h => (f8.out (upd_of rfl h)), fun _ => rfl, fun h => absurd (HoldsV.up (f10.out (upd_of rfl h))) (by rw [hun]; decide), fun h => (f11.out (upd_of rfl h)), trivial⟩
              · intro dd aa ww K hc hun hn hI hK
                obtain ⟨blk, y73, y74, y75, y76, y77, y78, y72, y79, y80, y14, y15, ea, hb, hX, f0, f1, f2, f3, f4, f5, f6, f7, f8, f9, f10, f11, _⟩ := hI
                try simp [Region.binds] at hn
                have ex := f9.out (by first | (simp [hn]; done) | exact hc.reach (f := 8) (by decide +kernel) hn | exact hc.reach (f := 8) (by decide +kernel) hn.1 | exact hc.reach (f := 8) (by decide +kernel) hn.2 | exact hc.reach (f := 8) (by decide +kernel) hn.2.1 | exact hc.reach (f := 8) (by decide +kernel) hn.2.2 | exact hc.reach (f := 8) (by decide +kernel) hn.2.2.1 | exact hc.reach (f := 8) (by decide +kernel) hn.2.2.2)
                subst ex
                obtain ⟨ahAU, nhAU, chAU, ahAD, nhAD, chAD, ex, hAU, hAD⟩ := f5.out (by first | (simp [hn]; done) | exact hc.reach (f := 8) (by decide +kernel) hn | exact hc.reach (f := 8) (by decide +kernel) hn.1 | exact hc.reach (f := 8) (by decide +kernel) hn.2 | exact hc.reach (f := 8) (by decide +kernel) hn.2.1 | exact hc.reach (f := 8) (by decide +kernel) hn.2.2 | exact hc.reach (f := 8) (by decide +kernel) hn.2.2.1 | exact hc.reach (f := 8) (by decide +kernel) hn.2.2.2)
                subst ex
                have ex : y72 = .tuple #[.agg #[.bool (neg (B).num), .slice ahAU nhAU chAU, .slice ahAD nhAD chAD], .int .i64 0] := f6.out (by first | (simp [hn]; done) | exact hc.reach (f := 8) (by decide +kernel) hn | exact hc.reach (f := 8) (by decide +kernel) hn.1 | exact hc.reach (f := 8) (by decide +kernel) hn.2 | exact hc.reach (f := 8) (by decide +kernel) hn.2.1 | exact hc.reach (f := 8) (by decide +kernel) hn.2.2 | exact hc.reach (f := 8) (by decide +kernel) hn.2.2.1 | exact hc.reach (f := 8) (by decide +kernel) hn.2.2.2)
                subst ex
                have ex : y79 = .agg #[.bool (neg (B).num), .slice ahAU nhAU chAU, .slice ahAD nhAD chAD] := f7.out (by first | (simp [hn]; done) | exact hc.reach (f := 8) (by decide +kernel) hn | exact hc.reach (f := 8) (by decide +kernel) hn.1 | exact hc.reach (f := 8) (by decide +kernel) hn.2 | exact hc.reach (f := 8) (by decide +kernel) hn.2.1 | exact hc.reach (f := 8) (by decide +kernel) hn.2.2 | exact hc.reach (f := 8) (by decide +kernel) hn.2.2.1 | exact hc.reach (f := 8) (by decide +kernel) hn.2.2.2)
                subst ex
                have hd9 : dd 9 = true := by simp [hn]
                have hv7 : dd 7 = true := by simp [hn]
                obtain ⟨x1, x2, x3⟩ := hX.at_ (9, 3) (by simp) hd9
                obtain ⟨v0, v1, v2, z0, z1, z2, z3, z4, z5, _, _, _⟩ := x3.three
                have hv : ∀ v ∈ ([.bool (neg (B).num), .slice ahAU nhAU chAU, .slice ahAD nhAD chAD] : List Value), notU v := by simp [notU_bool, notU_slice, notU_i64]
                subst ea
                simp only [puts, Act.put, List.setIfInBounds_toArray, List.set_cons_zero, List.set_cons_succ]
                go_simp
                refine hK.out _ _ ?_
                exact ⟨blk, y73, y74, y75, y76, y77, .tuple #[.agg #[.bool (neg (B).num), .slice ahAU nhAU chAU, .slice ahAD nhAD chAD], .int .i64 0], .tuple #[.agg #[.bool (neg (B).num), .slice ahAU nhAU chAU, .slice ahAD nhAD chAD], .int .i64 0], .agg #[.bool (neg (B).num), .slice ahAU nhAU chAU, .slice ahAD nhAD chAD], y80, .pointer (some ⟨blk 9, 0, none⟩), y15, by simp only [puts, Act.put, List.setIfInBounds_toArray, List.set_cons_zero, List.set_cons_succ], hb.trans (below_setCells _ _ x1 [.bool (neg (B).num), .slice ahAU nhAU chAU, .slice ahAD nhAD chAD] 0 _), (hX.sets [.bool (neg (B).num), .slice ahAU nhAU chAU, .slice ahAD nhAD chAD] _ 0 _ hv).same 10 rfl, fun h => (f0.out (upd_of rfl h)), fun h => (f1.out (upd_of rfl h)), fun h => ((f2.out (upd_of rfl h)).sets [.bool (neg (B).num), .slice ahAU nhAU chAU, .slice ahAD nhAD chAD] x3 (by simp) hv), fun h => (f3.out (upd_of rfl h)), fun _ h2 => absurd (show dd 5 = true from (by first | (simp [hn]; done) | exact hc.reach (f := 8) (by decide +kernel) hn | exact hc.reach (f := 8) (by decide +kernel) hn.1 | exact hc.reach (f := 8) (by decide +kernel) hn.2 | exact hc.reach (f := 8) (by decide +kernel) hn.2.1 | exact hc.reach (f := 8) (by decide +kernel) hn.2.2 | exact hc.reach (f := 8) (by decide +kernel) hn.2.2.1 | exact hc.reach (f := 8) (by decide +kernel) hn.2.2.2)) (by rw [upd_off h2]; decide), fun h => ((f5.out (upd_of rfl h)).sets [.bool (neg (B).num), .slice ahAU nhAU chAU, .slice ahAD nhAD chAD] x3 (by simp) hv), fun h => rfl, fun h => rfl, fun h => (f8.out (upd_of rfl h)), fun h => rfl, fun _ => (HoldsV.new hd9 hv7 x2 x3 [.bool (neg (B).num), .slice ahAU nhAU chAU, .slice ahAD nhAD chAD] (by simp)).same 10, fun h => (f11.out (upd_of rfl h)), trivial⟩
              · intro dd aa ww K hc hun hn hI hK
                obtain ⟨blk, y73, y74, y75, y76, y77, y78, y72, y79, y80, y14, y15, ea, hb, hX, f0, f1, f2, f3, f4, f5, f6, f7, f8, f9, f10, f11, _⟩ := hI
                try simp [Region.binds] at hn
                obtain ⟨ahAU, nhAU, chAU, ahAD, nhAD, chAD, ex, hAU, hAD⟩ := f5.out (by first | (simp [hn]; done) | exact hc.reach (f := 8) (by decide +kernel) hn | exact hc.reach (f := 8) (by decide +kernel) hn.1 | exact hc.reach (f := 8) (by decide +kernel) hn.2 | exact hc.reach (f := 8) (by decide +kernel) hn.2.1 | exact hc.reach (f := 8) (by decide +kernel) hn.2.2 | exact hc.reach (f := 8) (by decide +kernel) hn.2.2.1 | exact hc.reach (f := 8) (by decide +kernel) hn.2.2.2)
                subst ex
                have ex : y72 = .tuple #[.agg #[.bool (neg (B).num), .slice ahAU nhAU chAU, .slice ahAD nhAD chAD], .int .i64 0] := f6.out (by first | (simp [hn]; done) | exact hc.reach (f := 8) (by decide +kernel) hn | exact hc.reach (f := 8) (by decide +kernel) hn.1 | exact hc.reach (f := 8) (by decide +kernel) hn.2 | exact hc.reach (f := 8) (by decide +kernel) hn.2.1 | exact hc.reach (f := 8) (by decide +kernel) hn.2.2 | exact hc.reach (f := 8) (by decide +kernel) hn.2.2.1 | exact hc.reach (f := 8) (by decide +kernel) hn.2.2.2)
                subst ex
                have ex : y80 = .int .i64 0 := f8.out (by first | (simp [hn]; done) | exact hc.reach (f := 8) (by decide +kernel) hn | exact hc.reach (f := 8) (by decide +kernel) hn.1 | exact hc.reach (f := 8) (by decide +kernel) hn.2 | exact hc.reach (f := 8) (by decide +kernel) hn.2.1 | exact hc.reach (f := 8) (by decide +kernel) hn.2.2 | exact hc.reach (f := 8) (by decide +kernel) hn.2.2.1 | exact hc.reach (f := 8) (by decide +kernel) hn.2.2.2)
                subst ex
                subst ea
                simp only [puts, Act.put, List.setIfInBounds_toArray, List.set_cons_zero, List.set_cons_succ]
                go_simp
                refine hK.out _ _ ?_
                exact ⟨blk, y73, y74, y75, y76, y77, .tuple #[.agg #[.bool (neg (B).num), .slice ahAU nhAU chAU, .slice ahAD nhAD chAD], .int .i64 0], .tuple #[.agg #[.bool (neg (B).num), .slice ahAU nhAU chAU, .slice ahAD nhAD chAD], .int .i64 0], y79, .int .i64 0, y14, .int .i64 0, by simp only [puts, Act.put, List.setIfInBounds_toArray, List.set_cons_zero, List.set_cons_succ], hb, hX.same 11 rfl, fun h => (f0.out (upd_of rfl h)), fun h => (f1.out (upd_of rfl h)), fun h => (f2.out (upd_of rfl h)), fun h => (f3.out (upd_of rfl h)), fun _ h2 => absurd (show dd 5 = true from (by first | (simp [hn]; done) | exact hc.reach (f := 8) (by decide +kernel) hn | exact hc.reach (f := 8) (by decide +kernel) hn.1 | exact hc.reach (f := 8) (by decide +kernel) hn.2 | exact hc.reach (f := 8) (by decide +kernel) hn.2.1 | exact hc.reach (f := 8) (by decide +kernel) hn.2.2 | exact hc.reach (f := 8) (by decide +kernel) hn.2.2.1 | exact hc.reach (f := 8) (by decide +kernel) hn.2.2.2)) (by rw [upd_off h2]; decide), fun h => (f5.out (upd_of rfl h)), fun h => rfl, fun h => (f7.out (upd_of rfl h)), fun h => rfl, fun h => (f9.out (upd_of rfl h)), fun h => (f10.out (upd_of rfl h)).same 11, fun _ => rfl, trivial⟩
            intro dd aa w5 hd hI
            obtain ⟨blk, y73, y74, y75, y76, y77, y78, y72, y79, y80, y14, y15, ea, hb, hX, f0, f1, f2, f3, f4, f5, f6, f7, f8, f9, f10, f11, _⟩ := hI
            have ex := f0.out (hd 0 (by simp))
            subst ex
            have ex := f1.out (hd 1 (by simp))
            subst ex
            obtain ⟨ahIU, nhIU, chIU, ahID, nhID, chID, ex, hIU, hID⟩ := f2.out (hd 2 (by simp))
            subst ex
            have ex := f3.out (hd 3 (by simp))
            subst ex
            obtain ⟨ahAU, nhAU, chAU, ahAD, nhAD, chAD, ex, hAU, hAD⟩ := f5.out (hd 5 (by simp))
            subst ex
            have ex : y72 = .tuple #[.agg #[.bool (neg (B).num), .slice ahAU nhAU chAU, .slice ahAD nhAD chAD], .int .i64 0] := f6.out (hd 6 (by simp))
            subst ex
            have ex : y79 = .agg #[.bool (neg (B).num), .slice ahAU nhAU chAU, .slice ahAD nhAD chAD] := f7.out (hd 7 (by simp))
            subst ex
            have ex : y80 = .int .i64 0 := f8.out (hd 8 (by simp))
            subst ex
            have ex := f9.out (hd 9 (by simp))
            subst ex
            obtain ⟨vs10, e, h10⟩ := f10.out (hd 10 (by simp))
            cases e
            have ex : y15 = .int .i64 0 := f11.out (hd 11 (by simp))
            subst ex
            have lboth := h10.lt
            have qboth0 := h10.at_ 0 (by simp)
            simp only [List.getElem?_cons_zero, List.getElem?_cons_succ] at qboth0
            have qboth1 := h10.at_ 1 (by simp)
            simp only [List.getElem?_cons_zero, List.getElem?_cons_succ] at qboth1
            have qboth2 := h10.at_ 2 (by simp)
            simp only [List.getElem?_cons_zero, List.getElem?_cons_succ] at qboth2
            have ubothmore : w1.heap.size < blk 9 := Nat.lt_of_lt_of_le lmore (hX.at_ (9, 3) (by simp) (hd 9 (by simp))).1
            generalize blk 9 = Bboth at *
            subst ea
            simp only [puts, Act.put, List.setIfInBounds_toArray, List.set_cons_zero, List.set_cons_succ]
            have hIU := hIU.mono hZ.size
            have hID := hID.mono hZ.size
            have hAU := hAU.mono hZ.size
            have hAD := hAD.mono hZ.size
            have hSU := hSU.past hb
            have hSD := hSD.past hb
            have h1 := h1.past hb
            have qmore0 := bq hb lmore qmore0; have qmore1 := bq hb lmore qmore1; have qmore2 := bq hb lmore qmore2
            have xmore := xmore.past hb lmore
            have lmore := bl hb lmore
            have hB := below_later hB hb
            have hZ := below_later hZ hb
            clear hX
            clear hb hd
            rcases h1.cell with h0 | ⟨b, o, rfl, hbl, hcl2⟩
            · omega
            have hq := hcl2 i HIK.out
            rw [HG.out] at hq
            clear hcl2
            go_wp2_with fail
            refine wp_region_held_drew (S := fun w' => (w'.cell? ⟨Bboth, 0, none⟩ = some (.bool (neg (B).num)) ∧ w'.cell? ⟨Bboth, 1, none⟩ = some (.slice ahAU nhAU chAU) ∧ w'.cell? ⟨Bboth, 2, none⟩ = some (.slice ahAD nhAD chAD)) ∧ Below w5.heap.size w5 w') (by kernel_rfl) ⟨⟨((Below.refl w5.heap.size w5).drew.cell (p := ⟨Bboth, 0, none⟩) lboth).trans qboth0, ((Below.refl w5.heap.size w5).drew.cell (p := ⟨Bboth, 1, none⟩) lboth).trans qboth1, ((Below.refl w5.heap.size w5).drew.cell (p := ⟨Bboth, 2, none⟩) lboth).trans qboth2⟩, (Below.refl _ _).drew⟩ (fun hHeld => ?_)
            refine takeL 0 (?_) rfl (by kernel_rfl) (by kernel_rfl) (by kernel_rfl) (fun _ _ _ h => h) (Or.inl ⟨by rfl, ?_⟩) (by assumption) ?_
            rotate_left
            · intro ws hSw; obtain ⟨⟨s0, s1, s2⟩, sB⟩ := hSw; go_simp; with_reducible rfl
            try simp only [Act.put, List.setIfInBounds_toArray, List.set_cons_zero, List.set_cons_succ]
            refine takeL 1 (?_) rfl (by kernel_rfl) (by kernel_rfl) (by kernel_rfl) (fun _ _ _ h => h) (Or.inl ⟨by rfl, ?_⟩) (by assumption) ?_
            rotate_left
            · intro ws hSw; obtain ⟨⟨s0, s1, s2⟩, sB⟩ := hSw; go_simp; with_reducible rfl
            try simp only [Act.put, List.setIfInBounds_toArray, List.set_cons_zero, List.set_cons_succ]
            refine takeL 2 (?_) rfl (by kernel_rfl) (by kernel_rfl) (by kernel_rfl) (fun _ _ _ h => h) (Or.inl ⟨by rfl, ?_⟩) (by assumption) ?_
            rotate_left
            · intro ws hSw; obtain ⟨⟨s0, s1, s2⟩, sB⟩ := hSw; go_simp; with_reducible rfl
            try simp only [Act.put, List.setIfInBounds_toArray, List.set_cons_zero, List.set_cons_succ]
            refine takeL 3 (?_) rfl (by kernel_rfl) (by kernel_rfl) (by kernel_rfl) (fun _ _ _ h => h) (Or.inl ⟨by rfl, ?_⟩) (by assumption) ?_
            rotate_left
            · intro ws hSw; obtain ⟨⟨s0, s1, s2⟩, sB⟩ := hSw; go_simp; with_reducible rfl
            try simp only [Act.put, List.setIfInBounds_toArray, List.set_cons_zero, List.set_cons_succ]
            refine takeL 4 (?_) rfl (by kernel_rfl) (by kernel_rfl) (by kernel_rfl) (fun _ _ _ h => h) (Or.inl ⟨by rfl, ?_⟩) (by assumption) ?_
            rotate_left
            · intro ws hSw; obtain ⟨⟨s0, s1, s2⟩, sB⟩ := hSw; go_simp; with_reducible rfl
            try simp only [Act.put, List.setIfInBounds_toArray, List.set_cons_zero, List.set_cons_succ]
            refine takeL 5 (.int .i64 (i : Int)) rfl (by kernel_rfl) (by kernel_rfl) (by kernel_rfl) (fun _ _ _ h => h) (Or.inl ⟨by rfl, ?_⟩) (by assumption) ?_
            · intro ws hSw; obtain ⟨⟨s0, s1, s2⟩, sB⟩ := hSw; have td := TD.out; go_simp
            try simp only [Act.put, List.setIfInBounds_toArray, List.set_cons_zero, List.set_cons_succ]
            refine takeL 6 (.pointer (some ⟨b, o + i, none⟩)) rfl (by kernel_rfl) (by kernel_rfl) (by kernel_rfl) (fun _ _ _ h => h) (Or.inl ⟨by rfl, ?_⟩) (by assumption) ?_
            · intro ws hSw; obtain ⟨⟨s0, s1, s2⟩, sB⟩ := hSw; have hik := HIK.out; go_simp
            try simp only [Act.put, List.setIfInBounds_toArray, List.set_cons_zero, List.set_cons_succ]
            refine takeL 7 (.int .i64 Z) rfl (by kernel_rfl) (by kernel_rfl) (by kernel_rfl) (fun _ _ _ h => h) (Or.inl ⟨by rfl, ?_⟩) (by assumption) ?_
            · intro ws hSw; obtain ⟨⟨s0, s1, s2⟩, sB⟩ := hSw; have e := (sB.cell (p := ⟨b, o + i, none⟩) hbl).trans hq; go_simp
            try simp only [Act.put, List.setIfInBounds_toArray, List.set_cons_zero, List.set_cons_succ]
            refine takeL 8 (?_) rfl (by kernel_rfl) (by kernel_rfl) (by kernel_rfl) (fun _ _ _ h => h) (Or.inl ⟨by rfl, ?_⟩) (by assumption) ?_
            rotate_left
            · intro ws hSw; obtain ⟨⟨s0, s1, s2⟩, sB⟩ := hSw; go_simp; with_reducible rfl
            try simp only [Act.put, List.setIfInBounds_toArray, List.set_cons_zero, List.set_cons_succ]
            refine takeL 9 (.agg #[.bool (neg (B).num), .slice ahAU nhAU chAU, .slice ahAD nhAD chAD]) rfl (by kernel_rfl) (by kernel_rfl) (by kernel_rfl) (fun _ _ _ h => h) (Or.inl ⟨by rfl, ?_⟩) (by assumption) ?_
            · intro ws hSw; obtain ⟨⟨s0, s1, s2⟩, sB⟩ := hSw; go_simp
            try simp only [Act.put, List.setIfInBounds_toArray, List.set_cons_zero, List.set_cons_succ]
            refine wpAnyH_ready (rs := [10]) (by kernel_rfl) (by simp) ?_
            refine consL rfl (fun K hK => ?_) AllReadyH.nil
            go_simp
            have hS := hHeld
            with_reducible refine (near13_yes Z sc (hAU.past hS.2).toNatAt (hAD.past hS.2).toNatAt LB.out hs2b HZB.out HZD.out).mono ?_
            rintro e w6 ⟨rfl, hbw6⟩
            refine hK.out _ _ ⟨⟨((below_later hS.2 hbw6).cell (p := ⟨Bboth, 0, none⟩) lboth).trans qboth0, ((below_later hS.2 hbw6).cell (p := ⟨Bboth, 1, none⟩) lboth).trans qboth1, ((below_later hS.2 hbw6).cell (p := ⟨Bboth, 2, none⟩) lboth).trans qboth2⟩, below_later hS.2 hbw6⟩ (fun hHeld => ?_)
            clear hK K hS
            try simp only [Act.put, List.setIfInBounds_toArray, List.set_cons_zero, List.set_cons_succ]
            refine takeL 11 (?_) rfl (by kernel_rfl) (by kernel_rfl) (by kernel_rfl) (fun _ _ _ h => h) (Or.inl ⟨by rfl, ?_⟩) (by assumption) ?_
            rotate_left
            · intro ws hSw; obtain ⟨⟨s0, s1, s2⟩, sB⟩ := hSw; go_simp; with_reducible rfl
            try simp only [Act.put, List.setIfInBounds_toArray, List.set_cons_zero, List.set_cons_succ]
            refine takeL 12 (?_) rfl (by kernel_rfl) (by kernel_rfl) (by kernel_rfl) (fun _ _ _ h => h) (Or.inl ⟨by rfl, ?_⟩) (by assumption) ?_
            rotate_left
            · intro ws hSw; obtain ⟨⟨s0, s1, s2⟩, sB⟩ := hSw; go_simp; with_reducible rfl
            try simp only [Act.put, List.setIfInBounds_toArray, List.set_cons_zero, List.set_cons_succ]
            refine wpAnyH_done (by kernel_rfl) ?_ _
            have hbR := hHeld.2
            have h1 := h1.past hbR
            have hAU := hAU.past hbR
            have hAD := hAD.past hbR
            have qboth0 := bq hbR lboth qboth0; have qboth1 := bq hbR lboth qboth1; have qboth2 := bq hbR lboth qboth2
            have lboth := bl hbR lboth
            have hB := below_later hB hbR
            have hZ := below_later hZ hbR
            clear hHeld hbR
            go_wp2
            go_roundw
            case rel => exact ⟨d + 1, by omega, by omega, by go_num, h1, hB⟩
            case measure => simp [intOf]; omega
          · rw [if_neg hc2] at hsv
            have HQS := Lib.hid hsv
            have tc2 : ((d : Int) == (sp : Int)) = false := by rw [beq_eq_false_iff_ne]; omega
            have tc1 : decide (d < sp) = false := decide_eq_false hc1
            clear hsv
            have hws := hB.size
            have hZ := Below.refl wr.heap.size wr
            have zB := hB
            have zh1 := h1
            go_wp2_with fail
            with_reducible refine (part13_zero _).mono ?_
            rintro e w1 ⟨ah0U, nh0U, ch0U, ah0D, nh0D, ch0D, rfl, h0U, h0D, hb⟩
            have h0U := h0U.mono hZ.size
            have h0D := h0D.mono hZ.size
            have h1 := h1.past hb
            have hB := below_later hB hb
            have hZ := below_later hZ hb
            clear hb
            obtain ⟨Z0, hZ0⟩ : ∃ Z0, (0 : Rat) = Z0 := ⟨_, rfl⟩
            rw [hZ0] at h0U h0D ⊢
            have HZ0 := Lib.hid hZ0
            clear hZ0
            go_wp2_with fail
            obtain ⟨w2, hW, hz0, hb, q, f⟩ := box1g w1 (w1.heap.size) (by omega) #[.bool (neg Z0.num), .slice ah0U nh0U ch0U, .slice ah0D nh0D ch0D] 36
            have gmore : wr.heap.size ≤ w1.heap.size := by have := hZ.size; omega
            rw [hW]
            clear hW
            have h1 := h1.past hb
            have h0U := h0U.past hb
            have h0D := h0D.past hb
            have hB := below_later hB hb
            have hZ := below_later hZ hb
            clear hb
            have lmore : w1.heap.size < w2.heap.size := by omega
            have qmore0 := q 0; have qmore1 := q 1; have qmore2 := q 2
            simp only [List.getElem?_toArray, List.getElem?_cons_zero, List.getElem?_cons_succ] at qmore0 qmore1 qmore2
            have xmore : BoxAt w2 (w1.heap.size) 3 := BoxAt.of q f rfl (by simp [notU_bool, notU_slice, notU_i64])
            clear q f
            clear hz0
            have hSU := h0U
            have hSD := h0D
            have eZ : S = Z0 := by rw [← HZ0.out, HQS.out]
            subst eZ
            go_wp2_with fail
            refine wp_region_invA (by kernel_rfl) rfl (by kernel_rfl) (fun A0 V0 dd aa ww => ∃ (blk : Nat → Nat) (y73 y74 y75 y76 y77 y78 y72 y79 y80 y14 y15 : Value), aa = puts A0 [(73, y73), (74, y74), (75, y75), (76, y76), (77, y77), (78, y78), (72, y72), (79, y79), (80, y80), (14, y14), (15, y15)] ∧ Below V0.heap.size V0 ww ∧ Boxes [(9, 3)] V0.heap.size dd blk ww ∧ Shut (dd 0 = true → y73 = .int .i64 (kN : Int)) ∧ Shut (dd 1 = true → y74 = .int .i64 (d : Int)) ∧ Shut (dd 2 = true → RatV V0.heap.size (I) y75 ww) ∧ Shut (dd 3 = true → y76 = .agg #[.bool (neg S.num), .slice ah0U nh0U ch0U, .slice ah0D nh0D ch0D]) ∧ Shut (dd 4 = true → dd 5 = false → LstV V0.heap.size 2 ([y75, y76].flatMap cellsOf) y77 ww) ∧ Shut (dd 5 = true → OkV V0.heap.size (B) y78 ww) ∧ Shut (dd 6 = true → y72 = y78) ∧ Shut (dd 7 = true → y79 = part 0 y72) ∧ Shut (dd 8 = true → y80 = part 1 y72) ∧ Shut (dd 9 = true → y14 = .pointer (some ⟨blk 9, 0, none⟩)) ∧ Shut (dd 10 = true → HoldsV dd 9 7 (blk 9) y79 ww) ∧ Shut (dd 11 = true → y15 = y80) ∧ True) ?_ ?_ ?_
            · exact ⟨fun _ => 0, _, _, _, _, _, _, _, _, _, _, _, puts_self _ [73, 74, 75, 76, 77, 78, 72, 79, 80, 14, 15], (Below.refl _ _).drew, Boxes.none _ _ _ _, fun h => (by cases h), fun h => (by cases h), fun h => (by cases h), fun h => (by cases h), fun h => (by cases h), fun h => (by cases h), fun h => (by cases h), fun h => (by cases h), fun h => (by cases h), fun h => (by cases h), fun h => (by cases h), fun h => (by cases h), trivial⟩
            · refine Steps.cons ?_ (Steps.cons ?_ (Steps.cons ?_ (Steps.cons ?_ (Steps.cons ?_ (Steps.cons ?_ (Steps.cons ?_ (Steps.cons ?_ (Steps.cons ?_ (Steps.cons ?_ (Steps.cons ?_ (Steps.cons ?_ (Steps.nil))))))))))))
              · intro dd aa ww K hc hun hn hI hK
                obtain ⟨blk, y73, y74, y75, y76, y77, y78, y72, y79, y80, y14, y15, ea, hb, hX, f0, f1, f2, f3, f4, f5, f6, f7, f8, f9, f10, f11, _⟩ := hI
                try simp [Region.binds] at hn
                subst ea
                simp only [puts, Act.put, List.setIfInBounds_toArray, List.set_cons_zero, List.set_cons_succ]
                go_simp
                refine hK.out _ _ ?_
                exact ⟨blk, .int .i64 (kN : Int), y74, y75, y76, y77, y78, y72, y79, y80, y14, y15, by simp only [puts, Act.put, List.setIfInBounds_toArray, List.set_cons_zero, List.set_cons_succ], hb, hX.same 0 rfl, fun _ => rfl, fun h => (f1.out (upd_of rfl h)), fun h => (f2.out (upd_of rfl h)), fun h => (f3.out (upd_of rfl h)), fun h h2 => ((f4.out (upd_of rfl h)) (upd_off h2)), fun h => (f5.out (upd_of rfl h)), fun h => (f6.out (upd_of rfl h)), fun h => (f7.out (upd_of rfl h)), fun h => (f8.out (upd_of rfl h)), fun h => (f9.out (upd_of rfl h)), fun h => (f10.out (upd_of rfl h)).same 0, fun h => (f11.out (upd_of rfl h)), trivial⟩
              · intro dd aa ww K hc hun hn hI hK
                obtain ⟨blk, y73, y74, y75, y76, y77, y78, y72, y79, y80, y14, y15, ea, hb, hX, f0, f1, f2, f3, f4, f5, f6, f7, f8, f9, f10, f11, _⟩ := hI
                try simp [Region.binds] at hn
                subst ea
                simp only [puts, Act.put, List.setIfInBounds_toArray, List.set_cons_zero, List.set_cons_succ]
                go_simp
                refine hK.out _ _ ?_
                exact ⟨blk, y73, .int .i64 (d : Int), y75, y76, y77, y78, y72, y79, y80, y14, y15, by simp only [puts, Act.put, List.setIfInBounds_toArray, List.set_cons_zero, List.set_cons_succ], hb, hX.same 1 rfl, fun h => (f0.out (upd_of rfl h)), fun _ => rfl, fun h => (f2.out (upd_of rfl h)), fun h => (f3.out (upd_of rfl h)), fun h h2 => ((f4.out (upd_of rfl h)) (upd_off h2)), fun h => (f5.out (upd_of rfl h)), fun h => (f6.out (upd_of rfl h)), fun h => (f7.out (upd_of rfl h)), fun h => (f8.out (upd_of rfl h)), fun h => (f9.out (upd_of rfl h)), fun h => (f10.out (upd_of rfl h)).same 1, fun h => (f11.out (upd_of rfl h)), trivial⟩
              · intro dd aa ww K hc hun hn hI hK
                obtain ⟨blk, y73, y74, y75, y76, y77, y78, y72, y79, y80, y14, y15, ea, hb, hX, f0, f1, f2, f3, f4, f5, f6, f7, f8, f9, f10, f11, _⟩ := hI
                try simp [Region.binds] at hn
                have ex := f0.out (by first | (simp [hn]; done) | exact hc.reach (f := 8) (by decide +kernel) hn | exact hc.reach (f := 8) (by decide +kernel) hn.1 | exact hc.reach (f := 8) (by decide +kernel) hn.2 | exact hc.reach (f := 8) (by decide +kernel) hn.2.1 | exact hc.reach (f := 8) (by decide +kernel) hn.2.2 | exact hc.reach (f := 8) (by decide +kernel) hn.2.2.1 | exact hc.reach (f := 8) (by decide +kernel) hn.2.2.2)
                subst ex
                have ex := f1.out (by first | (simp [hn]; done) | exact hc.reach (f := 8) (by decide +kernel) hn | exact hc.reach (f := 8) (by decide +kernel) hn.1 | exact hc.reach (f := 8) (by decide +kernel) hn.2 | exact hc.reach (f := 8) (by decide +kernel) hn.2.1 | exact hc.reach (f := 8) (by decide +kernel) hn.2.2 | exact hc.reach (f := 8) (by decide +kernel) hn.2.2.1 | exact hc.reach (f := 8) (by decide +kernel) hn.2.2.2)
                subst ex
                subst ea
                simp only [puts, Act.put, List.setIfInBounds_toArray, List.set_cons_zero, List.set_cons_succ]
                go_simp
                with_reducible refine (HID.out _).mono ?_
                rintro e w1 ⟨ahIU, nhIU, chIU, ahID, nhID, chID, rfl, hIU, hID, h1⟩
                refine hK.out _ _ ?_
                exact ⟨blk, .int .i64 (kN : Int), .int .i64 (d : Int), .agg #[.bool (neg (I).num), .slice ahIU nhIU chIU, .slice ahID nhID chID], y76, y77, y78, y72, y79, y80, y14, y15, by simp only [puts, Act.put, List.setIfInBounds_toArray, List.set_cons_zero, List.set_cons_succ], below_later hb h1, hX.past h1 2 rfl, fun h => rfl, fun h => rfl, fun _ => ⟨_, _, _, _, _, _, rfl, hIU.mono hb.size, hID.mono hb.size⟩, fun h => (f3.out (upd_of rfl h)), fun h => absurd (hc.reach (f := 8) (s := 4) (l := 2) (by kernel_rfl) (upd_of rfl h)) (by rw [hun]; decide), fun h => (f5.out (upd_of rfl h)).past h1, fun h => (f6.out (upd_of rfl h)), fun h => (f7.out (upd_of rfl h)), fun h => (f8.out (upd_of rfl h)), fun h => (f9.out (upd_of rfl h)), fun h => (f10.out (upd_of rfl h)).past h1 2, fun h => (f11.out (upd_of rfl h)), trivial⟩
              · intro dd aa ww K hc hun hn hI hK
                obtain ⟨blk, y73, y74, y75, y76, y77, y78, y72, y79, y80, y14, y15, ea, hb, hX, f0, f1, f2, f3, f4, f5, f6, f7, f8, f9, f10, f11, _⟩ := hI
                try simp [Region.binds] at hn
                have e0 := (hb.cell (p := ⟨w1.heap.size, 0, none⟩) lmore).trans qmore0
                have e1 := (hb.cell (p := ⟨w1.heap.size, 1, none⟩) lmore).trans qmore1
                have e2 := (hb.cell (p := ⟨w1.heap.size, 2, none⟩) lmore).trans qmore2
                subst ea
                simp only [puts, Act.put, List.setIfInBounds_toArray, List.set_cons_zero, List.set_cons_succ]
                go_simp
                refine hK.out _ _ ?_
                exact ⟨blk, y73, y74, y75, .agg #[.bool (neg S.num), .slice ah0U nh0U ch0U, .slice ah0D nh0D ch0D], y77, y78, y72, y79, y80, y14, y15, by simp only [puts, Act.put, List.setIfInBounds_toArray, List.set_cons_zero, List.set_cons_succ], hb, hX.same 3 rfl, fun h => (f0.out (upd_of rfl h)), fun h => (f1.out (upd_of rfl h)), fun h => (f2.out (upd_of rfl h)), fun _ => rfl, fun h => absurd (hc.reach (f := 8) (s := 4) (l := 3) (by kernel_rfl) (upd_of rfl h)) (by rw [hun]; decide), fun h => (f5.out (upd_of rfl h)), fun h => (f6.out (upd_of rfl h)), fun h => (f7.out (upd_of rfl h)), fun h => (f8.out (upd_of rfl h)), fun h => (f9.out (upd_of rfl h)), fun h => (f10.out (upd_of rfl h)).same 3, fun h => (f11.out (upd_of rfl h)), trivial⟩
              · intro dd aa ww K hc hun hn hI hK
                obtain ⟨blk, y73, y74, y75, y76, y77, y78, y72, y79, y80, y14, y15, ea, hb, hX, f0, f1, f2, f3, f4, f5, f6, f7, f8, f9, f10, f11, _⟩ := hI
                try simp [Region.binds] at hn
                obtain ⟨ahIU, nhIU, chIU, ahID, nhID, chID, ex, hIU, hID⟩ := f2.out (by first | (simp [hn]; done) | exact hc.reach (f := 8) (by decide +kernel) hn | exact hc.reach (f := 8) (by decide +kernel) hn.1 | exact hc.reach (f := 8) (by decide +kernel) hn.2 | exact hc.reach (f := 8) (by decide +kernel) hn.2.1 | exact hc.reach (f := 8) (by decide +kernel) hn.2.2 | exact hc.reach (f := 8) (by decide +kernel) hn.2.2.1 | exact hc.reach (f := 8) (by decide +kernel) hn.2.2.2)
                subst ex
                have ex := f3.out (by first | (simp [hn]; done) | exact hc.reach (f := 8) (by decide +kernel) hn | exact hc.reach (f := 8) (by decide +kernel) hn.1 | exact hc.reach (f := 8) (by decide +kernel) hn.2 | exact hc.reach (f := 8) (by decide +kernel) hn.2.1 | exact hc.reach (f := 8) (by decide +kernel) hn.2.2 | exact hc.reach (f := 8) (by decide +kernel) hn.2.2.1 | exact hc.reach (f := 8) (by decide +kernel) hn.2.2.2)
                subst ex
                subst ea
                simp only [puts, Act.put, List.setIfInBounds_toArray, List.set_cons_zero, List.set_cons_succ]
                go_simp
                refine hK.out _ _ ?_
                exact ⟨blk, y73, y74, .agg #[.bool (neg (I).num), .slice ahIU nhIU chIU, .slice ahID nhID chID], .agg #[.bool (neg S.num), .slice ah0U nh0U ch0U, .slice ah0D nh0D ch0D], .slice (some ⟨ww.heap.size, 0, none⟩) 2 2, y78, y72, y79, y80, y14, y15, by simp only [puts, Act.put, List.setIfInBounds_toArray, List.set_cons_zero, List.set_cons_succ], below_alloc hb _, hX.past ((Below.refl _ _).alloc (Nat.le_refl _) _) 4 rfl, fun h => (f0.out (upd_of rfl h)), fun h => (f1.out (upd_of rfl h)), fun h => (f2.out (upd_of rfl h)).past ((Below.refl _ _).alloc (Nat.le_refl _) _), fun h => rfl, fun _ _ => LstV.new hb.size _ _, fun h => (f5.out (upd_of rfl h)).past ((Below.refl _ _).alloc (Nat.le_refl _) _), fun h => (f6.out (upd_of rfl h)), fun h => (f7.out (upd_of rfl h)), fun h => (f8.out (upd_of rfl h)), fun h => (f9.out (upd_of rfl h)), fun h => (f10.out (upd_of rfl h)).past ((Below.refl _ _).alloc (Nat.le_refl _) _) 4, fun h => (f11.out (upd_of rfl h)), trivial⟩
              · intro dd aa ww K hc hun hn hI hK
                obtain ⟨blk, y73, y74, y75, y76, y77, y78, y72, y79, y80, y14, y15, ea, hb, hX, f0, f1, f2, f3, f4, f5, f6, f7, f8, f9, f10, f11, _⟩ := hI
                try simp [Region.binds] at hn
                obtain ⟨ahIU, nhIU, chIU, ahID, nhID, chID, ex, hIU, hID⟩ := f2.out (by first | (simp [hn]; done) | exact hc.reach (f := 8) (by decide +kernel) hn | exact hc.reach (f := 8) (by decide +kernel) hn.1 | exact hc.reach (f := 8) (by decide +kernel) hn.2 | exact hc.reach (f := 8) (by decide +kernel) hn.2.1 | exact hc.reach (f := 8) (by decide +kernel) hn.2.2 | exact hc.reach (f := 8) (by decide +kernel) hn.2.2.1 | exact hc.reach (f := 8) (by decide +kernel) hn.2.2.2)
                subst ex
                have ex := f3.out (by first | (simp [hn]; done) | exact hc.reach (f := 8) (by decide +kernel) hn | exact hc.reach (f := 8) (by decide +kernel) hn.1 | exact hc.reach (f := 8) (by decide +kernel) hn.2 | exact hc.reach (f := 8) (by decide +kernel) hn.2.1 | exact hc.reach (f := 8) (by decide +kernel) hn.2.2 | exact hc.reach (f := 8) (by decide +kernel) hn.2.2.1 | exact hc.reach (f := 8) (by decide +kernel) hn.2.2.2)
                subst ex
                obtain ⟨G4, ex, hg1, hg2, hg3⟩ := f4.out (by first | (simp [hn]; done) | exact hc.reach (f := 8) (by decide +kernel) hn | exact hc.reach (f := 8) (by decide +kernel) hn.1 | exact hc.reach (f := 8) (by decide +kernel) hn.2 | exact hc.reach (f := 8) (by decide +kernel) hn.2.1 | exact hc.reach (f := 8) (by decide +kernel) hn.2.2 | exact hc.reach (f := 8) (by decide +kernel) hn.2.2.1 | exact hc.reach (f := 8) (by decide +kernel) hn.2.2.2) hun
                subst ex
                have z0 := hg3 0 (by simp [cellsOf])
                have z1 := hg3 1 (by simp [cellsOf])
                have z2 := hg3 2 (by simp [cellsOf])
                have z3 := hg3 3 (by simp [cellsOf])
                have z4 := hg3 4 (by simp [cellsOf])
                have z5 := hg3 5 (by simp [cellsOf])
                simp only [List.flatMap_cons, List.flatMap_nil, cellsOf, List.cons_append, List.nil_append, List.append_nil, List.getElem?_cons_zero, List.getElem?_cons_succ] at z0 z1 z2 z3 z4 z5
                subst ea
                simp only [puts, Act.put, List.setIfInBounds_toArray, List.set_cons_zero, List.set_cons_succ]
                go_simp
                with_reducible refine (add_two (RatsAt.two hg2 z0 z1 z2 z3 z4 z5 hIU.toNatAt hID.toNatAt (hSU.past hb).toNatAt (hSD.past hb).toNatAt) LI.out LS.out).mono ?_
                rintro e w1 ⟨ahAU, nhAU, chAU, ahAD, nhAD, chAD, rfl, hAU, hAD, h1⟩
                rw [HBB.out] at hAU hAD ⊢
                refine hK.out _ _ ?_
                exact ⟨blk, y73, y74, .agg #[.bool (neg (I).num), .slice ahIU nhIU chIU, .slice ahID nhID chID], .agg #[.bool (neg S.num), .slice ah0U nh0U ch0U, .slice ah0D nh0D ch0D], .slice (some ⟨G4, 0, none⟩) 2 2, .tuple #[.agg #[.bool (neg (B).num), .slice ahAU nhAU chAU, .slice ahAD nhAD chAD], .int .i64 0], y72, y79, y80, y14, y15, by simp only [puts, Act.put, List.setIfInBounds_toArray, List.set_cons_zero, List.set_cons_succ], below_later hb h1, hX.past h1 5 rfl, fun h => (f0.out (upd_of rfl h)), fun h => (f1.out (upd_of rfl h)), fun h => (f2.out (upd_of rfl h)).past h1, fun h => rfl, fun _ h2 => absurd h2 (by simp [upd]), fun _ => ⟨_, _, _, _, _, _, rfl, hAU.mono hb.size, hAD.mono hb.size⟩, fun h => absurd (hc.reach (f := 8) (s := 6) (l := 5) (by kernel_rfl) (upd_of rfl h)) (by rw [hun]; decide), fun h => (f7.out (upd_of rfl h)), fun h => (f8.out (upd_of rfl h)), fun h => (f9.out (upd_of rfl h)), fun h => (f10.out (upd_of rfl h)).past h1 5, fun h => (f11.out (upd_of rfl h)), trivial⟩
              · intro dd aa ww K hc hun hn hI hK
                obtain ⟨blk, y73, y74, y75, y76, y77, y78, y72, y79, y80, y14, y15, ea, hb, hX, f0, f1, f2, f3, f4, f5, f6, f7, f8, f9, f10, f11, _⟩ := hI
                try simp [Region.binds] at hn
                obtain ⟨ahAU, nhAU, chAU, ahAD, nhAD, chAD, ex, hAU, hAD⟩ := f5.out (by first | (simp [hn]; done) | exact hc.reach (f := 8) (by decide +kernel) hn | exact hc.reach (f := 8) (by decide +kernel) hn.1 | exact hc.reach (f := 8) (by decide +kernel) hn.2 | exact hc.reach (f := 8) (by decide +kernel) hn.2.1 | exact hc.reach (f := 8) (by decide +kernel) hn.2.2 | exact hc.reach (f := 8) (by decide +kernel) hn.2.2.1 | exact hc.reach (f := 8) (by decide +kernel) hn.2.2.2)
                subst ex
                subst ea
                simp only [puts, Act.put, List.setIfInBounds_toArray, List.set_cons_zero, List.set_cons_succ]
                go_simp
                refine hK.out _ _ ?_
                exact ⟨blk, y73, y74, y75, y76, y77, .tuple #[.agg #[.bool (neg (B).num), .slice ahAU nhAU chAU, .slice ahAD nhAD chAD], .int .i64 0], .tuple #[.agg #[.bool (neg (B).num), .slice ahAU nhAU chAU, .slice ahAD nhAD chAD], .int .i64 0], y79, y80, y14, y15, by simp only [puts, Act.put, List.setIfInBounds_toArray, List.set_cons_zero, List.set_cons_succ], hb, hX.same 6 rfl, fun h => (f0.out (upd_of rfl h)), fun h => (f1.out (upd_of rfl h)), fun h => (f2.out (upd_of rfl h)), fun h => (f3.out (upd_of rfl h)), fun _ h2 => absurd (show dd 5 = true from (by first | (simp [hn]; done) | exact hc.reach (f := 8) (by decide +kernel) hn | exact hc.reach (f := 8) (by decide +kernel) hn.1 | exact hc.reach (f := 8) (by decide +kernel) hn.2 | exact hc.reach (f := 8) (by decide +kernel) hn.2.1 | exact hc.reach (f := 8) (by decide +kernel) hn.2.2 | exact hc.reach (f := 8) (by decide +kernel) hn.2.2.1 | exact hc.reach (f := 8) (by decide +kernel) hn.2.2.2)) (by rw [upd_off h2]; decide), fun h => (f5.out (upd_of rfl h)), fun _ => rfl, fun h => absurd (hc.reach (f := 8) (s := 7) (l := 6) (by kernel_rfl) (upd_of rfl h)) (by rw [hun]; decide), fun h => absurd (hc.reach (f := 8) (s := 8) (l := 6) (by kernel_rfl) (upd_of rfl h)) (by rw [hun]; decide), fun h => (f9.out (upd_of rfl h)), fun h => (f10.out (upd_of rfl h)).same 6, fun h => (f11.out (upd_of rfl h)), trivial⟩
              · intro dd aa ww K hc hun hn hI hK
                obtain ⟨blk, y73, y74, y75, y76, y77, y78, y72, y79, y80, y14, y15, ea, hb, hX, f0, f1, f2, f3, f4, f5, f6, f7, f8, f9, f10, f11, _⟩ := hI
                try simp [Region.binds] at hn
                obtain ⟨ahAU, nhAU, chAU, ahAD, nhAD, chAD, ex, hAU, hAD⟩ := f5.out (by first | (simp [hn]; done) | exact hc.reach (f := 8) (by decide +kernel) hn | exact hc.reach (f := 8) (by decide +kernel) hn.1 | exact hc.reach (f := 8) (by decide +kernel) hn.2 | exact hc.reach (f := 8) (by decide +kernel) hn.2.1 | exact hc.reach (f := 8) (by decide +kernel) hn.2.2 | exact hc.reach (f := 8) (by decide +kernel) hn.2.2.1 | exact hc.reach (f := 8) (by decide +kernel) hn.2.2.2)
                subst ex
                have ex : y72 = .tuple #[.agg #[.bool (neg (B).num), .slice ahAU nhAU chAU, .slice ahAD nhAD chAD], .int .i64 0] := f6.out (by first | (simp [hn]; done) | exact hc.reach (f := 8) (by decide +kernel) hn | exact hc.reach (f := 8) (by decide +kernel) hn.1 | exact hc.reach (f := 8) (by decide +kernel) hn.2 | exact hc.reach (f := 8) (by decide +kernel) hn.2.1 | exact hc.reach (f := 8) (by decide +kernel) hn.2.2 | exact hc.reach (f := 8) (by decide +kernel) hn.2.2.1 | exact hc.reach (f := 8) (by decide +kernel) hn.2.2.2)
                subst ex
                subst ea
                simp only [puts, Act.put, List.setIfInBounds_toArray, List.set_cons_zero, List.set_cons_succ]
                go_simp
                refine hK.out _ _ ?_
                exact ⟨blk, y73, y74, y75, y76, y77, .tuple #[.agg #[.bool (neg (B).num), .slice ahAU nhAU chAU, .slice ahAD nhAD chAD], .int .i64 0], .tuple #[.agg #[.bool (neg (B).num), .slice ahAU nhAU chAU, .slice ahAD nhAD chAD], .int .i64 0], .agg #[.bool (neg (B).num), .slice ahAU nhAU chAU, .slice ahAD nhAD chAD], y80, y14, y15, by simp only [puts, Act.put, List.setIfInBounds_toArray, List.set_cons_zero, List.set_cons_succ], hb, hX.same 7 rfl, fun h => (f0.out (upd_of rfl h)), fun h => (f1.out (upd_of rfl h)), fun h => (f2.out (upd_of rfl h)), fun h => (f3.out (upd_of rfl h)), fun _ h2 => absurd (show dd 5 = true from (by first | (simp [hn]; done) | exact hc.reach (f := 8) (by decide +kernel) hn | exact hc.reach (f := 8) (by decide +kernel) hn.1 | exact hc.reach (f := 8) (by decide +kernel) hn.2 | exact hc.reach (f := 8) (by decide +kernel) hn.2.1 | exact hc.reach (f := 8) (by decide +kernel) hn.2.2 | exact hc.reach (f := 8) (by decide +kernel) hn.2.2.1 | exact hc.reach (f := 8) (by decide +kernel) hn.2.2.2)) (by rw [upd_off h2]; decide), fun h => (f5.out (upd_of rfl h)), fun h => rfl, fun _ => rfl, fun h => (f8.out (upd_of rfl h)), fun h => (f9.out (upd_of rfl h)), fun h => absurd (HoldsV.vp (f10.out (upd_of rfl h))) (by rw [hun]; decide), fun h => (f11.out (upd_of rfl h)), trivial⟩
              · intro dd aa ww K hc hun hn hI hK
                obtain ⟨blk, y73, y74, y75, y76, y77, y78, y72, y79, y80, y14, y15, ea, hb, hX, f0, f1, f2, f3, f4, f5, f6, f7, f8, f9, f10, f11, _⟩ := hI
                try simp [Region.binds] at hn
                obtain ⟨ahAU, nhAU, chAU, ahAD, nhAD, chAD, ex, hAU, hAD⟩ := f5.out (by first | (simp [hn]; done) | exact hc.reach (f := 8) (by decide +kernel) hn | exact hc.reach (f := 8) (by decide +kernel) hn.1 | exact hc.reach (f := 8) (by decide +kernel) hn.2 | exact hc.reach (f := 8) (by decide +kernel) hn.2.1 | exact hc.reach (f := 8) (by decide +kernel) hn.2.2 | exact hc.reach (f := 8) (by decide +kernel) hn.2.2.1 | exact hc.reach (f := 8) (by decide +kernel) hn.2.2.2)
                subst ex
                have ex : y72 = .tuple #[.agg #[.bool (neg (B).num), .slice ahAU nhAU chAU, .slice ahAD nhAD chAD], .int .i64 0] := f6.out (by first | (simp [hn]; done) | exact hc.reach (f := 8) (by decide +kernel) hn | exact hc.reach (f := 8) (by decide +kernel) hn.1 | exact hc.reach (f := 8) (by decide +kernel) hn.2 | exact hc.reach (f := 8) (by decide +kernel) hn.2.1 | exact hc.reach (f := 8) (by decide +kernel) hn.2.2 | exact hc.reach (f := 8) (by decide +kernel) hn.2.2.1 | exact hc.reach (f := 8) (by decide +kernel) hn.2.2.2)
                subst ex
                subst ea
                simp only [puts, Act.put, List.setIfInBounds_toArray, List.set_cons_zero, List.set_cons_succ]
                go_simp
                refine hK.out _ _ ?_
                exact ⟨blk, y73, y74, y75, y76, y77, .tuple #[.agg #[.bool (neg (B).num), .slice ahAU nhAU chAU, .slice ahAD nhAD chAD], .int .i64 0], .tuple #[.agg #[.bool (neg (B).num), .slice ahAU nhAU chAU, .slice ahAD nhAD chAD], .int .i64 0], y79, .int .i64 0, y14, y15, by simp only [puts, Act.put, List.setIfInBounds_toArray, List.set_cons_zero, List.set_cons_succ], hb, hX.same 8 rfl, fun h => (f0.out (upd_of rfl h)), fun h => (f1.out (upd_of rfl h)), fun h => (f2.out (upd_of rfl h)), fun h => (f3.out (upd_of rfl h)), fun _ h2 => absurd (show dd 5 = true from (by first | (simp [hn]; done) | exact hc.reach (f := 8) (by decide +kernel) hn | exact hc.reach (f := 8) (by decide +kernel) hn.1 | exact hc.reach (f := 8) (by decide +kernel) hn.2 | exact hc.reach (f := 8) (by decide +kernel) hn.2.1 | exact hc.reach (f := 8) (by decide +kernel) hn.2.2 | exact hc.reach (f := 8) (by decide +kernel) hn.2.2.1 | exact hc.reach (f := 8) (by decide +kernel) hn.2.2.2)) (by rw [upd_off h2]; decide), fun h => (f5.out (upd_of rfl h)), fun h => rfl, fun h => (f7.out (upd_of rfl h)), fun _ => rfl, fun h => (f9.out (upd_of rfl h)), fun h => (f10.out (upd_of rfl h)).same 8, fun h => absurd (hc.reach (f := 8) (s := 11) (l := 8) (by kernel_rfl) (upd_of rfl h)) (by rw [hun]; decide), trivial⟩
              · intro dd aa ww K hc hun hn hI hK
                obtain ⟨blk, y73, y74, y75, y76, y77, y78, y72, y79, y80, y14, y15, ea, hb, hX, f0, f1, f2, f3, f4, f5, f6, f7, f8, f9, f10, f11, _⟩ := hI
                try simp [Region.binds] at hn
                subst ea
                simp only [puts, Act.put, List.setIfInBounds_toArray, List.set_cons_zero, List.set_cons_succ]
                go_simp
                refine hK.out _ _ ?_
                exact ⟨setB blk 9 ww.heap.size, y73, y74, y75, y76, y77, y78, y72, y79, y80, .pointer (some ⟨ww.heap.size, 0, none⟩), y15, by simp only [puts, Act.put, List.setIfInBounds_toArray, List.set_cons_zero, List.set_cons_succ], below_alloc hb _, hX.new hb.size 9 #[.bool false, .slice none 0 0, .slice none 0 0] _ rfl (by simp [notU_bool, notU_slice, notU_i64]), fun h => (f0.out (upd_of rfl h)), fun h => (f1.out (upd_of rfl h)), fun h => (f2.out (upd_of rfl h)).past ((Below.refl _ _).alloc (Nat.le_refl _) _), fun h => (f3.out (upd_of rfl h)), fun h h2 => ((f4.out (upd_of rfl h)) (upd_off h2)).past ((Below.refl _ _).alloc (Nat.le_refl _) _), fun h => (f5.out (upd_of rfl h)).past ((Below.refl _ _).alloc (Nat.le_refl _) _), fun h => (f6.out (upd_of rfl h)), fun h => (f7.out (upd_of rfl h)), fun h => (f8.out (upd_of rfl h)), fun _ => rfl, fun h => absurd (HoldsV.up (f10.out (upd_of rfl h))) (by rw [hun]; decide), fun h => (f11.out (upd_of rfl h)), trivial⟩
              · intro dd aa ww K hc hun hn hI hK
                obtain ⟨blk, y73, y74, y75, y76, y77, y78, y72, y79, y80, y14, y15, ea, hb, hX, f0, f1, f2, f3, f4, f5, f6, f7, f8, f9, f10, f11, _⟩ := hI
                try simp [Region.binds] at hn
                have ex := f9.out (by first | (simp [hn]; done) | exact hc.reach (f := 8) (by decide +kernel) hn | exact hc.reach (f := 8) (by decide +kernel) hn.1 | exact hc.reach (f := 8) (by decide +kernel) hn.2 | exact hc.reach (f := 8) (by decide +kernel) hn.2.1 | exact hc.reach (f := 8) (by decide +kernel) hn.2.2 | exact hc.reach (f := 8) (by decide +kernel) hn.2.2.1 | exact hc.reach (f := 8) (by decide +kernel) hn.2.2.2)
                subst ex
                obtain ⟨ahAU, nhAU, chAU, ahAD, nhAD, chAD, ex, hAU, hAD⟩ := f5.out (by first | (simp [hn]; done) | exact hc.reach (f := 8) (by decide +kernel) hn | exact hc.reach (f := 8) (by decide +kernel) hn.1 | exact hc.reach (f := 8) (by decide +kernel) hn.2 | exact hc.reach (f := 8) (by decide +kernel) hn.2.1 | exact hc.reach (f := 8) (by decide +kernel) hn.2.2 | exact hc.reach (f := 8) (by decide +kernel) hn.2.2.1 | exact hc.reach (f := 8) (by decide +kernel) hn.2.2.2)
                subst ex
                have ex : y72 = .tuple #[.agg #[.bool (neg (B).num), .slice ahAU nhAU chAU, .slice ahAD nhAD chAD], .int .i64 0] := f6.out (by first | (simp [hn]; done) | exact hc.reach (f := 8) (by decide +kernel) hn | exact hc.reach (f := 8) (by decide +kernel) hn.1 | exact hc.reach (f := 8) (by decide +kernel) hn.2 | exact hc.reach (f := 8) (by decide +kernel) hn.2.1 | exact hc.reach (f := 8) (by decide +kernel) hn.2.2 | exact hc.reach (f := 8) (by decide +kernel) hn.2.2.1 | exact hc.reach (f := 8) (by decide +kernel) hn.2.2.2)
                subst ex
                have ex : y79 = .agg #[.bool (neg (B).num), .slice ahAU nhAU chAU, .slice ahAD nhAD chAD] := f7.out (by first | (simp [hn]; done) | exact hc.reach (f := 8) (by decide +kernel) hn | exact hc.reach (f := 8) (by decide +kernel) hn.1 | exact hc.reach (f := 8) (by decide +kernel) hn.2 | exact hc.reach (f := 8) (by decide +kernel) hn.2.1 | exact hc.reach (f := 8) (by decide +kernel) hn.2.2 | exact hc.reach (f := 8) (by decide +kernel) hn.2.2.1 | exact hc.reach (f := 8) (by decide +kernel) hn.2.2.2)
                subst ex
                have hd9 : dd 9 = true := by simp [hn]
                have hv7 : dd 7 = true := by simp [hn]
                obtain ⟨x1, x2, x3⟩ := hX.at_ (9, 3) (by simp) hd9
                obtain ⟨v0, v1, v2, z0, z1, z2, z3, z4, z5, _, _, _⟩ := x3.three
                have hv : ∀ v ∈ ([.bool (neg (B).num), .slice ahAU nhAU chAU, .slice ahAD nhAD chAD] : List Value), notU v := by simp [notU_bool, notU_slice, notU_i64]
                subst ea
                simp only [puts, Act.put, List.setIfInBounds_toArray, List.set_cons_zero, List.set_cons_succ]
                go_simp
                refine hK.out _ _ ?_
                exact ⟨blk, y73, y74, y75, y76, y77, .tuple #[.agg #[.bool (neg (B).num), .slice ahAU nhAU chAU, .slice ahAD nhAD chAD], .int .i64 0], .tuple #[.agg #[.bool (neg (B).num), .slice ahAU nhAU chAU, .slice ahAD nhAD chAD], .int .i64 0], .agg #[.bool (neg (B).num), .slice ahAU nhAU chAU, .slice ahAD nhAD chAD], y80, .pointer (some ⟨blk 9, 0, none⟩), y15, by simp only [puts, Act.put, List.setIfInBounds_toArray, List.set_cons_zero, List.set_cons_succ], hb.trans (below_setCells _ _ x1 [.bool (neg (B).num), .slice ahAU nhAU chAU, .slice ahAD nhAD chAD] 0 _), (hX.sets [.bool (neg (B).num), .slice ahAU nhAU chAU, .slice ahAD nhAD chAD] _ 0 _ hv).same 10 rfl, fun h => (f0.out (upd_of rfl h)), fun h => (f1.out (upd_of rfl h)), fun h => ((f2.out (upd_of rfl h)).sets [.bool (neg (B).num), .slice ahAU nhAU chAU, .slice ahAD nhAD chAD] x3 (by simp) hv), fun h => (f3.out (upd_of rfl h)), fun _ h2 => absurd (show dd 5 = true from (by first | (simp [hn]; done) | exact hc.reach (f := 8) (by decide +kernel) hn | exact hc.reach (f := 8) (by decide +kernel) hn.1 | exact hc.reach (f := 8) (by decide +kernel) hn.2 | exact hc.reach (f := 8) (by decide +kernel) hn.2.1 | exact hc.reach (f := 8) (by decide +kernel) hn.2.2 | exact hc.reach (f := 8) (by decide +kernel) hn.2.2.1 | exact hc.reach (f := 8) (by decide +kernel) hn.2.2.2)) (by rw [upd_off h2]; decide), fun h => ((f5.out (upd_of rfl h)).sets [.bool (neg (B).num), .slice ahAU nhAU chAU, .slice ahAD nhAD chAD] x3 (by simp) hv), fun h => rfl, fun h => rfl, fun h => (f8.out (upd_of rfl h)), fun h => rfl, fun _ => (HoldsV.new hd9 hv7 x2 x3 [.bool (neg (B).num), .slice ahAU nhAU chAU, .slice ahAD nhAD chAD] (by simp)).same 10, fun h => (f11.out (upd_of rfl h)), trivial⟩
              · intro dd aa ww K hc hun hn hI hK
                obtain ⟨blk, y73, y74, y75, y76, y77, y78, y72, y79, y80, y14, y15, ea, hb, hX, f0, f1, f2, f3, f4, f5, f6, f7, f8, f9, f10, f11, _⟩ := hI
                try simp [Region.binds] at hn
                obtain ⟨ahAU, nhAU, chAU, ahAD, nhAD, chAD, ex, hAU, hAD⟩ := f5.out (by first | (simp [hn]; done) | exact hc.reach (f := 8) (by decide +kernel) hn | exact hc.reach (f := 8) (by decide +kernel) hn.1 | exact hc.reach (f := 8) (by decide +kernel) hn.2 | exact hc.reach (f := 8) (by decide +kernel) hn.2.1 | exact hc.reach (f := 8) (by decide +kernel) hn.2.2 | exact hc.reach (f := 8) (by decide +kernel) hn.2.2.1 | exact hc.reach (f := 8) (by decide +kernel) hn.2.2.2)
                subst ex
                have ex : y72 = .tuple #[.agg #[.bool (neg (B).num), .slice ahAU nhAU chAU, .slice ahAD nhAD chAD], .int .i64 0] := f6.out (by first | (simp [hn]; done) | exact hc.reach (f := 8) (by decide +kernel) hn | exact hc.reach (f := 8) (by decide +kernel) hn.1 | exact hc.reach (f := 8) (by decide +kernel) hn.2 | exact hc.reach (f := 8) (by decide +kernel) hn.2.1 | exact hc.reach (f := 8) (by decide +kernel) hn.2.2 | exact hc.reach (f := 8) (by decide +kernel) hn.2.2.1 | exact hc.reach (f := 8) (by decide +kernel) hn.2.2.2)
                subst ex
                have ex : y80 = .int .i64 0 := f8.out (by first | (simp [hn]; done) | exact hc.reach (f := 8) (by decide +kernel) hn | exact hc.reach (f := 8) (by decide +kernel) hn.1 | exact hc.reach (f := 8) (by decide +kernel) hn.2 | exact hc.reach (f := 8) (by decide +kernel) hn.2.1 | exact hc.reach (f := 8) (by decide +kernel) hn.2.2 | exact hc.reach (f := 8) (by decide +kernel) hn.2.2.1 | exact hc.reach (f := 8) (by decide +kernel) hn.2.2.2)
                subst ex
                subst ea
                simp only [puts, Act.put, List.setIfInBounds_toArray, List.set_cons_zero, List.set_cons_succ]
                go_simp
                refine hK.out _ _ ?_
                exact ⟨blk, y73, y74, y75, y76, y77, .tuple #[.agg #[.bool (neg (B).num), .slice ahAU nhAU chAU, .slice ahAD nhAD chAD], .int .i64 0], .tuple #[.agg #[.bool (neg (B).num), .slice ahAU nhAU chAU, .slice ahAD nhAD chAD], .int .i64 0], y79, .int .i64 0, y14, .int .i64 0, by simp only [puts, Act.put, List.setIfInBounds_toArray, List.set_cons_zero, List.set_cons_succ], hb, hX.same 11 rfl, fun h => (f0.out (upd_of rfl h)), fun h => (f1.out (upd_of rfl h)), fun h => (f2.out (upd_of rfl h)), fun h => (f3.out (upd_of rfl h)), fun _ h2 => absurd (show dd 5 = true from (by first | (simp [hn]; done) | exact hc.reach (f := 8) (by decide +kernel) hn | exact hc.reach (f := 8) (by decide +kernel) hn.1 | exact hc.reach (f := 8) (by decide +kernel) hn.2 | exact hc.reach (f := 8) (by decide +kernel) hn.2.1 | exact hc.reach (f := 8) (by decide +kernel) hn.2.2 | exact hc.reach (f := 8) (by decide +kernel) hn.2.2.1 | exact hc.reach (f := 8) (by decide +kernel) hn.2.2.2)) (by rw [upd_off h2]; decide), fun h => (f5.out (upd_of rfl h)), fun h => rfl, fun h => (f7.out (upd_of rfl h)), fun h => rfl, fun h => (f9.out (upd_of rfl h)), fun h => (f10.out (upd_of rfl h)).same 11, fun _ => rfl, trivial⟩
            intro dd aa w3 hd hI
            obtain ⟨blk, y73, y74, y75, y76, y77, y78, y72, y79, y80, y14, y15, ea, hb, hX, f0, f1, f2, f3, f4, f5, f6, f7, f8, f9, f10, f11, _⟩ := hI
            have ex := f0.out (hd 0 (by simp))
            subst ex
            have ex := f1.out (hd 1 (by simp))
            subst ex
            obtain ⟨ahIU, nhIU, chIU, ahID, nhID, chID, ex, hIU, hID⟩ := f2.out (hd 2 (by simp))
            subst ex
            have ex := f3.out (hd 3 (by simp))
            subst ex
            obtain ⟨ahAU, nhAU, chAU, ahAD, nhAD, chAD, ex, hAU, hAD⟩ := f5.out (hd 5 (by simp))
            subst ex
            have ex : y72 = .tuple #[.agg #[.bool (neg (B).num), .slice ahAU nhAU chAU, .slice ahAD nhAD chAD], .int .i64 0] := f6.out (hd 6 (by simp))
            subst ex
            have ex : y79 = .agg #[.bool (neg (B).num), .slice ahAU nhAU chAU, .slice ahAD nhAD chAD] := f7.out (hd 7 (by simp))
            subst ex
            have ex : y80 = .int .i64 0 := f8.out (hd 8 (by simp))
            subst ex
            have ex := f9.out (hd 9 (by simp))
            subst ex
            obtain ⟨vs10, e, h10⟩ := f10.out (hd 10 (by simp))
            cases e
            have ex : y15 = .int .i64 0 := f11.out (hd 11 (by simp))
            subst ex
            have lboth := h10.lt
            have qboth0 := h10.at_ 0 (by simp)
            simp only [List.getElem?_cons_zero, List.getElem?_cons_succ] at qboth0
            have qboth1 := h10.at_ 1 (by simp)
            simp only [List.getElem?_cons_zero, List.getElem?_cons_succ] at qboth1
            have qboth2 := h10.at_ 2 (by simp)
            simp only [List.getElem?_cons_zero, List.getElem?_cons_succ] at qboth2
            have ubothmore : w1.heap.size < blk 9 := Nat.lt_of_lt_of_le lmore (hX.at_ (9, 3) (by simp) (hd 9 (by simp))).1
            generalize blk 9 = Bboth at *
            subst ea
            simp only [puts, Act.put, List.setIfInBounds_toArray, List.set_cons_zero, List.set_cons_succ]
            have hIU := hIU.mono hZ.size
            have hID := hID.mono hZ.size
            have hAU := hAU.mono hZ.size
            have hAD := hAD.mono hZ.size
            have h1 := h1.past hb
            have hSU := hSU.past hb
            have hSD := hSD.past hb
            have qmore0 := bq hb lmore qmore0; have qmore1 := bq hb lmore qmore1; have qmore2 := bq hb lmore qmore2
            have xmore := xmore.past hb lmore
            have lmore := bl hb lmore
            have hB := below_later hB hb
            have hZ := below_later hZ hb
            clear hX
            clear hb hd
            rcases h1.cell with h0 | ⟨b, o, rfl, hbl, hcl2⟩
            · omega
            have hq := hcl2 i HIK.out
            rw [HG.out] at hq
            clear hcl2
            go_wp2_with fail
            refine wp_region_held_drew (S := fun w' => (w'.cell? ⟨Bboth, 0, none⟩ = some (.bool (neg (B).num)) ∧ w'.cell? ⟨Bboth, 1, none⟩ = some (.slice ahAU nhAU chAU) ∧ w'.cell? ⟨Bboth, 2, none⟩ = some (.slice ahAD nhAD chAD)) ∧ Below w3.heap.size w3 w') (by kernel_rfl) ⟨⟨((Below.refl w3.heap.size w3).drew.cell (p := ⟨Bboth, 0, none⟩) lboth).trans qboth0, ((Below.refl w3.heap.size w3).drew.cell (p := ⟨Bboth, 1, none⟩) lboth).trans qboth1, ((Below.refl w3.heap.size w3).drew.cell (p := ⟨Bboth, 2, none⟩) lboth).trans qboth2⟩, (Below.refl _ _).drew⟩ (fun hHeld => ?_)
            refine takeL 0 (?_) rfl (by kernel_rfl) (by kernel_rfl) (by kernel_rfl) (fun _ _ _ h => h) (Or.inl ⟨by rfl, ?_⟩) (by assumption) ?_
            rotate_left
            · intro ws hSw; obtain ⟨⟨s0, s1, s2⟩, sB⟩ := hSw; go_simp; with_reducible rfl
            try simp only [Act.put, List.setIfInBounds_toArray, List.set_cons_zero, List.set_cons_succ]
            refine takeL 1 (?_) rfl (by kernel_rfl) (by kernel_rfl) (by kernel_rfl) (fun _ _ _ h => h) (Or.inl ⟨by rfl, ?_⟩) (by assumption) ?_
            rotate_left
            · intro ws hSw; obtain ⟨⟨s0, s1, s2⟩, sB⟩ := hSw; go_simp; with_reducible rfl
            try simp only [Act.put, List.setIfInBounds_toArray, List.set_cons_zero, List.set_cons_succ]
            refine takeL 2 (?_) rfl (by kernel_rfl) (by kernel_rfl) (by kernel_rfl) (fun _ _ _ h => h) (Or.inl ⟨by rfl, ?_⟩) (by assumption) ?_
            rotate_left
            · intro ws hSw; obtain ⟨⟨s0, s1, s2⟩, sB⟩ := hSw; go_simp; with_reducible rfl
            try simp only [Act.put, List.setIfInBounds_toArray, List.set_cons_zero, List.set_cons_succ]
            refine takeL 3 (?_) rfl (by kernel_rfl) (by kernel_rfl) (by kernel_rfl) (fun _ _ _ h => h) (Or.inl ⟨by rfl, ?_⟩) (by assumption) ?_
            rotate_left
            · intro ws hSw; obtain ⟨⟨s0, s1, s2⟩, sB⟩ := hSw; go_simp; with_reducible rfl
            try simp only [Act.put, List.setIfInBounds_toArray, List.set_cons_zero, List.set_cons_succ]
            refine takeL 4 (?_) rfl (by kernel_rfl) (by kernel_rfl) (by kernel_rfl) (fun _ _ _ h => h) (Or.inl ⟨by rfl, ?_⟩) (by assumption) ?_
            rotate_left
            · intro ws hSw; obtain ⟨⟨s0, s1, s2⟩, sB⟩ := hSw; go_simp; with_reducible rfl
            try simp only [Act.put, List.setIfInBounds_toArray, List.set_cons_zero, List.set_cons_succ]
            refine takeL 5 (.int .i64 (i : Int)) rfl (by kernel_rfl) (by kernel_rfl) (by kernel_rfl) (fun _ _ _ h => h) (Or.inl ⟨by rfl, ?_⟩) (by assumption) ?_
            · intro ws hSw; obtain ⟨⟨s0, s1, s2⟩, sB⟩ := hSw; have td := TD.out; go_simp
            try simp only [Act.put, List.setIfInBounds_toArray, List.set_cons_zero, List.set_cons_succ]
            refine takeL 6 (.pointer (some ⟨b, o + i, none⟩)) rfl (by kernel_rfl) (by kernel_rfl) (by kernel_rfl) (fun _ _ _ h => h) (Or.inl ⟨by rfl, ?_⟩) (by assumption) ?_
            · intro ws hSw; obtain ⟨⟨s0, s1, s2⟩, sB⟩ := hSw; have hik := HIK.out; go_simp
            try simp only [Act.put, List.setIfInBounds_toArray, List.set_cons_zero, List.set_cons_succ]
            refine takeL 7 (.int .i64 Z) rfl (by kernel_rfl) (by kernel_rfl) (by kernel_rfl) (fun _ _ _ h => h) (Or.inl ⟨by rfl, ?_⟩) (by assumption) ?_
            · intro ws hSw; obtain ⟨⟨s0, s1, s2⟩, sB⟩ := hSw; have e := (sB.cell (p := ⟨b, o + i, none⟩) hbl).trans hq; go_simp
            try simp only [Act.put, List.setIfInBounds_toArray, List.set_cons_zero, List.set_cons_succ]
            refine takeL 8 (?_) rfl (by kernel_rfl) (by kernel_rfl) (by kernel_rfl) (fun _ _ _ h => h) (Or.inl ⟨by rfl, ?_⟩) (by assumption) ?_
            rotate_left
            · intro ws hSw; obtain ⟨⟨s0, s1, s2⟩, sB⟩ := hSw; go_simp; with_reducible rfl
            try simp only [Act.put, List.setIfInBounds_toArray, List.set_cons_zero, List.set_cons_succ]
            refine takeL 9 (.agg #[.bool (neg (B).num), .slice ahAU nhAU chAU, .slice ahAD nhAD chAD]) rfl (by kernel_rfl) (by kernel_rfl) (by kernel_rfl) (fun _ _ _ h => h) (Or.inl ⟨by rfl, ?_⟩) (by assumption) ?_
            · intro ws hSw; obtain ⟨⟨s0, s1, s2⟩, sB⟩ := hSw; go_simp
            try simp only [Act.put, List.setIfInBounds_toArray, List.set_cons_zero, List.set_cons_succ]
            refine wpAnyH_ready (rs := [10]) (by kernel_rfl) (by simp) ?_
            refine consL rfl (fun K hK => ?_) AllReadyH.nil
            go_simp
            have hS := hHeld
            with_reducible refine (near13_yes Z sc (hAU.past hS.2).toNatAt (hAD.past hS.2).toNatAt LB.out hs2b HZB.out HZD.out).mono ?_
            rintro e w4 ⟨rfl, hbw4⟩
            refine hK.out _ _ ⟨⟨((below_later hS.2 hbw4).cell (p := ⟨Bboth, 0, none⟩) lboth).trans qboth0, ((below_later hS.2 hbw4).cell (p := ⟨Bboth, 1, none⟩) lboth).trans qboth1, ((below_later hS.2 hbw4).cell (p := ⟨Bboth, 2, none⟩) lboth).trans qboth2⟩, below_later hS.2 hbw4⟩ (fun hHeld => ?_)
            clear hK K hS
            try simp only [Act.put, List.setIfInBounds_toArray, List.set_cons_zero, List.set_cons_succ]
            refine takeL 11 (?_) rfl (by kernel_rfl) (by kernel_rfl) (by kernel_rfl) (fun _ _ _ h => h) (Or.inl ⟨by rfl, ?_⟩) (by assumption) ?_
            rotate_left
            · intro ws hSw; obtain ⟨⟨s0, s1, s2⟩, sB⟩ := hSw; go_simp; with_reducible rfl
            try simp only [Act.put, List.setIfInBounds_toArray, List.set_cons_zero, List.set_cons_succ]
            refine takeL 12 (?_) rfl (by kernel_rfl) (by kernel_rfl) (by kernel_rfl) (fun _ _ _ h => h) (Or.inl ⟨by rfl, ?_⟩) (by assumption) ?_
            rotate_left
            · intro ws hSw; obtain ⟨⟨s0, s1, s2⟩, sB⟩ := hSw; go_simp; with_reducible rfl
            try simp only [Act.put, List.setIfInBounds_toArray, List.set_cons_zero, List.set_cons_succ]
            refine wpAnyH_done (by kernel_rfl) ?_ _
            have hbR := hHeld.2
            have h1 := h1.past hbR
            have hAU := hAU.past hbR
            have hAD := hAD.past hbR
            have qboth0 := bq hbR lboth qboth0; have qboth1 := bq hbR lboth qboth1; have qboth2 := bq hbR lboth qboth2
            have lboth := bl hbR lboth
            have hB := below_later hB hbR
            have hZ := below_later hZ hbR
            clear hHeld hbR
            go_wp2
            go_roundw
            case rel => exact ⟨d + 1, by omega, by omega, by go_num, h1, hB⟩
            case measure => simp [intOf]; omega
      · go_wp2
        go_ret
        exact ⟨rfl, hB⟩
  · rw [if_neg hok] at hT
    have hle : (sc : Int) ≤ (kN : Int) := by
      by_cases h : kN < sc
      · exact absurd (hno h) hok
      · omega
    have HT := Lib.hid hT
    clear hT hno hok hin
    have tk := TK.out
    have ts := TS.out
    have tu := TU.out
    go_enter Try.func5, Try.ntmps5
    have hB := Below.refl w.heap.size w
    go_wp2_with fail
    with_reducible refine (awake13 _).mono ?_
    rintro e w1 ⟨rfl, hb⟩
    have hB := below_later hB hb
    clear hb
    go_wp2_with fail
    with_reducible refine (pick_any x 40 _ HX.out.1 HX.out.2 (by decide)).mono ?_
    rintro e w' ⟨rfl, rfl⟩
    rw [HP.out]
    go_wp2_with fail
    with_reducible refine (pick_any y 10000 _ HY.out.1 HY.out.2 (by decide)).mono ?_
    rintro e w' ⟨rfl, rfl⟩
    rw [HR.out]
    go_wp2_with fail
    with_reducible refine (pick_any z (kN : Int) _ HZI.out.1 HZI.out.2 (by omega)).mono ?_
    rintro e w' ⟨rfl, rfl⟩
    rw [HU.out]
    go_wp2_with fail
    with_reducible refine (pick_any v 301 _ HV.out.1 HV.out.2 (by decide)).mono ?_
    rintro e w' ⟨rfl, rfl⟩
    rw [HMS.out]
    go_wp2_with fail
    with_reducible refine (part13_hund HM.out _ HMB.out).mono ?_
    rintro e w2 ⟨ahMU, nhMU, chMU, ahMD, nhMD, chMD, rfl, hMU, hMD, hb⟩
    have hB := below_later hB hb
    clear hb
    clear tk ts tu
    go_wp2_with fail
    with_reducible refine (robust_err HT.out hMU.toNatAt hMD.toNatAt (Nat.le_trans LM.out (by decide))).mono ?_
    rintro e w3 ⟨a1, n1, c1, rfl, hb⟩
    have hMU := hMU.past hb
    have hMD := hMD.past hb
    have hB := below_later hB hb
    clear hb
    go_wp2
    go_ret
    exact ⟨rfl, hB⟩

end Go.Proofs.Ytlkoenpdmlbhlaa
