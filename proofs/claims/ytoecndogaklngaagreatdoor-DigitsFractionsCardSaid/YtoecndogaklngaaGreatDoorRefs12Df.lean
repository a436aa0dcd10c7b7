import Derived.Deep.RegionHeld3
import Derived.Deep.DeepFit
import Derived.Test.YtoecndogaklngaaGreatDoorS0Df
import Derived.Test.YtoecndogaklngaaGreatDoorNumDf
import Derived.Test.YtoecndogaklngaaGreatDoorRefs11Df
import Derived.Test.YtoecndogaklngaaGreatDoorRefs1Df
import Derived.Test.YtoecndogaklngaaGreatDoorQuot3Df
set_option linter.unusedVariables false
set_option linter.unusedSimpArgs false
namespace Go.Proofs.YtoecndogaklngaaGreatDoor
open Go.RowKit
theorem upon_make_nat {P : Program} {w : World} {o : Oper} {a : Act} {K : Act → World → Prop} {Q : Exit → Act → World → Prop} (T E : Nat) (i : TypeInfo)
 (ht : P.underlying T = some (.slice E)) (hi : P.info? E = some i) (hz : i.zero = some (.int .u64 0)) (hsize : i.size = 1) (hby : i.bytes = 8)
 (n : Nat) (N : Int) (hN : N = (n : Int)) (hs : n ≤ 1099511627776)
 (h : ∀ w' b, RowKit.Hid (b = w.heap.size) → OwnAt w' w.heap.size (some ⟨b, 0, none⟩) n n (List.replicate n 0) → Below w.heap.size w w' → K (a.put o.dst (.slice (some ⟨b, 0, none⟩) n n)) w') :
 Oper.upon P o a K Q (((Instr.makeSlice T (.int .i64 N) (.int .i64 N)).run P w).andThen fun a w' => Result.ok (Next.value a) w') := by
 subst hN
 obtain ⟨w', hrun, r1, r2⟩ := run_make_full (P := P) w w.heap.size T E i (.int .u64 0) 1 ht hi hz hsize .i64 .i64 n (by rw [hby]; omega) (by simp only [maxLen]; omega) (Nat.le_refl _)
 rw [hrun]
 exact h w' _ (Lib.hid rfl) (made_own (by rw [← toList_madeCells_one]; rw [Nat.mul_one] at r1; exact r1)) ((Below.refl _ _).grown r2 (Nat.le_refl _) (fun k e => by cases e))
set_option maxRecDepth 100000 in
theorem rdiv_less (a : Option Addr) (n c : Nat) (l : List Nat) (a2 : Option Addr) (n2 c2 : Nat) (l2 : List Nat) (w : World) (h : NatAt w a n c l) (h2 : NatAt w a2 n2 c2 l2) (hs : n ≤ 200000) (hs2 : n2 ≤ 200000) (hz : val l2 ≠ 0) (hv : nbits (val l) < nbits (val l2)) :
 Calls Tryz.prog 67 #[.slice a n c, .slice a2 n2 c2] w (RetDiv w (val l / val l2) (val l % val l2)) := by
 have hlt : val l < val l2 := by
  rcases Nat.lt_or_ge (val l) (val l2) with h' | h'
  · exact h'
  · have := nbits_le (n := val l2) (k := nbits (val l)) (Nat.lt_of_le_of_lt h' (nbits_lt _)); omega
 rw [Nat.div_eq_of_lt hlt, Nat.mod_eq_of_lt hlt]
 have hz4 := digsN_pos hz
 have HZ := Lib.hid hz4
 have HV := Lib.hid hv
 clear hz hv hlt hz4
 go_enter Tryz.func67, Tryz.ntmps67
 go_wp2_with fail
 with_reducible refine (rtrim_any _ _ _ l2 _ h2 (by omega)).mono ?_
 rintro e w2 ⟨a4, n4, c4, rfl, h4, hb⟩
 have t4 : ((n4 : Int) == 0) = false := beq_pos (by have := h4.len; have := HZ.out; omega)
 have b4 : n4 ≤ n2 := by have e1 := h4.len; have e2 := h2.short; omega
 have h := h.past hb
 go_wp2_with fail
 with_reducible refine (rlen_any _ _ _ l _ h (by omega)).mono ?_
 rintro e w5 ⟨rfl, hb5⟩
 have h := h.past hb5
 have h4 := h4.past hb5
 have hb := below_later hb hb5
 clear hb5
 go_wp2_with fail
 with_reducible refine (rlen_any _ _ _ (digs (val l2)) _ h4.toNatAt (by omega)).mono ?_
 rintro e w6 ⟨rfl, hb6⟩
 rw [val_digs]
 have h := h.past hb6
 have hb := below_later hb hb6
 clear hb6
 have tn : (nbits (val l) : Int) - (nbits (val l2) : Int) < 0 := by have := HV.out; omega
 have k1 := nbits_le_len h.dig
 have k2 := nbits_le_len h2.dig
 rw [h.len] at k1
 rw [h2.len] at k2
 go_wp2_with fail
 with_reducible refine (rtrim_any _ _ _ l _ h (by omega)).mono ?_
 rintro e w7 ⟨a7, n7, c7, rfl, h7, hb7⟩
 go_wp2
 go_ret3
 exact ⟨_, _, _, _, _, _, rfl, OwnAt.nil _ _, h7.mono hb.size, below_later hb hb7⟩
theorem top_none {L p z R : Nat} (h : L + p * z = R) (hR : R < p) : L = R := by
 rcases Nat.eq_zero_or_pos z with h0 | h0
 · rw [h0] at h; omega
 · have := Nat.le_mul_of_pos_right p h0
   omega
theorem q_bit {qs : List Nat} (hd : Dig qs) {A B i : Nat} (hlt : i / 64 < qs.length) (hq : val qs = A / 2 ^ (i + 1) / B * 2 ^ (i + 1)) (he : A / 2 ^ i / B = 2 * (A / 2 ^ (i + 1) / B) + 1) :
 bits .or .u64 (D qs (i / 64) : Int) (IntKind.u64.wrap ((2 : Int) ^ (i % 64))) = ((D qs (i / 64) + 2 ^ (i % 64) : Nat) : Int) ∧ D qs (i / 64) + 2 ^ (i % 64) < 18446744073709551616 ∧ val (qs.set (i / 64) (D qs (i / 64) + 2 ^ (i % 64))) = A / 2 ^ i / B * 2 ^ i := by
 have hdl := hd.at_ (i / 64)
 have hlow := low_digit hd (M := A / 2 ^ (i + 1) / B) (q := i / 64) (r := i % 64) (by omega) (by rw [hq]; congr 2; omega)
 obtain ⟨o1, o2⟩ := or_free (by omega) hlow hdl
 have hset := val_set (l := qs) (k := i / 64) (d := D qs (i / 64) + 2 ^ (i % 64)) (e := 2 ^ (i % 64)) hlt rfl
 have hpl : (2 : Nat) ^ (i % 64) < 18446744073709551616 := Nat.lt_of_le_of_lt (Nat.pow_le_pow_right (by decide) (show i % 64 ≤ 63 by omega)) (by decide)
 have hor := u64_or_nat (D qs (i / 64)) (2 ^ (i % 64)) hdl hpl
 rw [o1] at hor
 have hwr : IntKind.u64.wrap ((2 : Int) ^ (i % 64)) = ((2 ^ (i % 64) : Nat) : Int) := by
  have e : ((2 : Int) ^ (i % 64)) = ((2 ^ (i % 64) : Nat) : Int) := by rw [Int.natCast_pow]; rfl
  rw [e, IntKind.wrap_u64]
  generalize 2 ^ (i % 64) = y at hpl ⊢
  omega
 refine ⟨by rw [hwr]; exact hor, o2, ?_⟩
 rw [hset, hq, he]
 have e3 : (18446744073709551616 : Nat) ^ (i / 64) * 2 ^ (i % 64) = 2 ^ i := by
  rw [show (18446744073709551616 : Nat) = 2 ^ 64 by decide, ← Nat.pow_mul, ← Nat.pow_add, show 64 * (i / 64) + i % 64 = i by omega]
 generalize A / 2 ^ (i + 1) / B = Q
 rw [e3, Nat.pow_succ]
 generalize 2 ^ i = p
 rw [Nat.add_mul, Nat.one_mul]
 have : Q * (p * 2) = 2 * Q * p := by rw [Nat.mul_comm p 2, ← Nat.mul_assoc, Nat.mul_comm Q 2]
 omega
theorem toNat_bit (x : Nat) : (decide (x % 2 = 1)).toNat = x % 2 := by
 rcases Nat.mod_two_eq_zero_or_one x with h | h <;> simp [h]
set_option maxRecDepth 100000 in
set_option maxHeartbeats 4000000 in
theorem rdiv_ge (a : Option Addr) (n c : Nat) (l : List Nat) (a2 : Option Addr) (n2 c2 : Nat) (l2 : List Nat) (w : World) (h : NatAt w a n c l) (h2 : NatAt w a2 n2 c2 l2) (hs : n ≤ 200000) (hs2 : n2 ≤ 200000) (hz : val l2 ≠ 0) (hv : nbits (val l2) ≤ nbits (val l)) :
 Calls Tryz.prog 67 #[.slice a n c, .slice a2 n2 c2] w (RetDiv w (val l / val l2) (val l % val l2)) := by
 obtain ⟨i0, hi, hz0, hz1, hz2⟩ := info_parts info42
 have hz4 := digsN_pos hz
 have hB : 0 < val l2 := Nat.pos_of_ne_zero hz
 have hbeg := div_begin hB hv
 have hdl := h.dig
 have k1 := nbits_le_len h.dig
 rw [h.len] at k1
 have hnB1 : 0 < nbits (val l2) := nbits_gt (by rw [Nat.pow_zero]; exact hB)
 have hn0 : 0 < n := by omega
 have HZ := Lib.hid hz4
 have HBEG := Lib.hid hbeg
 clear hz hz4 hbeg
 go_enter Tryz.func67, Tryz.ntmps67
 go_wp2_with fail
 with_reducible refine (rtrim_any _ _ _ l2 _ h2 (by omega)).mono ?_
 rintro e w2 ⟨a4, n4, c4, rfl, h4, hb⟩
 have hn4 : 0 < n4 := by have := h4.len; have := HZ.out; omega
 have t4 : ((n4 : Int) == 0) = false := beq_pos (by omega)
 have b4 : n4 ≤ n2 := by have e1 := h4.len; have e2 := h2.short; omega
 have h := h.past hb
 have k2 := nbits_le_len h2.dig
 rw [h2.len] at k2
 clear h2
 obtain ⟨nA, hnA⟩ : ∃ m, nbits (val l) = m := ⟨_, rfl⟩
 obtain ⟨nB, hnB⟩ : ∃ m, nbits (val l2) = m := ⟨_, rfl⟩
 rw [hnA, hnB] at HBEG
 rw [hnA] at k1 hv
 rw [hnB] at hv k2 hnB1
 have HNA := Lib.hid hnA
 have HNB := Lib.hid hnB
 clear hnA hnB
 go_wp2_with fail
 with_reducible refine (rlen_any _ _ _ l _ h (by omega)).mono ?_
 rintro e w5 ⟨rfl, hb5⟩
 rw [HNA.out]
 have h := h.past hb5
 have h4 := h4.past hb5
 have hb := below_later hb hb5
 clear hb5
 go_wp2_with fail
 with_reducible refine (rlen_any _ _ _ (digs (val l2)) _ h4.toNatAt (by omega)).mono ?_
 rintro e w6 ⟨rfl, hb6⟩
 rw [val_digs, HNB.out]
 have h := h.past hb6
 have h4 := h4.toNatAt.past hb6
 have hb := below_later hb hb6
 clear hb6
 have tn : (0 : Int) ≤ (nA : Int) - (nB : Int) := by omega
 have tn2 : ¬ ((nA : Int) - (nB : Int) < 0) := by omega
 go_wp2_with fail
 have hwr : IntKind.i64.wrap ((n4 : Int) + 1) = ((n4 + 1 : Nat) : Int) := by rw [show (n4 : Int) + 1 = ((n4 + 1 : Nat) : Int) by omega]; exact IntWalk.i64_in _ (by omega)
 have HWR := Lib.hid hwr
 clear hwr
 go_region_held3 (fun w' => True ∧ Below w6.heap.size w6 w')
  (first
    | exact ⟨trivial, (Below.refl _ _).drew⟩
    | (rename _ ∧ Below w6.heap.size w6 _ => hT
       first
        | exact ⟨trivial, below_later hT.2 hb9⟩
        | exact ⟨trivial, hT.2.drew⟩)
    | assumption)
  (first
    | (refine upon_make_nat 23 42 i0 Tryz.underlying23 hi hz0 hz1 hz2 n _ rfl (by omega) ?_
       rename _ ∧ Below w6.heap.size w6 _ => hT
       intro w9 bq hbq h9 hb9
       try (have hne : bq ≠ br := by
             rcases h10.toNatAt.parts with h' | ⟨b', o', he, hlt, _⟩
             · omega
             · cases he; rw [hbq.out]; exact Nat.ne_of_gt hlt
            have h10 := h10.past hb9)
       have h9 := h9.mono hT.2.size
       have hbq1 : w6.heap.size ≤ bq := by rw [hbq.out]; exact hT.2.size)
    | (refine upon_make_nat 23 42 i0 Tryz.underlying23 hi hz0 hz1 hz2 (n4 + 1) _ HWR.out (by omega) ?_
       rename _ ∧ Below w6.heap.size w6 _ => hT
       intro w9 br hbr h10 hb9
       try (have hne : bq ≠ br := by
             rcases h9.toNatAt.parts with h' | ⟨b', o', he, hlt, _⟩
             · omega
             · cases he; rw [hbr.out]; exact Nat.ne_of_lt hlt
            have h9 := h9.past hb9)
       have h10 := h10.mono hT.2.size
       have hbr1 : w6.heap.size ≤ br := by rw [hbr.out]; exact hT.2.size))
 all_goals
  rename _ ∧ Below w6.heap.size w6 _ => hS
  have hW := hS.2
  clear hS hi hz0 hz1 hz2
  have hA := h.past hW
  have hBd := h4.past hW
  have hsn : ((nA : Int) - (nB : Int) + 1).toNat = nA - nB + 1 := by omega
  have HSN := Lib.hid hsn
  clear hsn
  go_wp2_with fail
  with_reducible refine (rshiftDown_any _ _ _ l _ _ hA (by omega) (by omega) (by omega)).mono ?_
  rintro e w11 ⟨a7, n7, c7, rfl, h7, hb11⟩
  rw [HSN.out] at h7
  have hW := below_later hW hb11
  have h9 := h9.past hb11
  have h10 := h10.past hb11
  have hn7 : n7 ≤ n4 := by rw [← h7.len, ← h4.len]; exact digs_len_mono (Nat.le_of_lt HBEG.out)
  have hcp := run_copy_nat h10 h7.toNatAt (by omega)
  obtain ⟨X, hX⟩ : ∃ X, val l / 2 ^ (nA - nB + 1) = X := ⟨_, rfl⟩
  rw [hX] at hcp h7
  have hRs := h10.setSome (l2 := digs X) (by rw [h7.len]; omega) (dig_digs _)
  have hQs := h9.setOther (bu := br) (s := 0) hne (dv (digs X))
  have hWs := hW.trans (below_setCells w6.heap.size br hbr1 (dv (digs X)) 0 w11)
  obtain ⟨Wc, hWc⟩ : ∃ Wc, w11.setCells br 0 (dv (digs X)) = Wc := ⟨_, rfl⟩
  rw [hWc] at hRs hQs hWs hcp
  have hr0 : val (digs X ++ (List.replicate (n4 + 1) 0).drop (digs X).length) = X := by rw [val_append, val_digs, List.drop_replicate, val_replicate, Nat.mul_zero, Nat.add_zero]
  obtain ⟨rs0, hrs0⟩ : ∃ rs0, digs X ++ (List.replicate (n4 + 1) 0).drop (digs X).length = rs0 := ⟨_, rfl⟩
  rw [hrs0] at hRs hr0
  have HX := Lib.hid hX
  have HR0 := Lib.hid hr0
  clear h9 h10 h7 hWc hrs0 hX hr0 hW hb11 hA hBd
  go_wp2_with fail
  go_loopw [12] (fun i wr => ∃ (k : Nat) (qs rs : List Nat), k ≤ nA - nB + 1 ∧ i = .int .i64 ((k : Int) - 1) ∧ OwnAt wr w6.heap.size (some ⟨bq, 0, none⟩) n n qs ∧ OwnAt wr w6.heap.size (some ⟨br, 0, none⟩) (n4 + 1) (n4 + 1) rs ∧ val qs = val l / 2 ^ k / val l2 * 2 ^ k ∧ val rs = val l / 2 ^ k % val l2 ∧ Below w6.heap.size w6 wr) (fun i _ => (intOf i + 1).toNat)
  case atStart =>
   exact ⟨nA - nB + 1, _, _, Nat.le_refl _, by congr 1; omega, hQs, hRs, by rw [val_replicate, HX.out, Nat.div_eq_of_lt (by rw [← HX.out]; exact HBEG.out), Nat.zero_mul], by rw [HR0.out, HX.out, Nat.mod_eq_of_lt (by rw [← HX.out]; exact HBEG.out)], hWs⟩
  case round =>
   clear hQs hRs hWs
   obtain ⟨k, qs, rs, hk, rfl, hQ, hR, hqv, hrv, hW⟩ := hrel
   by_cases hlt : 0 < k
   · obtain ⟨i, rfl⟩ : ∃ i, k = i + 1 := ⟨k - 1, by omega⟩
     obtain ⟨s, hsi⟩ : ∃ s : Int, s = (i : Int) := ⟨_, rfl⟩
     have ei : ((i + 1 : Nat) : Int) - 1 = s := by omega
     rw [ei]
     have s0 : 0 ≤ s := by omega
     have s1 : s ≤ 16777216 := by omega
     have sq : s / 64 = ((i / 64 : Nat) : Int) := by omega
     have sr : s % 64 = ((i % 64 : Nat) : Int) := by omega
     have hiq : i / 64 < n := by omega
     have hbit := rbit_any a n c l i wr (h.past hW) (by omega)
     rw [← hsi] at hbit
     obtain ⟨one, hone⟩ : ∃ one, decide (val l / 2 ^ i % 2 = 1) = one := ⟨_, rfl⟩
     have hone2 : one.toNat = val l / 2 ^ i % 2 := by rw [← hone]; exact toNat_bit _
     rw [hone] at hbit
     obtain ⟨R, hRR⟩ : ∃ R, 2 * (val l / 2 ^ (i + 1) % val l2) + val l / 2 ^ i % 2 = R := ⟨_, rfl⟩
     obtain ⟨r1, r2, r3⟩ := bit_div (A := val l) (i := i) hB hRR.symm
     have hBl : val l2 < 18446744073709551616 ^ n4 := digs_length_le.1 (by rw [h4.len]; exact Nat.le_refl _)
     have hRl : R < 18446744073709551616 ^ (n4 + 1) := by rw [Nat.pow_succ]; omega
     have HRR := Lib.hid hRR
     have HR1 := Lib.hid r1
     have HR2 := Lib.hid r2
     have HR3 := Lib.hid r3
     have HRL := Lib.hid hRl
     have HON := Lib.hid hone2
     have HSI := Lib.hid hsi
     have HBIT := Lib.hid hbit
     have HQV := Lib.hid hqv
     have HRV := Lib.hid hrv
     clear hRR r1 r2 r3 hBl hRl hone hone2 hsi ei hbit hqv hrv
     go_wp2_with fail
     with_reducible refine (HBIT.out).mono ?_
     rintro e w' ⟨rfl, rfl⟩
     go_wp2_with fail
     with_reducible refine (rtwice_any br 0 (n4 + 1) (n4 + 1) rs one w6.heap.size wr hR).mono ?_
     rintro e w12 ⟨rfl, z, rs1, hR1, hv1, ht1⟩
     have hv2 : val rs1 = R := top_none (by rw [HRV.out, HON.out, HRR.out] at hv1; exact hv1) HRL.out
     have hQ1 := hQ.other ht1 (.inr (fun x hx => by cases hx; exact hne))
     have hW1 : Below w6.heap.size w6 w12 := hW.grown ht1 hW.size (fun k e => by cases e; exact hbr1)
     have HV2 := Lib.hid hv2
     clear hv1 hv2 hQ hR hW ht1
     have hA1 := h.past hW1
     have hB1 := h4.past hW1
     by_cases hc : R < val l2
     · have hcm : cmpI R (val l2) = -1 := cmpI_lt hc
       have HCM := Lib.hid hcm
       obtain ⟨e1, e2⟩ := HR2.out hc
       have E1 := Lib.hid e1
       have E2 := Lib.hid e2
       clear hcm e1 e2 hc
       go_wp2_with fail
       with_reducible refine (rcmp_any _ _ _ rs1 _ _ _ (digs (val l2)) _ hR1.toNatAt hB1).mono ?_
       rintro e w' ⟨rfl, rfl⟩
       rw [val_digs, HV2.out, HCM.out]
       go_wp2
       go_roundw
       case measure => simp [intOf] <;> omega
       case rel => exact ⟨i, qs, rs1, by omega, by first | (rw [HSI.out]; done) | (rw [HSI.out]; go_num), hQ1, hR1, by rw [HQV.out, E2.out, Nat.pow_succ]; ac_rfl, by rw [HV2.out, E1.out], hW1⟩
     · have hcm : 0 ≤ cmpI R (val l2) := by
        rcases Int.lt_or_le (cmpI R (val l2)) 0 with h' | h'
        · exact absurd (cmpI_neg.1 h') hc
        · exact h'
       obtain ⟨e1, e2⟩ := HR3.out (by omega)
       have hle : val (digs (val l2)) ≤ val rs1 := by rw [val_digs, HV2.out]; omega
       have E1 := Lib.hid e1
       have E2 := Lib.hid e2
       have HLE := Lib.hid hle
       clear e1 e2 hc hle
       go_wp2_with fail
       with_reducible refine (rcmp_any _ _ _ rs1 _ _ _ (digs (val l2)) _ hR1.toNatAt hB1).mono ?_
       rintro e w' ⟨rfl, rfl⟩
       rw [val_digs, HV2.out]
       go_wp2_with fail
       with_reducible refine (rless_any br 0 (n4 + 1) (n4 + 1) rs1 _ _ _ (digs (val l2)) w6.heap.size _ hR1 hB1 (by omega) (by omega) HLE.out).mono ?_
       rintro e w13 ⟨rfl, rs2, hR2, hv3, ht2⟩
       rw [val_digs, HV2.out] at hv3
       have hQ2 := hQ1.other ht2 (.inr (fun x hx => by cases hx; exact hne))
       have hW2 : Below w6.heap.size w6 w13 := hW1.grown ht2 hW1.size (fun k e => by cases e; exact hbr1)
       have HV3 := Lib.hid hv3
       clear hv3 hQ1 hR1 ht2 hA1 hB1 hW1
       rcases hQ2.cell with h' | ⟨b', o', he, hco⟩
       · omega
       cases he
       rcases hQ2.own with h' | ⟨b', o', he, hBo, hfo⟩
       · omega
       cases he
       have hco' := hco (i / 64) hiq
       have hfo' := hfo (i / 64) hiq
       clear hco hfo
       rw [Nat.zero_add] at hco' hfo'
       obtain ⟨hor, o2, hset⟩ := q_bit hQ2.dig (by rw [hQ2.len]; exact hiq) HQV.out E2.out
       have hQ3 := hQ2.set (k := i / 64) hiq o2
       rw [Nat.zero_add] at hQ3
       have hR3 := hR2.other ((Turned.refl bq _).set (o := i / 64) (.int .u64 ((D qs (i / 64) + 2 ^ (i % 64) : Nat) : Int))) (.inr (fun x hx => by cases hx; exact fun e => hne e.symm))
       have hW3 := hW2.setCell (p := ⟨bq, i / 64, none⟩) hbq1 (.int .u64 ((D qs (i / 64) + 2 ^ (i % 64) : Nat) : Int))
       have HOR := Lib.hid hor
       have HSET := Lib.hid hset
       clear hor hset o2 hQ2 hR2 hW2
       go_wp2
       rw [HOR.out]
       go_roundw
       case measure => simp [intOf] <;> omega
       case rel => exact ⟨i, _, _, by omega, by first | (rw [HSI.out]; done) | (rw [HSI.out]; go_num), hQ3, hR3, HSET.out, by rw [HV3.out, E1.out], hW3⟩
   · obtain rfl : k = 0 := by omega
     rw [Nat.pow_zero, Nat.div_one, Nat.mul_one] at hqv
     rw [Nat.pow_zero, Nat.div_one] at hrv
     have HQV := Lib.hid hqv
     have HRV := Lib.hid hrv
     clear hqv hrv hlt
     have e0 : ((0 : Nat) : Int) - 1 = -1 := by omega
     rw [e0]
     go_wp2_with fail
     with_reducible refine (rtrim_any _ _ _ qs _ hQ.toNatAt (by omega)).mono ?_
     rintro e w14 ⟨a14, n14, c14, rfl, h14, hb14⟩
     have hR := hR.past hb14
     rw [HQV.out] at h14
     go_wp2_with fail
     with_reducible refine (rtrim_any _ _ _ rs _ hR.toNatAt (by omega)).mono ?_
     rintro e w15 ⟨a15, n15, c15, rfl, h15, hb15⟩
     rw [HRV.out] at h15
     have h14 := h14.past hb15
     have hB4 := below_later hb hW
     have hB5 := below_later hB4 hb14
     go_wp2
     go_ret3
     exact ⟨_, _, _, _, _, _, rfl, h14.mono hB4.size, h15.mono hB5.size, below_later hB5 hb15⟩
end Go.Proofs.YtoecndogaklngaaGreatDoor
