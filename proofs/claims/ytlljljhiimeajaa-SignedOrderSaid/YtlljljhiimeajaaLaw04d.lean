/- the laws of signed: SignedKnown, SignedInts. -/
import Derived.Test.YtlljljhiimeajaaLaw04a
set_option linter.unusedVariables false
set_option linter.unusedSimpArgs false
namespace Go.Proofs.Ytlljljhiimeajaa
open Go.RowKit

set_option maxRecDepth 100000 in
set_option maxHeartbeats 8000000 in
theorem signedKnown_any (w : World) : Calls Try.prog 10 #[] w (RetVal w (.bool true)) := by
  have e1 : digs (-9223372036854775808 : Int).natAbs = [9223372036854775808] := digs_of _ (by decide) (by decide) (by decide)
  have e2 : neg (-9223372036854775808) = true := by decide
  have e3 : isI (sg false (val [9223372036854775808])) = false := by decide
  have e4 : chkZ true [] = 6 := by decide
  have e5 : chkZ false [0] = 6 := by decide
  have e6 : (-2 - -3 : Int).sign = 1 := by decide
  have e7 : (-9 : Int).sign = -1 := by decide
  have e8 : sg true (val [0]) = 0 := by decide
  have E1 := Lib.hid e1
  have E2 := Lib.hid e2
  have E3 := Lib.hid e3
  have E4 := Lib.hid e4
  have E5 := Lib.hid e5
  have E6 := Lib.hid e6
  have E7 := Lib.hid e7
  have E8 := Lib.hid e8
  clear e1 e2 e3 e4 e5 e6 e7 e8
  go_enter Try.func10, Try.ntmps10
  have hB := Below.refl w.heap.size w
  go_wp2_with fail
  with_reducible refine (sof_any (-9223372036854775808) _ (by decide) (by decide)).mono ?_
  rintro e w1 ⟨ahL, nhL, chL, rfl, hL, hb⟩
  have hB := below_later hB hb
  clear hb
  have khL : nhL ≤ 1 := by rw [← hL.len]; exact digs_length_le.2 (by decide)
  go_wp2_with fail
  obtain ⟨w2, hW, hz0, hb, q, f⟩ := box1g w1 (w1.heap.size) (by omega) #[.bool (neg (-9223372036854775808)), .slice ahL nhL chL] 42
  rw [hW]
  clear hW
  have hL := hL.past hb
  have hB := below_later hB hb
  clear hb
  have lb1 : w1.heap.size < w2.heap.size := by omega
  have qb10 := q 0
  simp only [List.getElem?_toArray, List.getElem?_cons_zero, List.getElem?_cons_succ] at qb10
  have qb11 := q 1
  simp only [List.getElem?_toArray, List.getElem?_cons_zero, List.getElem?_cons_succ] at qb11
  clear q f
  obtain ⟨w3, hW, hz1, hb, q, f⟩ := box1g w2 (w1.heap.size + 1) (by omega) #[.int .u64 9223372036854775808] 24
  have h0k1 : OwnAt w3 w2.heap.size (some ⟨w1.heap.size + 1, 0, none⟩) 1 1 [9223372036854775808] := by rw [← hW]; exact litG _ _ _ [9223372036854775808] 1 (by omega) rfl rfl (by decide) (by decide)
  rw [hW]
  clear hW
  have hL := hL.past hb
  have qb10 := (hb.cell (p := ⟨w1.heap.size, 0, none⟩) lb1).trans qb10
  have qb11 := (hb.cell (p := ⟨w1.heap.size, 1, none⟩) lb1).trans qb11
  have lb1 := Nat.lt_of_lt_of_le lb1 hb.size
  have hB := below_later hB hb
  clear hb
  have k1 := h0k1
  clear h0k1
  clear q f
  clear hz0
  clear hz1
  refine (sone_any false _ _ _ [9223372036854775808] _ k1.toNatAt).mono ?_
  rintro e w4 ⟨rfl, hb⟩
  have hL := hL.past hb
  have k1 := k1.past hb
  have qb10 := (hb.cell (p := ⟨w1.heap.size, 0, none⟩) lb1).trans qb10
  have qb11 := (hb.cell (p := ⟨w1.heap.size, 1, none⟩) lb1).trans qb11
  have lb1 := Nat.lt_of_lt_of_le lb1 hb.size
  have hB := below_later hB hb
  clear hb
  rw [E3.out]
  go_wp2_with fail
  with_reducible refine (sof_any (0) _ (by decide) (by decide)).mono ?_
  rintro e w5 ⟨ah0, nh0, ch0, rfl, h0, hb⟩
  have hL := hL.past hb
  have qb10 := (hb.cell (p := ⟨w1.heap.size, 0, none⟩) lb1).trans qb10
  have qb11 := (hb.cell (p := ⟨w1.heap.size, 1, none⟩) lb1).trans qb11
  have lb1 := Nat.lt_of_lt_of_le lb1 hb.size
  have hB := below_later hB hb
  clear hb
  have kh0 : nh0 ≤ 1 := by rw [← h0.len]; exact digs_length_le.2 (by decide)
  go_wp2_with fail
  with_reducible refine (sneg_c h0.toNatAt (by omega)).mono ?_
  rintro e w6 ⟨ah1, nh1, ch1, rfl, h1, hb⟩
  have hL := hL.past hb
  have h0 := h0.past hb
  have qb10 := (hb.cell (p := ⟨w1.heap.size, 0, none⟩) lb1).trans qb10
  have qb11 := (hb.cell (p := ⟨w1.heap.size, 1, none⟩) lb1).trans qb11
  have lb1 := Nat.lt_of_lt_of_le lb1 hb.size
  have hB := below_later hB hb
  clear hb
  go_wp2_with fail
  refine (is04_yes h1.toNatAt (by decide) (by decide)).mono ?_
  rintro e w7 ⟨rfl, hb⟩
  have hL := hL.past hb
  have h0 := h0.past hb
  have h1 := h1.past hb
  have qb10 := (hb.cell (p := ⟨w1.heap.size, 0, none⟩) lb1).trans qb10
  have qb11 := (hb.cell (p := ⟨w1.heap.size, 1, none⟩) lb1).trans qb11
  have lb1 := Nat.lt_of_lt_of_le lb1 hb.size
  have hB := below_later hB hb
  clear hb
  go_wp2_with fail
  with_reducible refine (sof_any (-2) _ (by decide) (by decide)).mono ?_
  rintro e w8 ⟨ah1, nh1, ch1, rfl, h1, hb⟩
  have hL := hL.past hb
  have qb10 := (hb.cell (p := ⟨w1.heap.size, 0, none⟩) lb1).trans qb10
  have qb11 := (hb.cell (p := ⟨w1.heap.size, 1, none⟩) lb1).trans qb11
  have lb1 := Nat.lt_of_lt_of_le lb1 hb.size
  have hB := below_later hB hb
  clear hb
  have kh1 : nh1 ≤ 1 := by rw [← h1.len]; exact digs_length_le.2 (by decide)
  go_wp2_with fail
  with_reducible refine (sof_any (-3) _ (by decide) (by decide)).mono ?_
  rintro e w9 ⟨ah2, nh2, ch2, rfl, h2, hb⟩
  have hL := hL.past hb
  have h1 := h1.past hb
  have qb10 := (hb.cell (p := ⟨w1.heap.size, 0, none⟩) lb1).trans qb10
  have qb11 := (hb.cell (p := ⟨w1.heap.size, 1, none⟩) lb1).trans qb11
  have lb1 := Nat.lt_of_lt_of_le lb1 hb.size
  have hB := below_later hB hb
  clear hb
  have kh2 : nh2 ≤ 1 := by rw [← h2.len]; exact digs_length_le.2 (by decide)
  go_wp2_with fail
  with_reducible refine (scmp_c h1.toNatAt h2.toNatAt (by omega) (by omega)).mono ?_
  rintro e w10 ⟨rfl, hb⟩
  have hL := hL.past hb
  have h1 := h1.past hb
  have h2 := h2.past hb
  have qb10 := (hb.cell (p := ⟨w1.heap.size, 0, none⟩) lb1).trans qb10
  have qb11 := (hb.cell (p := ⟨w1.heap.size, 1, none⟩) lb1).trans qb11
  have lb1 := Nat.lt_of_lt_of_le lb1 hb.size
  have hB := below_later hB hb
  clear hb
  rw [E6.out]
  go_wp2_with fail
  obtain ⟨w11, hW, hz0, hb, q, f⟩ := box1g w10 (w10.heap.size) (by omega) #[.int .u64 9223372036854775808] 24
  have h0k2 : OwnAt w11 w10.heap.size (some ⟨w10.heap.size, 0, none⟩) 1 1 [9223372036854775808] := by rw [← hW]; exact litG _ _ _ [9223372036854775808] 1 (by omega) rfl rfl (by decide) (by decide)
  rw [hW]
  clear hW
  have hL := hL.past hb
  have qb10 := (hb.cell (p := ⟨w1.heap.size, 0, none⟩) lb1).trans qb10
  have qb11 := (hb.cell (p := ⟨w1.heap.size, 1, none⟩) lb1).trans qb11
  have lb1 := Nat.lt_of_lt_of_le lb1 hb.size
  have hB := below_later hB hb
  clear hb
  have k2 := h0k2
  clear h0k2
  clear q f
  clear hz0
  refine (sameNat_yes (by have := hL.toNatAt; rwa [E1.out] at this) k2.toNatAt).mono ?_
  rintro e w12 ⟨rfl, hb⟩
  have hL := hL.past hb
  have k2 := k2.past hb
  have qb10 := (hb.cell (p := ⟨w1.heap.size, 0, none⟩) lb1).trans qb10
  have qb11 := (hb.cell (p := ⟨w1.heap.size, 1, none⟩) lb1).trans qb11
  have lb1 := Nat.lt_of_lt_of_le lb1 hb.size
  have hB := below_later hB hb
  clear hb
  go_wp2_with fail
  refine (is04_yes hL.toNatAt (by decide) (by decide)).mono ?_
  rintro e w13 ⟨rfl, hb⟩
  have hL := hL.past hb
  have qb10 := (hb.cell (p := ⟨w1.heap.size, 0, none⟩) lb1).trans qb10
  have qb11 := (hb.cell (p := ⟨w1.heap.size, 1, none⟩) lb1).trans qb11
  have lb1 := Nat.lt_of_lt_of_le lb1 hb.size
  have hB := below_later hB hb
  clear hb
  go_wp2_with fail
  with_reducible refine (sof_any (-9) _ (by decide) (by decide)).mono ?_
  rintro e w14 ⟨ah1, nh1, ch1, rfl, h1, hb⟩
  have qb10 := (hb.cell (p := ⟨w1.heap.size, 0, none⟩) lb1).trans qb10
  have qb11 := (hb.cell (p := ⟨w1.heap.size, 1, none⟩) lb1).trans qb11
  have lb1 := Nat.lt_of_lt_of_le lb1 hb.size
  have hB := below_later hB hb
  clear hb
  have kh1 : nh1 ≤ 1 := by rw [← h1.len]; exact digs_length_le.2 (by decide)
  go_wp2_with fail
  with_reducible refine (sign_c h1.toNatAt (by omega)).mono ?_
  rintro e w15 ⟨rfl, hb⟩
  have h1 := h1.past hb
  have qb10 := (hb.cell (p := ⟨w1.heap.size, 0, none⟩) lb1).trans qb10
  have qb11 := (hb.cell (p := ⟨w1.heap.size, 1, none⟩) lb1).trans qb11
  have lb1 := Nat.lt_of_lt_of_le lb1 hb.size
  have hB := below_later hB hb
  clear hb
  rw [E7.out]
  go_wp2_with fail
  with_reducible refine (awake04 _).mono ?_
  rintro e w16 ⟨rfl, hb⟩
  have qb10 := (hb.cell (p := ⟨w1.heap.size, 0, none⟩) lb1).trans qb10
  have qb11 := (hb.cell (p := ⟨w1.heap.size, 1, none⟩) lb1).trans qb11
  have lb1 := Nat.lt_of_lt_of_le lb1 hb.size
  have hB := below_later hB hb
  clear hb
  go_wp2_with fail
  with_reducible refine (scheck_any true _ _ _ [] _ (NatAt.nil _)).mono ?_
  rintro e w17 ⟨rfl, hb⟩
  have qb10 := (hb.cell (p := ⟨w1.heap.size, 0, none⟩) lb1).trans qb10
  have qb11 := (hb.cell (p := ⟨w1.heap.size, 1, none⟩) lb1).trans qb11
  have lb1 := Nat.lt_of_lt_of_le lb1 hb.size
  have hB := below_later hB hb
  clear hb
  rw [E4.out]
  go_wp2_with fail
  obtain ⟨w18, hW, hz0, hb, q, f⟩ := box1g w17 (w17.heap.size) (by omega) #[.int .u64 0] 24
  have h0k3 : OwnAt w18 w17.heap.size (some ⟨w17.heap.size, 0, none⟩) 1 1 [0] := by rw [← hW]; exact litG _ _ _ [0] 1 (by omega) rfl rfl (by decide) (by decide)
  rw [hW]
  clear hW
  have qb10 := (hb.cell (p := ⟨w1.heap.size, 0, none⟩) lb1).trans qb10
  have qb11 := (hb.cell (p := ⟨w1.heap.size, 1, none⟩) lb1).trans qb11
  have lb1 := Nat.lt_of_lt_of_le lb1 hb.size
  have hB := below_later hB hb
  clear hb
  have k3 := h0k3
  clear h0k3
  clear q f
  clear hz0
  refine (scheck_any false _ _ _ [0] _ k3.toNatAt).mono ?_
  rintro e w19 ⟨rfl, hb⟩
  have k3 := k3.past hb
  have qb10 := (hb.cell (p := ⟨w1.heap.size, 0, none⟩) lb1).trans qb10
  have qb11 := (hb.cell (p := ⟨w1.heap.size, 1, none⟩) lb1).trans qb11
  have lb1 := Nat.lt_of_lt_of_le lb1 hb.size
  have hB := below_later hB hb
  clear hb
  rw [E5.out]
  go_wp2_with fail
  obtain ⟨w20, hW, hz0, hb, q, f⟩ := box1g w19 (w19.heap.size) (by omega) #[.int .u64 0] 24
  have h0k4 : OwnAt w20 w19.heap.size (some ⟨w19.heap.size, 0, none⟩) 1 1 [0] := by rw [← hW]; exact litG _ _ _ [0] 1 (by omega) rfl rfl (by decide) (by decide)
  rw [hW]
  clear hW
  have qb10 := (hb.cell (p := ⟨w1.heap.size, 0, none⟩) lb1).trans qb10
  have qb11 := (hb.cell (p := ⟨w1.heap.size, 1, none⟩) lb1).trans qb11
  have lb1 := Nat.lt_of_lt_of_le lb1 hb.size
  have hB := below_later hB hb
  clear hb
  have k4 := h0k4
  clear h0k4
  clear q f
  clear hz0
  refine (make_any true _ _ _ [0] _ k4.toNatAt (by decide)).mono ?_
  rintro e w21 ⟨ah1, nh1, ch1, rfl, h1, hb⟩
  have k4 := k4.past hb
  have qb10 := (hb.cell (p := ⟨w1.heap.size, 0, none⟩) lb1).trans qb10
  have qb11 := (hb.cell (p := ⟨w1.heap.size, 1, none⟩) lb1).trans qb11
  have lb1 := Nat.lt_of_lt_of_le lb1 hb.size
  have hB := below_later hB hb
  clear hb
  rw [E8.out] at h1 ⊢
  go_wp2_with fail
  refine (is04_yes h1.toNatAt (by decide) (by decide)).mono ?_
  rintro e w22 ⟨rfl, hb⟩
  have h1 := h1.past hb
  have qb10 := (hb.cell (p := ⟨w1.heap.size, 0, none⟩) lb1).trans qb10
  have qb11 := (hb.cell (p := ⟨w1.heap.size, 1, none⟩) lb1).trans qb11
  have lb1 := Nat.lt_of_lt_of_le lb1 hb.size
  have hB := below_later hB hb
  clear hb
  go_wp2
  go_ret
  exact ⟨rfl, hB⟩

end Go.Proofs.Ytlljljhiimeajaa
