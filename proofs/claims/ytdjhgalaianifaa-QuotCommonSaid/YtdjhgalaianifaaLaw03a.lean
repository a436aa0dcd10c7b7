/- the laws of quot: divides, awake, QuotKnown. -/
import Derived.Test.YtdjhgalaianifaaKit3
import Derived.Test.YtdjhgalaianifaaQuot4
set_option linter.unusedVariables false
set_option linter.unusedSimpArgs false
namespace Go.Proofs.Ytdjhgalaianifaa
open Go.RowKit

theorem divides03_yes {a : Option Addr} {n c : Nat} {l : List Nat} {a2 : Option Addr} {n2 c2 : Nat} {l2 : List Nat} {a3 : Option Addr} {n3 c3 : Nat} {l3 : List Nat} {a4 : Option Addr} {n4 c4 : Nat} {l4 : List Nat} {w : World} (g1 : NatAt w a n c l) (g2 : NatAt w a2 n2 c2 l2) (g3 : NatAt w a3 n3 c3 l3) (g4 : NatAt w a4 n4 c4 l4)
    (hs : n ≤ 68719476736) (hs2 : n2 ≤ 68719476736) (hz : val l2 ≠ 0) (hq : digs (val l / val l2) = l3) (hr : digs (val l % val l2) = l4) :
    Calls Try.prog 34 #[.slice a n c, .slice a2 n2 c2, .slice a3 n3 c3, .slice a4 n4 c4] w (RetVal w (.bool true)) := by
  have HZ := Lib.hid hz
  have HQ := Lib.hid hq
  have HR := Lib.hid hr
  clear hz hq hr
  go_enter Try.func34, Try.ntmps34
  have hB := Below.refl w.heap.size w
  go_wp2_with fail
  with_reducible refine (div_yes _ _ _ l _ _ _ l2 _ g1 g2 (by omega) (by omega) HZ.out).mono ?_
  rintro e w1 ⟨ahQ, nhQ, chQ, ahR, nhR, chR, rfl, hQ, hR, hb⟩
  have g1 := g1.past hb
  have g2 := g2.past hb
  have g3 := g3.past hb
  have g4 := g4.past hb
  have hB := below_later hB hb
  clear hb
  rw [HQ.out] at hQ
  rw [HR.out] at hR
  go_wp2_with fail
  with_reducible refine (sameNat_yes hQ.toNatAt g3).mono ?_
  rintro e w2 ⟨rfl, hb⟩
  have g1 := g1.past hb
  have g2 := g2.past hb
  have g3 := g3.past hb
  have g4 := g4.past hb
  have hQ := hQ.past hb
  have hR := hR.past hb
  have hB := below_later hB hb
  clear hb
  go_wp2_with fail
  with_reducible refine (sameNat_yes hR.toNatAt g4).mono ?_
  rintro e w3 ⟨rfl, hb⟩
  have g1 := g1.past hb
  have g2 := g2.past hb
  have g3 := g3.past hb
  have g4 := g4.past hb
  have hQ := hQ.past hb
  have hR := hR.past hb
  have hB := below_later hB hb
  clear hb
  go_wp2
  go_ret
  exact ⟨rfl, hB⟩

theorem awake03 (w : World) : Calls Try.prog 16 #[] w (RetVal w (.bool true)) := by
  have e0 : digs (val [7] / val [2]) = [3] := digs_of _ (by decide) (by decide) (by decide)
  have e1 : digs (val [7] % val [2]) = [1] := digs_of _ (by decide) (by decide) (by decide)
  have e2 : digs (val [0, 0, 1] / val [18446744073709551615, 1]) = [9223372036854775808] := digs_of _ (by decide) (by decide) (by decide)
  have e3 : digs (val [0, 0, 1] % val [18446744073709551615, 1]) = [9223372036854775808] := digs_of _ (by decide) (by decide) (by decide)
  have e4 : digs (Nat.gcd (val [12]) (val [18])) = [6] := digs_of _ (by decide) (by decide) (by decide)
  have E0 := Lib.hid e0
  have E1 := Lib.hid e1
  have E2 := Lib.hid e2
  have E3 := Lib.hid e3
  have E4 := Lib.hid e4
  clear e0 e1 e2 e3 e4
  go_enter Try.func16, Try.ntmps16
  have hB := Below.refl w.heap.size w
  go_wp2_with fail
  obtain ⟨w1, hW, hz0, hb, q, f⟩ := box1g w (w.heap.size) (by omega) #[.int .u64 7] 37
  have h0x1 : OwnAt w1 w.heap.size (some ⟨w.heap.size, 0, none⟩) 1 1 [7] := by rw [← hW]; exact litG _ _ _ [7] 1 (by omega) rfl rfl (by decide) (by decide)
  rw [hW]
  clear hW
  have hB := below_later hB hb
  clear hb
  have x1 := h0x1
  clear h0x1
  clear q f
  obtain ⟨w2, hW, hz1, hb, q, f⟩ := box1g w1 (w.heap.size + 1) (by omega) #[.int .u64 2] 37
  have h0x2 : OwnAt w2 w1.heap.size (some ⟨w.heap.size + 1, 0, none⟩) 1 1 [2] := by rw [← hW]; exact litG _ _ _ [2] 1 (by omega) rfl rfl (by decide) (by decide)
  rw [hW]
  clear hW
  have x1 := x1.past hb
  have hB := below_later hB hb
  clear hb
  have x2 := h0x2
  clear h0x2
  clear q f
  obtain ⟨w3, hW, hz2, hb, q, f⟩ := box1g w2 (w.heap.size + 1 + 1) (by omega) #[.int .u64 3] 37
  have h0x3 : OwnAt w3 w2.heap.size (some ⟨w.heap.size + 1 + 1, 0, none⟩) 1 1 [3] := by rw [← hW]; exact litG _ _ _ [3] 1 (by omega) rfl rfl (by decide) (by decide)
  rw [hW]
  clear hW
  have x1 := x1.past hb
  have x2 := x2.past hb
  have hB := below_later hB hb
  clear hb
  have x3 := h0x3
  clear h0x3
  clear q f
  obtain ⟨w4, hW, hz3, hb, q, f⟩ := box1g w3 (w.heap.size + 1 + 1 + 1) (by omega) #[.int .u64 1] 37
  have h0x4 : OwnAt w4 w3.heap.size (some ⟨w.heap.size + 1 + 1 + 1, 0, none⟩) 1 1 [1] := by rw [← hW]; exact litG _ _ _ [1] 1 (by omega) rfl rfl (by decide) (by decide)
  rw [hW]
  clear hW
  have x1 := x1.past hb
  have x2 := x2.past hb
  have x3 := x3.past hb
  have hB := below_later hB hb
  clear hb
  have x4 := h0x4
  clear h0x4
  clear q f
  clear hz0
  clear hz1
  clear hz2
  clear hz3
  refine (divides03_yes (l := [7]) (l2 := [2]) (l3 := [3]) (l4 := [1]) x1.toNatAt x2.toNatAt x3.toNatAt x4.toNatAt (by decide) (by decide) (by decide) E0.out E1.out).mono ?_
  rintro e w5 ⟨rfl, hb⟩
  have x1 := x1.past hb
  have x2 := x2.past hb
  have x3 := x3.past hb
  have x4 := x4.past hb
  have hB := below_later hB hb
  clear hb
  go_wp2_with fail
  obtain ⟨w6, hW, hz0, hb, q, f⟩ := box1g w5 (w5.heap.size) (by omega) #[.int .u64 0, .int .u64 0, .int .u64 1] 37
  have h0x1 : OwnAt w6 w5.heap.size (some ⟨w5.heap.size, 0, none⟩) 3 3 [0, 0, 1] := by rw [← hW]; exact litG _ _ _ [0, 0, 1] 3 (by omega) rfl rfl (by decide) (by decide)
  rw [hW]
  clear hW
  have hB := below_later hB hb
  clear hb
  have x1 := h0x1
  clear h0x1
  clear q f
  obtain ⟨w7, hW, hz1, hb, q, f⟩ := box1g w6 (w5.heap.size + 1) (by omega) #[.int .u64 18446744073709551615, .int .u64 1] 37
  have h0x2 : OwnAt w7 w6.heap.size (some ⟨w5.heap.size + 1, 0, none⟩) 2 2 [18446744073709551615, 1] := by rw [← hW]; exact litG _ _ _ [18446744073709551615, 1] 2 (by omega) rfl rfl (by decide) (by decide)
  rw [hW]
  clear hW
  have x1 := x1.past hb
  have hB := below_later hB hb
  clear hb
  have x2 := h0x2
  clear h0x2
  clear q f
  obtain ⟨w8, hW, hz2, hb, q, f⟩ := box1g w7 (w5.heap.size + 1 + 1) (by omega) #[.int .u64 9223372036854775808] 37
  have h0x3 : OwnAt w8 w7.heap.size (some ⟨w5.heap.size + 1 + 1, 0, none⟩) 1 1 [9223372036854775808] := by rw [← hW]; exact litG _ _ _ [9223372036854775808] 1 (by omega) rfl rfl (by decide) (by decide)
  rw [hW]
  clear hW
  have x1 := x1.past hb
  have x2 := x2.past hb
  have hB := below_later hB hb
  clear hb
  have x3 := h0x3
  clear h0x3
  clear q f
  obtain ⟨w9, hW, hz3, hb, q, f⟩ := box1g w8 (w5.heap.size + 1 + 1 + 1) (by omega) #[.int .u64 9223372036854775808] 37
  have h0x4 : OwnAt w9 w8.heap.size (some ⟨w5.heap.size + 1 + 1 + 1, 0, none⟩) 1 1 [9223372036854775808] := by rw [← hW]; exact litG _ _ _ [9223372036854775808] 1 (by omega) rfl rfl (by decide) (by decide)
  rw [hW]
  clear hW
  have x1 := x1.past hb
  have x2 := x2.past hb
  have x3 := x3.past hb
  have hB := below_later hB hb
  clear hb
  have x4 := h0x4
  clear h0x4
  clear q f
  clear hz0
  clear hz1
  clear hz2
  clear hz3
  refine (divides03_yes (l := [0, 0, 1]) (l2 := [18446744073709551615, 1]) (l3 := [9223372036854775808]) (l4 := [9223372036854775808]) x1.toNatAt x2.toNatAt x3.toNatAt x4.toNatAt (by decide) (by decide) (by decide) E2.out E3.out).mono ?_
  rintro e w10 ⟨rfl, hb⟩
  have x1 := x1.past hb
  have x2 := x2.past hb
  have x3 := x3.past hb
  have x4 := x4.past hb
  have hB := below_later hB hb
  clear hb
  go_wp2_with fail
  obtain ⟨w11, hW, hz0, hb, q, f⟩ := box1g w10 (w10.heap.size) (by omega) #[.int .u64 12] 37
  have h0x1 : OwnAt w11 w10.heap.size (some ⟨w10.heap.size, 0, none⟩) 1 1 [12] := by rw [← hW]; exact litG _ _ _ [12] 1 (by omega) rfl rfl (by decide) (by decide)
  rw [hW]
  clear hW
  have hB := below_later hB hb
  clear hb
  have x1 := h0x1
  clear h0x1
  clear q f
  obtain ⟨w12, hW, hz1, hb, q, f⟩ := box1g w11 (w10.heap.size + 1) (by omega) #[.int .u64 18] 37
  have h0x2 : OwnAt w12 w11.heap.size (some ⟨w10.heap.size + 1, 0, none⟩) 1 1 [18] := by rw [← hW]; exact litG _ _ _ [18] 1 (by omega) rfl rfl (by decide) (by decide)
  rw [hW]
  clear hW
  have x1 := x1.past hb
  have hB := below_later hB hb
  clear hb
  have x2 := h0x2
  clear h0x2
  clear q f
  clear hz0
  clear hz1
  with_reducible refine (gcd_any _ _ _ [12] _ _ _ [18] _ x1.toNatAt x2.toNatAt (by decide) (by decide)).mono ?_
  rintro e w13 ⟨ahG, nhG, chG, rfl, hG, hb⟩
  have x1 := x1.past hb
  have x2 := x2.past hb
  have hB := below_later hB hb
  clear hb
  rw [E4.out] at hG
  go_wp2_with fail
  obtain ⟨w14, hW, hz0, hb, q, f⟩ := box1g w13 (w13.heap.size) (by omega) #[.int .u64 6] 37
  have h0x1 : OwnAt w14 w13.heap.size (some ⟨w13.heap.size, 0, none⟩) 1 1 [6] := by rw [← hW]; exact litG _ _ _ [6] 1 (by omega) rfl rfl (by decide) (by decide)
  rw [hW]
  clear hW
  have hG := hG.past hb
  have hB := below_later hB hb
  clear hb
  have x1 := h0x1
  clear h0x1
  clear q f
  clear hz0
  refine (sameNat_yes hG.toNatAt x1.toNatAt).mono ?_
  rintro e w15 ⟨rfl, hb⟩
  have hG := hG.past hb
  have x1 := x1.past hb
  have hB := below_later hB hb
  clear hb
  go_wp2
  go_ret
  exact ⟨rfl, hB⟩

set_option maxRecDepth 100000 in
set_option maxHeartbeats 4000000 in
theorem quotKnown_any (w : World) : Calls Try.prog 6 #[] w (RetVal w (.bool true)) := by
  have e0 : digs (val [0, 1] / val [3]) = [6148914691236517205] := digs_of _ (by decide) (by decide) (by decide)
  have e1 : digs (val [0, 1] % val [3]) = [1] := digs_of _ (by decide) (by decide) (by decide)
  have e2 : digs (val [5] / val [0, 1]) = [] := digs_of _ (by decide) (by decide) (by decide)
  have e3 : digs (val [5] % val [0, 1]) = [5] := digs_of _ (by decide) (by decide) (by decide)
  have e4 : digs (val [0, 1] / 2) = [9223372036854775808] := digs_of _ (by decide) (by decide) (by decide)
  have e5 : val [0, 1] % 2 = 0 := by decide
  have e6 : digs (Nat.gcd (val []) (val [4])) = [4] := digs_of _ (by decide) (by decide) (by decide)
  have e7 : dvdB (val [3]) (val [9]) = true := by decide
  have e8 : dvdB (val []) (val [1]) = false := by decide
  have e9 : dvdB (val []) (val []) = true := by decide
  have E0 := Lib.hid e0
  have E1 := Lib.hid e1
  have E2 := Lib.hid e2
  have E3 := Lib.hid e3
  have E4 := Lib.hid e4
  have E5 := Lib.hid e5
  have E6 := Lib.hid e6
  have E7 := Lib.hid e7
  have E8 := Lib.hid e8
  have E9 := Lib.hid e9
  clear e0 e1 e2 e3 e4 e5 e6 e7 e8 e9
  go_enter Try.func6, Try.ntmps6
  have hB := Below.refl w.heap.size w
  go_wp2_with fail
  obtain ⟨w1, hW, hz0, hb, q, f⟩ := box1g w (w.heap.size) (by omega) #[.int .u64 1] 37
  have h0x1 : OwnAt w1 w.heap.size (some ⟨w.heap.size, 0, none⟩) 1 1 [1] := by rw [← hW]; exact litG _ _ _ [1] 1 (by omega) rfl rfl (by decide) (by decide)
  rw [hW]
  clear hW
  have hB := below_later hB hb
  clear hb
  have x1 := h0x1
  clear h0x1
  clear q f
  clear hz0
  refine (div_zero _ _ _ [1] _ _ _ [] _ x1.toNatAt (NatAt.nil _) (by decide) (by decide) rfl).mono ?_
  rintro e w2 ⟨rfl, hb⟩
  have x1 := x1.past hb
  have hB := below_later hB hb
  clear hb
  go_wp2_with fail
  obtain ⟨w3, hW, hz0, hb, q, f⟩ := box1g w2 (w2.heap.size) (by omega) #[.int .u64 0, .int .u64 1] 37
  have h0x1 : OwnAt w3 w2.heap.size (some ⟨w2.heap.size, 0, none⟩) 2 2 [0, 1] := by rw [← hW]; exact litG _ _ _ [0, 1] 2 (by omega) rfl rfl (by decide) (by decide)
  rw [hW]
  clear hW
  have hB := below_later hB hb
  clear hb
  have x1 := h0x1
  clear h0x1
  clear q f
  clear hz0
  refine (part_yes _ _ _ [0, 1] 2 _ x1.toNatAt (by decide) (by decide) (by decide)).mono ?_
  rintro e w4 ⟨ahP, nhP, chP, rfl, hP, hb⟩
  have x1 := x1.past hb
  have hB := below_later hB hb
  clear hb
  rw [E4.out] at hP
  rw [E5.out]
  go_wp2_with fail
  obtain ⟨w5, hW, hz0, hb, q, f⟩ := box1g w4 (w4.heap.size) (by omega) #[.int .u64 9] 37
  have h0x1 : OwnAt w5 w4.heap.size (some ⟨w4.heap.size, 0, none⟩) 1 1 [9] := by rw [← hW]; exact litG _ _ _ [9] 1 (by omega) rfl rfl (by decide) (by decide)
  rw [hW]
  clear hW
  have hP := hP.past hb
  have hB := below_later hB hb
  clear hb
  have x1 := h0x1
  clear h0x1
  clear q f
  clear hz0
  refine (part_zero _ _ _ _).mono ?_
  rintro e w6 ⟨rfl, hb⟩
  have hP := hP.past hb
  have x1 := x1.past hb
  have hB := below_later hB hb
  clear hb
  go_wp2_with fail
  obtain ⟨w7, hW, hz0, hb, q, f⟩ := box1g w6 (w6.heap.size) (by omega) #[.int .u64 0, .int .u64 1] 37
  have h0x1 : OwnAt w7 w6.heap.size (some ⟨w6.heap.size, 0, none⟩) 2 2 [0, 1] := by rw [← hW]; exact litG _ _ _ [0, 1] 2 (by omega) rfl rfl (by decide) (by decide)
  rw [hW]
  clear hW
  have hP := hP.past hb
  have hB := below_later hB hb
  clear hb
  have x1 := h0x1
  clear h0x1
  clear q f
  obtain ⟨w8, hW, hz1, hb, q, f⟩ := box1g w7 (w6.heap.size + 1) (by omega) #[.int .u64 3] 37
  have h0x2 : OwnAt w8 w7.heap.size (some ⟨w6.heap.size + 1, 0, none⟩) 1 1 [3] := by rw [← hW]; exact litG _ _ _ [3] 1 (by omega) rfl rfl (by decide) (by decide)
  rw [hW]
  clear hW
  have hP := hP.past hb
  have x1 := x1.past hb
  have hB := below_later hB hb
  clear hb
  have x2 := h0x2
  clear h0x2
  clear q f
  obtain ⟨w9, hW, hz2, hb, q, f⟩ := box1g w8 (w6.heap.size + 1 + 1) (by omega) #[.int .u64 6148914691236517205] 37
  have h0x3 : OwnAt w9 w8.heap.size (some ⟨w6.heap.size + 1 + 1, 0, none⟩) 1 1 [6148914691236517205] := by rw [← hW]; exact litG _ _ _ [6148914691236517205] 1 (by omega) rfl rfl (by decide) (by decide)
  rw [hW]
  clear hW
  have hP := hP.past hb
  have x1 := x1.past hb
  have x2 := x2.past hb
  have hB := below_later hB hb
  clear hb
  have x3 := h0x3
  clear h0x3
  clear q f
  obtain ⟨w10, hW, hz3, hb, q, f⟩ := box1g w9 (w6.heap.size + 1 + 1 + 1) (by omega) #[.int .u64 1] 37
  have h0x4 : OwnAt w10 w9.heap.size (some ⟨w6.heap.size + 1 + 1 + 1, 0, none⟩) 1 1 [1] := by rw [← hW]; exact litG _ _ _ [1] 1 (by omega) rfl rfl (by decide) (by decide)
  rw [hW]
  clear hW
  have hP := hP.past hb
  have x1 := x1.past hb
  have x2 := x2.past hb
  have x3 := x3.past hb
  have hB := below_later hB hb
  clear hb
  have x4 := h0x4
  clear h0x4
  clear q f
  clear hz0
  clear hz1
  clear hz2
  clear hz3
  refine (divides03_yes (l := [0, 1]) (l2 := [3]) (l3 := [6148914691236517205]) (l4 := [1]) x1.toNatAt x2.toNatAt x3.toNatAt x4.toNatAt (by decide) (by decide) (by decide) E0.out E1.out).mono ?_
  rintro e w11 ⟨rfl, hb⟩
  have hP := hP.past hb
  have x1 := x1.past hb
  have x2 := x2.past hb
  have x3 := x3.past hb
  have x4 := x4.past hb
  have hB := below_later hB hb
  clear hb
  go_wp2_with fail
  obtain ⟨w12, hW, hz0, hb, q, f⟩ := box1g w11 (w11.heap.size) (by omega) #[.int .u64 5] 37
  have h0x1 : OwnAt w12 w11.heap.size (some ⟨w11.heap.size, 0, none⟩) 1 1 [5] := by rw [← hW]; exact litG _ _ _ [5] 1 (by omega) rfl rfl (by decide) (by decide)
  rw [hW]
  clear hW
  have hP := hP.past hb
  have hB := below_later hB hb
  clear hb
  have x1 := h0x1
  clear h0x1
  clear q f
  obtain ⟨w13, hW, hz1, hb, q, f⟩ := box1g w12 (w11.heap.size + 1) (by omega) #[.int .u64 0, .int .u64 1] 37
  have h0x2 : OwnAt w13 w12.heap.size (some ⟨w11.heap.size + 1, 0, none⟩) 2 2 [0, 1] := by rw [← hW]; exact litG _ _ _ [0, 1] 2 (by omega) rfl rfl (by decide) (by decide)
  rw [hW]
  clear hW
  have hP := hP.past hb
  have x1 := x1.past hb
  have hB := below_later hB hb
  clear hb
  have x2 := h0x2
  clear h0x2
  clear q f
  obtain ⟨w14, hW, hz2, hb, q, f⟩ := box1g w13 (w11.heap.size + 1 + 1) (by omega) #[.int .u64 5] 37
  have h0x4 : OwnAt w14 w13.heap.size (some ⟨w11.heap.size + 1 + 1, 0, none⟩) 1 1 [5] := by rw [← hW]; exact litG _ _ _ [5] 1 (by omega) rfl rfl (by decide) (by decide)
  rw [hW]
  clear hW
  have hP := hP.past hb
  have x1 := x1.past hb
  have x2 := x2.past hb
  have hB := below_later hB hb
  clear hb
  have x4 := h0x4
  clear h0x4
  clear q f
  clear hz0
  clear hz1
  clear hz2
  refine (divides03_yes (l := [5]) (l2 := [0, 1]) (l3 := []) (l4 := [5]) x1.toNatAt x2.toNatAt (NatAt.nil _) x4.toNatAt (by decide) (by decide) (by decide) E2.out E3.out).mono ?_
  rintro e w15 ⟨rfl, hb⟩
  have hP := hP.past hb
  have x1 := x1.past hb
  have x2 := x2.past hb
  have x4 := x4.past hb
  have hB := below_later hB hb
  clear hb
  go_wp2_with fail
  obtain ⟨w16, hW, hz0, hb, q, f⟩ := box1g w15 (w15.heap.size) (by omega) #[.int .u64 9223372036854775808] 37
  have h0x1 : OwnAt w16 w15.heap.size (some ⟨w15.heap.size, 0, none⟩) 1 1 [9223372036854775808] := by rw [← hW]; exact litG _ _ _ [9223372036854775808] 1 (by omega) rfl rfl (by decide) (by decide)
  rw [hW]
  clear hW
  have hP := hP.past hb
  have hB := below_later hB hb
  clear hb
  have x1 := h0x1
  clear h0x1
  clear q f
  clear hz0
  refine (sameNat_yes hP.toNatAt x1.toNatAt).mono ?_
  rintro e w17 ⟨rfl, hb⟩
  have hP := hP.past hb
  have x1 := x1.past hb
  have hB := below_later hB hb
  clear hb
  go_wp2_with fail
  obtain ⟨w18, hW, hz0, hb, q, f⟩ := box1g w17 (w17.heap.size) (by omega) #[.int .u64 4] 37
  have h0x1 : OwnAt w18 w17.heap.size (some ⟨w17.heap.size, 0, none⟩) 1 1 [4] := by rw [← hW]; exact litG _ _ _ [4] 1 (by omega) rfl rfl (by decide) (by decide)
  rw [hW]
  clear hW
  have hB := below_later hB hb
  clear hb
  have x1 := h0x1
  clear h0x1
  clear q f
  clear hz0
  refine (gcd_any _ _ _ [] _ _ _ [4] _ (NatAt.nil _) x1.toNatAt (by decide) (by decide)).mono ?_
  rintro e w19 ⟨ahG, nhG, chG, rfl, hG, hb⟩
  have x1 := x1.past hb
  have hB := below_later hB hb
  clear hb
  rw [E6.out] at hG
  go_wp2_with fail
  obtain ⟨w20, hW, hz0, hb, q, f⟩ := box1g w19 (w19.heap.size) (by omega) #[.int .u64 4] 37
  have h0x1 : OwnAt w20 w19.heap.size (some ⟨w19.heap.size, 0, none⟩) 1 1 [4] := by rw [← hW]; exact litG _ _ _ [4] 1 (by omega) rfl rfl (by decide) (by decide)
  rw [hW]
  clear hW
  have hG := hG.past hb
  have hB := below_later hB hb
  clear hb
  have x1 := h0x1
  clear h0x1
  clear q f
  clear hz0
  refine (sameNat_yes hG.toNatAt x1.toNatAt).mono ?_
  rintro e w21 ⟨rfl, hb⟩
  have hG := hG.past hb
  have x1 := x1.past hb
  have hB := below_later hB hb
  clear hb
  go_wp2_with fail
  with_reducible refine (gcd_any _ _ _ [] _ _ _ [] _ (NatAt.nil _) (NatAt.nil _) (by decide) (by decide)).mono ?_
  rintro e w22 ⟨ahG, nhG, chG, rfl, hG, hb⟩
  have hB := below_later hB hb
  clear hb
  obtain rfl : nhG = 0 := hG.len.symm
  go_wp2_with fail
  obtain ⟨w23, hW, hz0, hb, q, f⟩ := box1g w22 (w22.heap.size) (by omega) #[.int .u64 3] 37
  have h0x1 : OwnAt w23 w22.heap.size (some ⟨w22.heap.size, 0, none⟩) 1 1 [3] := by rw [← hW]; exact litG _ _ _ [3] 1 (by omega) rfl rfl (by decide) (by decide)
  rw [hW]
  clear hW
  have hB := below_later hB hb
  clear hb
  have x1 := h0x1
  clear h0x1
  clear q f
  obtain ⟨w24, hW, hz1, hb, q, f⟩ := box1g w23 (w22.heap.size + 1) (by omega) #[.int .u64 9] 37
  have h0x2 : OwnAt w24 w23.heap.size (some ⟨w22.heap.size + 1, 0, none⟩) 1 1 [9] := by rw [← hW]; exact litG _ _ _ [9] 1 (by omega) rfl rfl (by decide) (by decide)
  rw [hW]
  clear hW
  have x1 := x1.past hb
  have hB := below_later hB hb
  clear hb
  have x2 := h0x2
  clear h0x2
  clear q f
  clear hz0
  clear hz1
  refine (divides_any _ _ _ [3] _ _ _ [9] _ x1.toNatAt x2.toNatAt (by decide) (by decide)).mono ?_
  rintro e w25 ⟨rfl, hb⟩
  have x1 := x1.past hb
  have x2 := x2.past hb
  have hB := below_later hB hb
  clear hb
  rw [E7.out]
  go_wp2_with fail
  obtain ⟨w26, hW, hz0, hb, q, f⟩ := box1g w25 (w25.heap.size) (by omega) #[.int .u64 1] 37
  have h0x1 : OwnAt w26 w25.heap.size (some ⟨w25.heap.size, 0, none⟩) 1 1 [1] := by rw [← hW]; exact litG _ _ _ [1] 1 (by omega) rfl rfl (by decide) (by decide)
  rw [hW]
  clear hW
  have hB := below_later hB hb
  clear hb
  have x1 := h0x1
  clear h0x1
  clear q f
  clear hz0
  refine (divides_any _ _ _ [] _ _ _ [1] _ (NatAt.nil _) x1.toNatAt (by decide) (by decide)).mono ?_
  rintro e w27 ⟨rfl, hb⟩
  have x1 := x1.past hb
  have hB := below_later hB hb
  clear hb
  rw [E8.out]
  go_wp2_with fail
  with_reducible refine (divides_any _ _ _ [] _ _ _ [] _ (NatAt.nil _) (NatAt.nil _) (by decide) (by decide)).mono ?_
  rintro e w28 ⟨rfl, hb⟩
  have hB := below_later hB hb
  clear hb
  rw [E9.out]
  go_wp2_with fail
  with_reducible refine (awake03 _).mono ?_
  rintro e w29 ⟨rfl, hb⟩
  have hB := below_later hB hb
  clear hb
  go_wp2
  go_ret
  exact ⟨rfl, hB⟩

end Go.Proofs.Ytdjhgalaianifaa
