import Derived.Test.YtoecndogaklngaaGreatDoorS0Df
import Derived.Test.YtoecndogaklngaaGreatDoorRefs13Df
import Derived.Test.YtoecndogaklngaaGreatDoorDigits8Df
import Derived.Test.YtoecndogaklngaaGreatDoorRatio13Df
set_option linter.unusedVariables false
set_option linter.unusedSimpArgs false
namespace Go.Proofs.YtoecndogaklngaaGreatDoor
open Go.RowKit
theorem app_assoc (x y z : ByteArray) : x ++ y ++ z = x ++ (y ++ z) := by
 apply ByteArray.ext
 simp [Array.append_assoc]
theorem cmpI_one {v : Nat} : cmpI v (val [1]) = 0 ↔ v = 1 := by
 have e : val [1] = 1 := by decide
 rw [e]
 constructor
 · intro h
   rcases Nat.lt_trichotomy v 1 with h1 | h1 | h1
   · rw [cmpI_lt h1] at h; exact absurd h (by decide)
   · exact h1
   · rw [cmpI_gt h1] at h; exact absurd h (by decide)
 · rintro rfl
   exact cmpI_eq _
set_option maxRecDepth 100000 in
set_option maxHeartbeats 4000000 in
theorem rtext_no (b : Bool) (a : Option Addr) (n c : Nat) (l : List Nat) (a2 : Option Addr) (n2 c2 : Nat) (l2 : List Nat) (w : World) (g1 : NatAt w a n c l) (g2 : NatAt w a2 n2 c2 l2) (hs : n ≤ 100000) (hs2 : n2 ≤ 100000) (hk : chkR b l l2 ≠ 0) :
 Calls Tryz.prog 8 #[.agg #[.bool b, .slice a n c, .slice a2 n2 c2]] w (RetVal w (.tuple #[.string (⟨#[]⟩), .int .i64 6])) := by
 have hck := fun w (g1 : NatAt w a n c l) (g2 : NatAt w a2 n2 c2 l2) => rcheck05_any b a n c l a2 n2 c2 l2 w g1 g2 (by omega) (by omega)
 simp only [chkR_no hk] at hck
 have HCK := Lib.hid hck
 clear hck hk
 go_enter Tryz.func8, Tryz.ntmps8
 have hB := Below.refl w.heap.size w
 go_wp2_with fail
 obtain ⟨w1, hW, hz0, hb, q, f⟩ := box1g w (w.heap.size) (by omega) #[.bool b, .slice a n c, .slice a2 n2 c2] 27
 rw [hW]
 clear hW
 have g1 := g1.past hb
 have g2 := g2.past hb
 have hB := below_later hB hb
 clear hb
 have lp : w.heap.size < w1.heap.size := by omega
 have qp0 := q 0; have qp1 := q 1; have qp2 := q 2
 simp only [lgA, lgZ, lgS] at qp0 qp1 qp2
 clear q f
 clear hz0
 with_reducible refine (HCK.out _ g1 g2).mono ?_
 rintro e w2 ⟨rfl, hb⟩
 have g1 := g1.past hb
 have g2 := g2.past hb
 obtain ⟨qp0, qp1, qp2, lp⟩ := bq3 hb lp qp0 qp1 qp2
 have hB := below_later hB hb
 clear hb
 go_wp2
 go_ret2
 exact ⟨rfl, hB⟩
set_option maxRecDepth 100000 in
set_option maxHeartbeats 4000000 in
theorem rtext_true_one (a : Option Addr) (n c : Nat) (l : List Nat) (a2 : Option Addr) (n2 c2 : Nat) (l2 : List Nat) (w : World) (g1 : NatAt w a n c l) (g2 : NatAt w a2 n2 c2 l2) (hs : n ≤ 100000) (hs2 : n2 ≤ 100000) (hk : chkR true l l2 = 0) (hd : val l2 = 1) :
 Calls Tryz.prog 8 #[.agg #[.bool true, .slice a n c, .slice a2 n2 c2]] w (RetVal w (.tuple #[.string (textB true (val l) (val l2)), .int .i64 0])) := by
 have hck := fun w (g1 : NatAt w a n c l) (g2 : NatAt w a2 n2 c2 l2) => rcheck05_any true a n c l a2 n2 c2 l2 w g1 g2 (by omega) (by omega)
 simp only [hk] at hck
 have z1 := decS_limbs g1.dig (by rw [g1.len]; omega)
 have z2 := decS_limbs g2.dig (by rw [g2.len]; omega)
 have hput := fun w (g1 : NatAt w a n c l) => rput_any a n c l w g1 hs
 have hput2 := fun w (g2 : NatAt w a2 n2 c2 l2) => rput_any a2 n2 c2 l2 w g2 hs2
 have hcm := fun w a3 n3 c3 (g2 : NatAt w a2 n2 c2 l2) (g3 : NatAt w a3 n3 c3 [1]) => rcmp_any a2 n2 c2 l2 a3 n3 c3 [1] w g2 g3
 obtain ⟨C, hC⟩ : ∃ C, cmpI (val l2) (val [1]) = C := ⟨_, rfl⟩
 simp only [hC] at hcm
 have tC : C = 0 := by rw [← hC]; exact cmpI_one.2 hd
 simp only [tC] at hcm
 rw [hd, textB_neg1]
 obtain ⟨S, hS⟩ : ∃ S, decS (val l) = S := ⟨_, rfl⟩
 obtain ⟨T, hT⟩ : ∃ T, decS (val l2) = T := ⟨_, rfl⟩
 simp only [hS] at z1 hput ⊢
 simp only [hT] at z2 hput2
 have y1 : (⟨#[45]⟩ : ByteArray).size + S.size ≤ 9223372036854775807 := by rw [show (⟨#[45]⟩ : ByteArray).size = 1 from rfl]; omega
 have HCK := Lib.hid hck
 have HP1 := Lib.hid hput
 have HP2 := Lib.hid hput2
 have HCM := Lib.hid hcm
 clear hck hput hput2 hcm hk hS hT z1 z2 hC hd
 go_enter Tryz.func8, Tryz.ntmps8
 have hB := Below.refl w.heap.size w
 go_wp2_with fail
 obtain ⟨w1, hW, hz0, hb, q, f⟩ := box1g w (w.heap.size) (by omega) #[.bool true, .slice a n c, .slice a2 n2 c2] 27
 rw [hW]
 clear hW
 have g1 := g1.past hb
 have g2 := g2.past hb
 have hB := below_later hB hb
 clear hb
 have lp : w.heap.size < w1.heap.size := by omega
 have qp0 := q 0; have qp1 := q 1; have qp2 := q 2
 simp only [lgA, lgZ, lgS] at qp0 qp1 qp2
 clear q f
 clear hz0
 with_reducible refine (HCK.out _ g1 g2).mono ?_
 rintro e w2 ⟨rfl, hb⟩
 have g1 := g1.past hb
 have g2 := g2.past hb
 obtain ⟨qp0, qp1, qp2, lp⟩ := bq3 hb lp qp0 qp1 qp2
 have hB := below_later hB hb
 clear hb
 go_wp2_with fail
 with_reducible refine (HP1.out _ g1).mono ?_
 rintro e w3 ⟨rfl, hb⟩
 have g1 := g1.past hb
 have g2 := g2.past hb
 obtain ⟨qp0, qp1, qp2, lp⟩ := bq3 hb lp qp0 qp1 qp2
 have hB := below_later hB hb
 clear hb
 go_wp2_with fail
 obtain ⟨w4, hW, hz0, hb, q, f⟩ := box1g w3 (w3.heap.size) (by omega) #[.int .u64 1] 42
 have h0one : OwnAt w4 w3.heap.size (some ⟨w3.heap.size, 0, none⟩) 1 1 [1] := by rw [← hW]; exact litG _ _ _ [1] 1 (by omega) rfl rfl (by decide) (by first | decide | (simp; omega))
 rw [hW]
 clear hW
 have g1 := g1.past hb
 have g2 := g2.past hb
 obtain ⟨qp0, qp1, qp2, lp⟩ := bq3 hb lp qp0 qp1 qp2
 have hB := below_later hB hb
 clear hb
 have one := h0one
 clear h0one
 clear q f
 clear hz0
 with_reducible refine (HCM.out _ _ _ _ g2 one.toNatAt).mono ?_
 rintro e w' ⟨rfl, rfl⟩
 go_wp2
 go_ret2
 exact ⟨rfl, hB⟩
set_option maxRecDepth 100000 in
set_option maxHeartbeats 4000000 in
theorem rtext_true_big (a : Option Addr) (n c : Nat) (l : List Nat) (a2 : Option Addr) (n2 c2 : Nat) (l2 : List Nat) (w : World) (g1 : NatAt w a n c l) (g2 : NatAt w a2 n2 c2 l2) (hs : n ≤ 100000) (hs2 : n2 ≤ 100000) (hk : chkR true l l2 = 0) (hd : val l2 ≠ 1) :
 Calls Tryz.prog 8 #[.agg #[.bool true, .slice a n c, .slice a2 n2 c2]] w (RetVal w (.tuple #[.string (textB true (val l) (val l2)), .int .i64 0])) := by
 have hck := fun w (g1 : NatAt w a n c l) (g2 : NatAt w a2 n2 c2 l2) => rcheck05_any true a n c l a2 n2 c2 l2 w g1 g2 (by omega) (by omega)
 simp only [hk] at hck
 have z1 := decS_limbs g1.dig (by rw [g1.len]; omega)
 have z2 := decS_limbs g2.dig (by rw [g2.len]; omega)
 have hput := fun w (g1 : NatAt w a n c l) => rput_any a n c l w g1 hs
 have hput2 := fun w (g2 : NatAt w a2 n2 c2 l2) => rput_any a2 n2 c2 l2 w g2 hs2
 have hcm := fun w a3 n3 c3 (g2 : NatAt w a2 n2 c2 l2) (g3 : NatAt w a3 n3 c3 [1]) => rcmp_any a2 n2 c2 l2 a3 n3 c3 [1] w g2 g3
 obtain ⟨C, hC⟩ : ∃ C, cmpI (val l2) (val [1]) = C := ⟨_, rfl⟩
 simp only [hC] at hcm
 have tC : (C != 0) = true := bne_iff_ne.2 (by intro e; rw [← hC] at e; exact hd (cmpI_one.1 e))
 rw [textB_neg hd]
 obtain ⟨S, hS⟩ : ∃ S, decS (val l) = S := ⟨_, rfl⟩
 obtain ⟨T, hT⟩ : ∃ T, decS (val l2) = T := ⟨_, rfl⟩
 simp only [hS] at z1 hput ⊢
 simp only [hT] at z2 hput2 ⊢
 have y1 : (⟨#[45]⟩ : ByteArray).size + S.size ≤ 9223372036854775807 := by rw [show (⟨#[45]⟩ : ByteArray).size = 1 from rfl]; omega
 have y2 : ((⟨#[45]⟩ : ByteArray) ++ S).size + (⟨#[47]⟩ : ByteArray).size ≤ 9223372036854775807 := by simp only [ByteArray.size_append, show (⟨#[47]⟩ : ByteArray).size = 1 from rfl, show (⟨#[45]⟩ : ByteArray).size = 1 from rfl]; omega
 have y3 : (((⟨#[45]⟩ : ByteArray) ++ S) ++ (⟨#[47]⟩ : ByteArray)).size + T.size ≤ 9223372036854775807 := by simp only [ByteArray.size_append, show (⟨#[47]⟩ : ByteArray).size = 1 from rfl, show (⟨#[45]⟩ : ByteArray).size = 1 from rfl]; omega
 rw [← app_assoc]
 have HCK := Lib.hid hck
 have HP1 := Lib.hid hput
 have HP2 := Lib.hid hput2
 have HCM := Lib.hid hcm
 clear hck hput hput2 hcm hk hS hT z1 z2 hC hd
 go_enter Tryz.func8, Tryz.ntmps8
 have hB := Below.refl w.heap.size w
 go_wp2_with fail
 obtain ⟨w1, hW, hz0, hb, q, f⟩ := box1g w (w.heap.size) (by omega) #[.bool true, .slice a n c, .slice a2 n2 c2] 27
 rw [hW]
 clear hW
 have g1 := g1.past hb
 have g2 := g2.past hb
 have hB := below_later hB hb
 clear hb
 have lp : w.heap.size < w1.heap.size := by omega
 have qp0 := q 0; have qp1 := q 1; have qp2 := q 2
 simp only [lgA, lgZ, lgS] at qp0 qp1 qp2
 clear q f
 clear hz0
 with_reducible refine (HCK.out _ g1 g2).mono ?_
 rintro e w2 ⟨rfl, hb⟩
 have g1 := g1.past hb
 have g2 := g2.past hb
 obtain ⟨qp0, qp1, qp2, lp⟩ := bq3 hb lp qp0 qp1 qp2
 have hB := below_later hB hb
 clear hb
 go_wp2_with fail
 with_reducible refine (HP1.out _ g1).mono ?_
 rintro e w3 ⟨rfl, hb⟩
 have g1 := g1.past hb
 have g2 := g2.past hb
 obtain ⟨qp0, qp1, qp2, lp⟩ := bq3 hb lp qp0 qp1 qp2
 have hB := below_later hB hb
 clear hb
 go_wp2_with fail
 obtain ⟨w4, hW, hz0, hb, q, f⟩ := box1g w3 (w3.heap.size) (by omega) #[.int .u64 1] 42
 have h0one : OwnAt w4 w3.heap.size (some ⟨w3.heap.size, 0, none⟩) 1 1 [1] := by rw [← hW]; exact litG _ _ _ [1] 1 (by omega) rfl rfl (by decide) (by first | decide | (simp; omega))
 rw [hW]
 clear hW
 have g1 := g1.past hb
 have g2 := g2.past hb
 obtain ⟨qp0, qp1, qp2, lp⟩ := bq3 hb lp qp0 qp1 qp2
 have hB := below_later hB hb
 clear hb
 have one := h0one
 clear h0one
 clear q f
 clear hz0
 with_reducible refine (HCM.out _ _ _ _ g2 one.toNatAt).mono ?_
 rintro e w' ⟨rfl, rfl⟩
 go_wp2_with fail
 with_reducible refine (HP2.out _ g2).mono ?_
 rintro e w5 ⟨rfl, hb⟩
 have g1 := g1.past hb
 have g2 := g2.past hb
 have one := one.past hb
 obtain ⟨qp0, qp1, qp2, lp⟩ := bq3 hb lp qp0 qp1 qp2
 have hB := below_later hB hb
 clear hb
 go_wp2
 go_ret2
 exact ⟨rfl, hB⟩
set_option maxRecDepth 100000 in
set_option maxHeartbeats 4000000 in
theorem rtext_false_one (a : Option Addr) (n c : Nat) (l : List Nat) (a2 : Option Addr) (n2 c2 : Nat) (l2 : List Nat) (w : World) (g1 : NatAt w a n c l) (g2 : NatAt w a2 n2 c2 l2) (hs : n ≤ 100000) (hs2 : n2 ≤ 100000) (hk : chkR false l l2 = 0) (hd : val l2 = 1) :
 Calls Tryz.prog 8 #[.agg #[.bool false, .slice a n c, .slice a2 n2 c2]] w (RetVal w (.tuple #[.string (textB false (val l) (val l2)), .int .i64 0])) := by
 have hck := fun w (g1 : NatAt w a n c l) (g2 : NatAt w a2 n2 c2 l2) => rcheck05_any false a n c l a2 n2 c2 l2 w g1 g2 (by omega) (by omega)
 simp only [hk] at hck
 have z1 := decS_limbs g1.dig (by rw [g1.len]; omega)
 have z2 := decS_limbs g2.dig (by rw [g2.len]; omega)
 have hput := fun w (g1 : NatAt w a n c l) => rput_any a n c l w g1 hs
 have hput2 := fun w (g2 : NatAt w a2 n2 c2 l2) => rput_any a2 n2 c2 l2 w g2 hs2
 have hcm := fun w a3 n3 c3 (g2 : NatAt w a2 n2 c2 l2) (g3 : NatAt w a3 n3 c3 [1]) => rcmp_any a2 n2 c2 l2 a3 n3 c3 [1] w g2 g3
 obtain ⟨C, hC⟩ : ∃ C, cmpI (val l2) (val [1]) = C := ⟨_, rfl⟩
 simp only [hC] at hcm
 have tC : C = 0 := by rw [← hC]; exact cmpI_one.2 hd
 simp only [tC] at hcm
 rw [hd, textB_pos1]
 obtain ⟨S, hS⟩ : ∃ S, decS (val l) = S := ⟨_, rfl⟩
 obtain ⟨T, hT⟩ : ∃ T, decS (val l2) = T := ⟨_, rfl⟩
 simp only [hS] at z1 hput ⊢
 simp only [hT] at z2 hput2
 have HCK := Lib.hid hck
 have HP1 := Lib.hid hput
 have HP2 := Lib.hid hput2
 have HCM := Lib.hid hcm
 clear hck hput hput2 hcm hk hS hT z1 z2 hC hd
 go_enter Tryz.func8, Tryz.ntmps8
 have hB := Below.refl w.heap.size w
 go_wp2_with fail
 obtain ⟨w1, hW, hz0, hb, q, f⟩ := box1g w (w.heap.size) (by omega) #[.bool false, .slice a n c, .slice a2 n2 c2] 27
 rw [hW]
 clear hW
 have g1 := g1.past hb
 have g2 := g2.past hb
 have hB := below_later hB hb
 clear hb
 have lp : w.heap.size < w1.heap.size := by omega
 have qp0 := q 0; have qp1 := q 1; have qp2 := q 2
 simp only [lgA, lgZ, lgS] at qp0 qp1 qp2
 clear q f
 clear hz0
 with_reducible refine (HCK.out _ g1 g2).mono ?_
 rintro e w2 ⟨rfl, hb⟩
 have g1 := g1.past hb
 have g2 := g2.past hb
 obtain ⟨qp0, qp1, qp2, lp⟩ := bq3 hb lp qp0 qp1 qp2
 have hB := below_later hB hb
 clear hb
 go_wp2_with fail
 with_reducible refine (HP1.out _ g1).mono ?_
 rintro e w3 ⟨rfl, hb⟩
 have g1 := g1.past hb
 have g2 := g2.past hb
 obtain ⟨qp0, qp1, qp2, lp⟩ := bq3 hb lp qp0 qp1 qp2
 have hB := below_later hB hb
 clear hb
 go_wp2_with fail
 obtain ⟨w4, hW, hz0, hb, q, f⟩ := box1g w3 (w3.heap.size) (by omega) #[.int .u64 1] 42
 have h0one : OwnAt w4 w3.heap.size (some ⟨w3.heap.size, 0, none⟩) 1 1 [1] := by rw [← hW]; exact litG _ _ _ [1] 1 (by omega) rfl rfl (by decide) (by first | decide | (simp; omega))
 rw [hW]
 clear hW
 have g1 := g1.past hb
 have g2 := g2.past hb
 obtain ⟨qp0, qp1, qp2, lp⟩ := bq3 hb lp qp0 qp1 qp2
 have hB := below_later hB hb
 clear hb
 have one := h0one
 clear h0one
 clear q f
 clear hz0
 with_reducible refine (HCM.out _ _ _ _ g2 one.toNatAt).mono ?_
 rintro e w' ⟨rfl, rfl⟩
 go_wp2
 go_ret2
 exact ⟨rfl, hB⟩
set_option maxRecDepth 100000 in
set_option maxHeartbeats 4000000 in
theorem rtext_false_big (a : Option Addr) (n c : Nat) (l : List Nat) (a2 : Option Addr) (n2 c2 : Nat) (l2 : List Nat) (w : World) (g1 : NatAt w a n c l) (g2 : NatAt w a2 n2 c2 l2) (hs : n ≤ 100000) (hs2 : n2 ≤ 100000) (hk : chkR false l l2 = 0) (hd : val l2 ≠ 1) :
 Calls Tryz.prog 8 #[.agg #[.bool false, .slice a n c, .slice a2 n2 c2]] w (RetVal w (.tuple #[.string (textB false (val l) (val l2)), .int .i64 0])) := by
 have hck := fun w (g1 : NatAt w a n c l) (g2 : NatAt w a2 n2 c2 l2) => rcheck05_any false a n c l a2 n2 c2 l2 w g1 g2 (by omega) (by omega)
 simp only [hk] at hck
 have z1 := decS_limbs g1.dig (by rw [g1.len]; omega)
 have z2 := decS_limbs g2.dig (by rw [g2.len]; omega)
 have hput := fun w (g1 : NatAt w a n c l) => rput_any a n c l w g1 hs
 have hput2 := fun w (g2 : NatAt w a2 n2 c2 l2) => rput_any a2 n2 c2 l2 w g2 hs2
 have hcm := fun w a3 n3 c3 (g2 : NatAt w a2 n2 c2 l2) (g3 : NatAt w a3 n3 c3 [1]) => rcmp_any a2 n2 c2 l2 a3 n3 c3 [1] w g2 g3
 obtain ⟨C, hC⟩ : ∃ C, cmpI (val l2) (val [1]) = C := ⟨_, rfl⟩
 simp only [hC] at hcm
 have tC : (C != 0) = true := bne_iff_ne.2 (by intro e; rw [← hC] at e; exact hd (cmpI_one.1 e))
 rw [textB_pos hd]
 obtain ⟨S, hS⟩ : ∃ S, decS (val l) = S := ⟨_, rfl⟩
 obtain ⟨T, hT⟩ : ∃ T, decS (val l2) = T := ⟨_, rfl⟩
 simp only [hS] at z1 hput ⊢
 simp only [hT] at z2 hput2 ⊢
 have y2 : S.size + (⟨#[47]⟩ : ByteArray).size ≤ 9223372036854775807 := by simp only [ByteArray.size_append, show (⟨#[47]⟩ : ByteArray).size = 1 from rfl, show (⟨#[45]⟩ : ByteArray).size = 1 from rfl]; omega
 have y3 : (S ++ (⟨#[47]⟩ : ByteArray)).size + T.size ≤ 9223372036854775807 := by simp only [ByteArray.size_append, show (⟨#[47]⟩ : ByteArray).size = 1 from rfl, show (⟨#[45]⟩ : ByteArray).size = 1 from rfl]; omega
 rw [← app_assoc]
 have HCK := Lib.hid hck
 have HP1 := Lib.hid hput
 have HP2 := Lib.hid hput2
 have HCM := Lib.hid hcm
 clear hck hput hput2 hcm hk hS hT z1 z2 hC hd
 go_enter Tryz.func8, Tryz.ntmps8
 have hB := Below.refl w.heap.size w
 go_wp2_with fail
 obtain ⟨w1, hW, hz0, hb, q, f⟩ := box1g w (w.heap.size) (by omega) #[.bool false, .slice a n c, .slice a2 n2 c2] 27
 rw [hW]
 clear hW
 have g1 := g1.past hb
 have g2 := g2.past hb
 have hB := below_later hB hb
 clear hb
 have lp : w.heap.size < w1.heap.size := by omega
 have qp0 := q 0; have qp1 := q 1; have qp2 := q 2
 simp only [lgA, lgZ, lgS] at qp0 qp1 qp2
 clear q f
 clear hz0
 with_reducible refine (HCK.out _ g1 g2).mono ?_
 rintro e w2 ⟨rfl, hb⟩
 have g1 := g1.past hb
 have g2 := g2.past hb
 obtain ⟨qp0, qp1, qp2, lp⟩ := bq3 hb lp qp0 qp1 qp2
 have hB := below_later hB hb
 clear hb
 go_wp2_with fail
 with_reducible refine (HP1.out _ g1).mono ?_
 rintro e w3 ⟨rfl, hb⟩
 have g1 := g1.past hb
 have g2 := g2.past hb
 obtain ⟨qp0, qp1, qp2, lp⟩ := bq3 hb lp qp0 qp1 qp2
 have hB := below_later hB hb
 clear hb
 go_wp2_with fail
 obtain ⟨w4, hW, hz0, hb, q, f⟩ := box1g w3 (w3.heap.size) (by omega) #[.int .u64 1] 42
 have h0one : OwnAt w4 w3.heap.size (some ⟨w3.heap.size, 0, none⟩) 1 1 [1] := by rw [← hW]; exact litG _ _ _ [1] 1 (by omega) rfl rfl (by decide) (by first | decide | (simp; omega))
 rw [hW]
 clear hW
 have g1 := g1.past hb
 have g2 := g2.past hb
 obtain ⟨qp0, qp1, qp2, lp⟩ := bq3 hb lp qp0 qp1 qp2
 have hB := below_later hB hb
 clear hb
 have one := h0one
 clear h0one
 clear q f
 clear hz0
 with_reducible refine (HCM.out _ _ _ _ g2 one.toNatAt).mono ?_
 rintro e w' ⟨rfl, rfl⟩
 go_wp2_with fail
 with_reducible refine (HP2.out _ g2).mono ?_
 rintro e w5 ⟨rfl, hb⟩
 have g1 := g1.past hb
 have g2 := g2.past hb
 have one := one.past hb
 obtain ⟨qp0, qp1, qp2, lp⟩ := bq3 hb lp qp0 qp1 qp2
 have hB := below_later hB hb
 clear hb
 go_wp2
 go_ret2
 exact ⟨rfl, hB⟩
theorem rtext_any (b : Bool) (a : Option Addr) (n c : Nat) (l : List Nat) (a2 : Option Addr) (n2 c2 : Nat) (l2 : List Nat) (w : World) (g1 : NatAt w a n c l) (g2 : NatAt w a2 n2 c2 l2) (hs : n ≤ 100000) (hs2 : n2 ≤ 100000) :
 Calls Tryz.prog 8 #[.agg #[.bool b, .slice a n c, .slice a2 n2 c2]] w (RetVal w (.tuple #[.string (textE b l l2), .int .i64 (chkR b l l2)])) := by
 by_cases hk : chkR b l l2 = 0
 · have e : textE b l l2 = textB b (val l) (val l2) := if_pos hk
   rw [e, hk]
   cases b
   · by_cases h1 : val l2 = 1
     · exact rtext_false_one _ _ _ _ _ _ _ _ w g1 g2 hs hs2 hk h1
     · exact rtext_false_big _ _ _ _ _ _ _ _ w g1 g2 hs hs2 hk h1
   · by_cases h1 : val l2 = 1
     · exact rtext_true_one _ _ _ _ _ _ _ _ w g1 g2 hs hs2 hk h1
     · exact rtext_true_big _ _ _ _ _ _ _ _ w g1 g2 hs hs2 hk h1
 · have e : textE b l l2 = ⟨#[]⟩ := if_neg hk
   rw [e, chkR_no hk]
   exact rtext_no b _ _ _ _ _ _ _ _ w g1 g2 hs hs2 hk
end Go.Proofs.YtoecndogaklngaaGreatDoor
