import Derived.Test.YtmhjhhcdjecdbaaGreatS0Rk
import Derived.Test.YtmhjhhcdjecdbaaGreatLaw05aRk
import Derived.Test.YtmhjhhcdjecdbaaGreatB3Rk
set_option linter.unusedVariables false
set_option linter.unusedSimpArgs false
namespace Go.Proofs.YtmhjhhcdjecdbaaGreat
open Go.RowKit
theorem pairR_ok {x y : Int} (hy : y ≠ 0) : pairR x y = .ok (mkRat (sg (neg x != neg y) x.natAbs) y.natAbs) := by
 unfold pairR makeR
 rw [if_neg (by rw [chkZ_canon]; simp), val_digs, val_digs, if_neg (by omega), natAbs_sg]
 congr 2
 have h := sg_canon (sg (neg x != neg y) x.natAbs)
 rw [natAbs_sg, val_digs] at h
 exact h
theorem pair_ok {x y : Int} {q : Rat} (hy : y ≠ 0) (hq : mkRat (sg (neg x != neg y) x.natAbs) y.natAbs = q) (w : World) (hx : -9223372036854775808 ≤ x ∧ x ≤ 9223372036854775807) (hy2 : -9223372036854775808 ≤ y ∧ y ≤ 9223372036854775807) :
 Calls Tryz.prog 29 #[.int .i64 x, .int .i64 y] w (RetOk w q) := by
 have h := pair05_any x y w hx hy2
 rw [pairR_ok hy, hq] at h
 exact h
theorem chk_of {b : Bool} {l : List Nat} {v d g : Nat} (hv : val l = v) (hg : Nat.gcd v d = g) (h : g ≠ 1) : chkR b l [d] = 6 := by
 unfold chkR
 rw [if_neg]
 rintro ⟨_, _, _, h4⟩
 rw [hv, show val [d] = d from by simp [val], hg] at h4
 exact h h4
theorem fr_len (x : Int) (d : Nat) (h : d ≠ 0) (h2 : x.natAbs.Coprime d) (hx : x.natAbs < 18446744073709551616) (hd : d < 18446744073709551616) : rlen (fr x d h h2) ≤ 1 := by
 have h1 : (digs x.natAbs).length ≤ 1 := digs_length_le.2 (by omega)
 have h3 : (digs d).length ≤ 1 := digs_length_le.2 (by omega)
 unfold rlen
 exact Nat.max_le.2 ⟨h1, h3⟩
theorem fr_short (x : Int) (d : Nat) (h : d ≠ 0) (h2 : x.natAbs.Coprime d) (hx : x.natAbs < 18446744073709551616) (hd : d < 18446744073709551616) : rlen (fr x d h h2) ≤ 1048576 := Nat.le_trans (fr_len x d h h2 hx hd) (by decide)
set_option maxRecDepth 100000 in
set_option maxHeartbeats 8000000 in
theorem awake05 (w : World) : Calls Tryz.prog 6 #[] w (RetVal w (.bool true)) := by
 have ce : chkR (neg 2) (digs (2 : Int).natAbs) [4] = 6 := chk_of (v := 2) (by rw [val_digs]; rfl) (g := 2) (by decide) (by decide)
 have CE := Lib.hid ce
 clear ce
 go_enter Tryz.func6, Tryz.ntmps6
 have hB := Below.refl w.heap.size w
 go_wp2_with fail
 with_reducible refine (pair_ok (x := 6) (y := -4) (q := fr (-3) 2) (by decide) (by decide +kernel) _ (by decide) (by decide)).mono ?_
 rintro e w1 ⟨ahAU, nhAU, chAU, ahAD, nhAD, chAD, rfl, hAU, hAD, hb⟩
 have hB := below_later hB hb
 clear hb
 go_wp2_with fail
 obtain ⟨w2, hW, hz0, hb, q, f⟩ := box1g w1 (w1.heap.size) (by omega) #[.bool (neg (fr (-3) 2).num), .slice ahAU nhAU chAU, .slice ahAD nhAD chAD] 30
 rw [hW]
 clear hW
 have hAU := hAU.past hb
 have hAD := hAD.past hb
 have hB := below_later hB hb
 clear hb
 have la : w1.heap.size < w2.heap.size := by omega
 have qa0 := q 0; have qa1 := q 1; have qa2 := q 2
 simp only [lgA, lgZ, lgS] at qa0 qa1 qa2
 clear q f
 clear hz0
 refine (of05_fr 1 2 (by decide) (by decide) _ (by decide) (by decide) (by decide)).mono ?_
 rintro e w3 ⟨ah1U, nh1U, ch1U, ah1D, nh1D, ch1D, rfl, h1U, h1D, hb⟩
 have hAU := hAU.past hb
 have hAD := hAD.past hb
 obtain ⟨qa0, qa1, qa2, la⟩ := bq3 hb la qa0 qa1 qa2
 have hB := below_later hB hb
 clear hb
 go_wp2_with fail
 refine (of05_fr 1 3 (by decide) (by decide) _ (by decide) (by decide) (by decide)).mono ?_
 rintro e w4 ⟨ah2U, nh2U, ch2U, ah2D, nh2D, ch2D, rfl, h2U, h2D, hb⟩
 have hAU := hAU.past hb
 have hAD := hAD.past hb
 have h1U := h1U.past hb
 have h1D := h1D.past hb
 obtain ⟨qa0, qa1, qa2, la⟩ := bq3 hb la qa0 qa1 qa2
 have hB := below_later hB hb
 clear hb
 go_wp2_with fail
 refine (of05_fr 1 6 (by decide) (by decide) _ (by decide) (by decide) (by decide)).mono ?_
 rintro e w5 ⟨ah3U, nh3U, ch3U, ah3D, nh3D, ch3D, rfl, h3U, h3D, hb⟩
 have hAU := hAU.past hb
 have hAD := hAD.past hb
 have h1U := h1U.past hb
 have h1D := h1D.past hb
 have h2U := h2U.past hb
 have h2D := h2D.past hb
 obtain ⟨qa0, qa1, qa2, la⟩ := bq3 hb la qa0 qa1 qa2
 have hB := below_later hB hb
 clear hb
 go_wp2_with fail
 obtain ⟨w6, hW, hz0, hb, q, f⟩ := box1g w5 (w5.heap.size) (by omega) #[.bool (neg (fr 1 2).num), .slice ah1U nh1U ch1U, .slice ah1D nh1D ch1D, .bool (neg (fr 1 3).num), .slice ah2U nh2U ch2U, .slice ah2D nh2D ch2D, .bool (neg (fr 1 6).num), .slice ah3U nh3U ch3U, .slice ah3D nh3D ch3D] 30
 rw [hW]
 clear hW
 have hAU := hAU.past hb
 have hAD := hAD.past hb
 have h1U := h1U.past hb
 have h1D := h1D.past hb
 have h2U := h2U.past hb
 have h2D := h2D.past hb
 have h3U := h3U.past hb
 have h3D := h3D.past hb
 obtain ⟨qa0, qa1, qa2, la⟩ := bq3 hb la qa0 qa1 qa2
 have hB := below_later hB hb
 clear hb
 have ls : w5.heap.size < w6.heap.size := by omega
 have qs0 := q 0; have qs1 := q 1; have qs2 := q 2; have qs3 := q 3; have qs4 := q 4; have qs5 := q 5; have qs6 := q 6; have qs7 := q 7; have qs8 := q 8
 simp only [lgA, lgZ, lgS] at qs0 qs1 qs2 qs3 qs4 qs5 qs6 qs7 qs8
 clear q f
 clear hz0
 with_reducible refine (add_three (RatsAt.three ls qs0 qs1 qs2 qs3 qs4 qs5 qs6 qs7 qs8 h1U.toNatAt h1D.toNatAt h2U.toNatAt h2D.toNatAt h3U.toNatAt h3D.toNatAt) (fr_short _ _ _ _ (by decide) (by decide)) (fr_short _ _ _ _ (by decide) (by decide)) (fr_short _ _ _ _ (by decide) (by decide))).mono ?_
 rintro e w7 ⟨ahBU, nhBU, chBU, ahBD, nhBD, chBD, rfl, hBU, hBD, hb⟩
 have hAU := hAU.past hb
 have hAD := hAD.past hb
 have h1U := h1U.past hb
 have h1D := h1D.past hb
 have h2U := h2U.past hb
 have h2D := h2D.past hb
 have h3U := h3U.past hb
 have h3D := h3D.past hb
 obtain ⟨qa0, qa1, qa2, la⟩ := bq3 hb la qa0 qa1 qa2
 have qs0 := bq hb ls qs0; have qs1 := bq hb ls qs1; have qs2 := bq hb ls qs2; have qs3 := bq hb ls qs3; have qs4 := bq hb ls qs4; have qs5 := bq hb ls qs5; have qs6 := bq hb ls qs6; have qs7 := bq hb ls qs7; have qs8 := bq hb ls qs8
 have ls := bl hb ls
 have hB := below_later hB hb
 clear hb
 have ev : (fr 1 2) + (fr 1 3) + (fr 1 6) = fr 1 1 := by decide +kernel
 rw [ev] at hBU hBD ⊢
 clear ev
 go_wp2_with fail
 obtain ⟨w8, hW, hz0, hb, q, f⟩ := box1g w7 (w7.heap.size) (by omega) #[.bool (neg (fr 1 1).num), .slice ahBU nhBU chBU, .slice ahBD nhBD chBD] 30
 rw [hW]
 clear hW
 have hAU := hAU.past hb
 have hAD := hAD.past hb
 have hBU := hBU.past hb
 have hBD := hBD.past hb
 obtain ⟨qa0, qa1, qa2, la⟩ := bq3 hb la qa0 qa1 qa2
 have hB := below_later hB hb
 clear hb
 have lb : w7.heap.size < w8.heap.size := by omega
 have qb0 := q 0; have qb1 := q 1; have qb2 := q 2
 simp only [lgA, lgZ, lgS] at qb0 qb1 qb2
 clear q f
 clear hz0
 refine (of05_fr 2 3 (by decide) (by decide) _ (by decide) (by decide) (by decide)).mono ?_
 rintro e w9 ⟨ah1U, nh1U, ch1U, ah1D, nh1D, ch1D, rfl, h1U, h1D, hb⟩
 have hAU := hAU.past hb
 have hAD := hAD.past hb
 have hBU := hBU.past hb
 have hBD := hBD.past hb
 obtain ⟨qa0, qa1, qa2, la⟩ := bq3 hb la qa0 qa1 qa2
 obtain ⟨qb0, qb1, qb2, lb⟩ := bq3 hb lb qb0 qb1 qb2
 have hB := below_later hB hb
 clear hb
 go_wp2_with fail
 refine (of05_fr 3 4 (by decide) (by decide) _ (by decide) (by decide) (by decide)).mono ?_
 rintro e w10 ⟨ah2U, nh2U, ch2U, ah2D, nh2D, ch2D, rfl, h2U, h2D, hb⟩
 have hAU := hAU.past hb
 have hAD := hAD.past hb
 have hBU := hBU.past hb
 have hBD := hBD.past hb
 have h1U := h1U.past hb
 have h1D := h1D.past hb
 obtain ⟨qa0, qa1, qa2, la⟩ := bq3 hb la qa0 qa1 qa2
 obtain ⟨qb0, qb1, qb2, lb⟩ := bq3 hb lb qb0 qb1 qb2
 have hB := below_later hB hb
 clear hb
 go_wp2_with fail
 obtain ⟨w11, hW, hz0, hb, q, f⟩ := box1g w10 (w10.heap.size) (by omega) #[.bool (neg (fr 2 3).num), .slice ah1U nh1U ch1U, .slice ah1D nh1D ch1D, .bool (neg (fr 3 4).num), .slice ah2U nh2U ch2U, .slice ah2D nh2D ch2D] 30
 rw [hW]
 clear hW
 have hAU := hAU.past hb
 have hAD := hAD.past hb
 have hBU := hBU.past hb
 have hBD := hBD.past hb
 have h1U := h1U.past hb
 have h1D := h1D.past hb
 have h2U := h2U.past hb
 have h2D := h2D.past hb
 obtain ⟨qa0, qa1, qa2, la⟩ := bq3 hb la qa0 qa1 qa2
 obtain ⟨qb0, qb1, qb2, lb⟩ := bq3 hb lb qb0 qb1 qb2
 have hB := below_later hB hb
 clear hb
 have ls : w10.heap.size < w11.heap.size := by omega
 have qs0 := q 0; have qs1 := q 1; have qs2 := q 2; have qs3 := q 3; have qs4 := q 4; have qs5 := q 5
 simp only [lgA, lgZ, lgS] at qs0 qs1 qs2 qs3 qs4 qs5
 clear q f
 clear hz0
 with_reducible refine (mul_two (RatsAt.two ls qs0 qs1 qs2 qs3 qs4 qs5 h1U.toNatAt h1D.toNatAt h2U.toNatAt h2D.toNatAt) (fr_short _ _ _ _ (by decide) (by decide)) (fr_short _ _ _ _ (by decide) (by decide))).mono ?_
 rintro e w12 ⟨ahCU, nhCU, chCU, ahCD, nhCD, chCD, rfl, hCU, hCD, hb⟩
 have hAU := hAU.past hb
 have hAD := hAD.past hb
 have hBU := hBU.past hb
 have hBD := hBD.past hb
 have h1U := h1U.past hb
 have h1D := h1D.past hb
 have h2U := h2U.past hb
 have h2D := h2D.past hb
 obtain ⟨qa0, qa1, qa2, la⟩ := bq3 hb la qa0 qa1 qa2
 obtain ⟨qb0, qb1, qb2, lb⟩ := bq3 hb lb qb0 qb1 qb2
 have qs0 := bq hb ls qs0; have qs1 := bq hb ls qs1; have qs2 := bq hb ls qs2; have qs3 := bq hb ls qs3; have qs4 := bq hb ls qs4; have qs5 := bq hb ls qs5
 have ls := bl hb ls
 have hB := below_later hB hb
 clear hb
 have ev : (fr 2 3) * (fr 3 4) = fr 1 2 := by decide +kernel
 rw [ev] at hCU hCD ⊢
 clear ev
 go_wp2_with fail
 obtain ⟨w13, hW, hz0, hb, q, f⟩ := box1g w12 (w12.heap.size) (by omega) #[.bool (neg (fr 1 2).num), .slice ahCU nhCU chCU, .slice ahCD nhCD chCD] 30
 rw [hW]
 clear hW
 have hAU := hAU.past hb
 have hAD := hAD.past hb
 have hBU := hBU.past hb
 have hBD := hBD.past hb
 have hCU := hCU.past hb
 have hCD := hCD.past hb
 obtain ⟨qa0, qa1, qa2, la⟩ := bq3 hb la qa0 qa1 qa2
 obtain ⟨qb0, qb1, qb2, lb⟩ := bq3 hb lb qb0 qb1 qb2
 have hB := below_later hB hb
 clear hb
 have lc : w12.heap.size < w13.heap.size := by omega
 have qc0 := q 0; have qc1 := q 1; have qc2 := q 2
 simp only [lgA, lgZ, lgS] at qc0 qc1 qc2
 clear q f
 clear hz0
 refine (is05_yes hAU.toNatAt hAD.toNatAt (-3) 2 rfl rfl (by decide) (by decide) (by decide)).mono ?_
 rintro e w14 ⟨rfl, hb⟩
 have hAU := hAU.past hb
 have hAD := hAD.past hb
 have hBU := hBU.past hb
 have hBD := hBD.past hb
 have hCU := hCU.past hb
 have hCD := hCD.past hb
 obtain ⟨qa0, qa1, qa2, la⟩ := bq3 hb la qa0 qa1 qa2
 obtain ⟨qb0, qb1, qb2, lb⟩ := bq3 hb lb qb0 qb1 qb2
 obtain ⟨qc0, qc1, qc2, lc⟩ := bq3 hb lc qc0 qc1 qc2
 have hB := below_later hB hb
 clear hb
 go_wp2_with fail
 refine (is05_yes hBU.toNatAt hBD.toNatAt (1) 1 rfl rfl (by decide) (by decide) (by decide)).mono ?_
 rintro e w15 ⟨rfl, hb⟩
 have hAU := hAU.past hb
 have hAD := hAD.past hb
 have hBU := hBU.past hb
 have hBD := hBD.past hb
 have hCU := hCU.past hb
 have hCD := hCD.past hb
 obtain ⟨qa0, qa1, qa2, la⟩ := bq3 hb la qa0 qa1 qa2
 obtain ⟨qb0, qb1, qb2, lb⟩ := bq3 hb lb qb0 qb1 qb2
 obtain ⟨qc0, qc1, qc2, lc⟩ := bq3 hb lc qc0 qc1 qc2
 have hB := below_later hB hb
 clear hb
 go_wp2_with fail
 refine (is05_yes hCU.toNatAt hCD.toNatAt (1) 2 rfl rfl (by decide) (by decide) (by decide)).mono ?_
 rintro e w16 ⟨rfl, hb⟩
 have hAU := hAU.past hb
 have hAD := hAD.past hb
 have hBU := hBU.past hb
 have hBD := hBD.past hb
 have hCU := hCU.past hb
 have hCD := hCD.past hb
 obtain ⟨qa0, qa1, qa2, la⟩ := bq3 hb la qa0 qa1 qa2
 obtain ⟨qb0, qb1, qb2, lb⟩ := bq3 hb lb qb0 qb1 qb2
 obtain ⟨qc0, qc1, qc2, lc⟩ := bq3 hb lc qc0 qc1 qc2
 have hB := below_later hB hb
 clear hb
 go_wp2_with fail
 refine (of05_any 2 4 _ (by decide) (by decide) (by decide)).mono ?_
 rintro e w17 ⟨ahFU, nhFU, chFU, ahFD, nhFD, chFD, rfl, hFU, hFD, hb⟩
 have hB := below_later hB hb
 clear hb
 go_wp2_with fail
 with_reducible refine (check05_any _ _ _ _ (digs (2 : Int).natAbs) _ _ _ [4] _ hFU.toNatAt hFD.toNatAt (by rw [← hFU.len]; decide) (by rw [← hFD.len]; decide)).mono ?_
 rintro e w18 ⟨rfl, hb⟩
 have hFU := hFU.past hb
 have hFD := hFD.past hb
 have hB := below_later hB hb
 clear hb
 rw [CE.out]
 go_wp2
 go_ret
 exact ⟨rfl, hB⟩
end Go.Proofs.YtmhjhhcdjecdbaaGreat
