import Derived.Test.YtlkoenpdmlbhlaaGreatS0Cm
import Derived.Test.YtlkoenpdmlbhlaaGreatB1Cm
import Derived.Test.YtlkoenpdmlbhlaaGreatA8Cm
set_option linter.unusedVariables false
set_option linter.unusedSimpArgs false
namespace Go.Proofs.YtlkoenpdmlbhlaaGreat
open Go.RowKit
set_option maxRecDepth 100000 in
set_option maxHeartbeats 4000000 in
theorem rlowest_any (b : Bool) (a : Option Addr) (n c : Nat) (l : List Nat) (a2 : Option Addr) (n2 c2 : Nat) (l2 : List Nat) (w : World) (g1 : NatAt w a n c l) (g2 : NatAt w a2 n2 c2 l2) (hs : n ≤ 200000) (hs2 : n2 ≤ 200000) (hz : val l2 ≠ 0) :
 Calls Tryz.prog 104 #[.agg #[.bool b, .slice a n c], .slice a2 n2 c2] w (RetRat w (mkRat (sg b (val l)) (val l2))) := by
 obtain ⟨p1, p2⟩ := low_parts (b := b) (v := val l) hz
 have hg0 := gcd_ne (v := val l) hz
 have hgl : (digs (Nat.gcd (val l) (val l2))).length ≤ n2 := Nat.le_trans (digs_len_mono (Nat.gcd_le_right _ (Nat.pos_of_ne_zero hz))) g2.short
 obtain ⟨G, hG⟩ : ∃ G, Nat.gcd (val l) (val l2) = G := ⟨_, rfl⟩
 rw [hG] at p1 p2 hg0 hgl
 obtain ⟨Q, hQ⟩ : ∃ Q : Rat, mkRat (sg b (val l)) (val l2) = Q := ⟨_, rfl⟩
 rw [hQ] at p1 p2 ⊢
 have hg0 : val (digs G) ≠ 0 := by rw [val_digs]; exact hg0
 have q1 : sg b (val (digs (val l / val (digs G)))) = Q.num := by rw [val_digs, val_digs]; exact p1
 have q2 : digs (val l2 / val (digs G)) = digs Q.den := by rw [val_digs, p2]
 have hl1 : (digs (val l / val (digs G))).length ≤ n := Nat.le_trans (digs_len_mono (Nat.div_le_self _ _)) g1.short
 have HG := Lib.hid hG
 have HG0 := Lib.hid hg0
 have HGL := Lib.hid hgl
 have H1 := Lib.hid q1
 have H2 := Lib.hid q2
 have HL1 := Lib.hid hl1
 clear hG p1 p2 hg0 hgl q1 q2 hl1 hQ
 go_enter Tryz.func104, Tryz.ntmps104
 have hB := Below.refl w.heap.size w
 go_wp2_with fail
 obtain ⟨w1, hW, hz0, hb, q, f⟩ := box1g w (w.heap.size) (by omega) #[.bool b, .slice a n c] 25
 rw [hW]
 clear hW
 have g1 := g1.past hb
 have g2 := g2.past hb
 have hB := below_later hB hb
 clear hb
 have lb1 : w.heap.size < w1.heap.size := by omega
 have qb10 := q 0; have qb11 := q 1
 simp only [lgA, lgZ, lgS] at qb10 qb11
 clear q f
 obtain ⟨w2, hW, hz1, hb, q, f⟩ := box1g w1 (w.heap.size + 1) (by omega) #[.bool false, .slice none 0 0, .slice none 0 0] 27
 rw [hW]
 clear hW
 have g1 := g1.past hb
 have g2 := g2.past hb
 obtain ⟨qb10, qb11, lb1⟩ := bq2 hb lb1 qb10 qb11
 have hB := below_later hB hb
 clear hb
 have lr : w.heap.size + 1 < w2.heap.size := by omega
 have qr0 := q 0; have qr1 := q 1; have qr2 := q 2
 simp only [lgA, lgZ, lgS] at qr0 qr1 qr2
 have xr : BoxAt w2 (w.heap.size + 1) 3 := BoxAt.of q f rfl (by simp [notU_bool, notU_slice, notU_i64])
 clear q f
 clear hz0
 clear hz1
 with_reducible refine (rgcd_any _ _ _ l _ _ _ l2 _ g1 g2 (by omega) (by omega)).mono ?_
 rintro e w3 ⟨ahG, nhG, chG, rfl, hG, hb⟩
 have hG := hG.mono hB.size
 have g1 := g1.past hb
 have g2 := g2.past hb
 obtain ⟨qb10, qb11, lb1⟩ := bq2 hb lb1 qb10 qb11
 have xr := xr.past hb lr
 obtain ⟨qr0, qr1, qr2, lr⟩ := bq3 hb lr qr0 qr1 qr2
 have hB := below_later hB hb
 clear hb
 rw [HG.out] at hG
 have nG : nhG ≤ n2 := by rw [← hG.len]; exact HGL.out
 go_wp2_with fail
 with_reducible refine (rdiv_yes _ _ _ l _ _ _ (digs G) _ g1 hG.toNatAt (by omega) (by omega) HG0.out).mono ?_
 rintro e w4 ⟨ahQ, nhQ, chQ, ahX, nhX, chX, rfl, hQ, hX, hb⟩
 have hQ := hQ.mono hB.size
 have g1 := g1.past hb
 have g2 := g2.past hb
 have hG := hG.past hb
 obtain ⟨qb10, qb11, lb1⟩ := bq2 hb lb1 qb10 qb11
 have xr := xr.past hb lr
 obtain ⟨qr0, qr1, qr2, lr⟩ := bq3 hb lr qr0 qr1 qr2
 have hB := below_later hB hb
 clear hb
 have nQ : nhQ ≤ n := by rw [← hQ.len]; exact HL1.out
 clear hX
 go_wp2_with fail
 with_reducible refine (rdiv_yes _ _ _ l2 _ _ _ (digs G) _ g2 hG.toNatAt (by omega) (by omega) HG0.out).mono ?_
 rintro e w5 ⟨ahD, nhD, chD, ahY, nhY, chY, rfl, hD, hY, hb⟩
 have hD := hD.mono hB.size
 have g1 := g1.past hb
 have g2 := g2.past hb
 have hG := hG.past hb
 have hQ := hQ.past hb
 obtain ⟨qb10, qb11, lb1⟩ := bq2 hb lb1 qb10 qb11
 have xr := xr.past hb lr
 obtain ⟨qr0, qr1, qr2, lr⟩ := bq3 hb lr qr0 qr1 qr2
 have hB := below_later hB hb
 clear hb
 rw [H2.out] at hD
 clear hY
 go_wp2_with fail
 with_reducible refine (rsmake_any b _ _ _ (digs (val l / val (digs G))) _ hQ.toNatAt (by omega)).mono ?_
 rintro e w6 ⟨ahU, nhU, chU, rfl, hU, hb⟩
 have hU := hU.mono hB.size
 have g1 := g1.past hb
 have g2 := g2.past hb
 have hG := hG.past hb
 have hQ := hQ.past hb
 have hD := hD.past hb
 obtain ⟨qb10, qb11, lb1⟩ := bq2 hb lb1 qb10 qb11
 have xr := xr.past hb lr
 obtain ⟨qr0, qr1, qr2, lr⟩ := bq3 hb lr qr0 qr1 qr2
 have hB := below_later hB hb
 clear hb
 rw [H1.out] at hU ⊢
 have zf0 := xr.f 0 (by decide)
 have zf1 := xr.f 1 (by decide)
 have zf2 := xr.f 2 (by decide)
 go_wp2
 obtain ⟨w7, hW, hO, qN0, qN1, qN2, xN⟩ := store3 xr (.bool (neg Q.num)) (.slice ahU nhU chU) (.slice ahD nhD chD) (nu rfl) (nu rfl) (nu rfl)
 try rw [hW]
 clear hW
 have g1 := hO.nat g1
 have g2 := hO.nat g2
 have hG := hO.own hG
 have hQ := hO.own hQ
 have hD := hO.own hD
 have hU := hO.own hU
 have qb10 := (hO.cell (b2 := w.heap.size) (k := 0) (by omega)).trans qb10
 have qb11 := (hO.cell (b2 := w.heap.size) (k := 1) (by omega)).trans qb11
 have lb1 : w.heap.size < w7.heap.size := by rw [hO.size]; exact lb1
 have lr : w.heap.size + 1 < w7.heap.size := by rw [hO.size]; exact lr
 have qr0 := qN0
 have qr1 := qN1
 have qr2 := qN2
 have xr := xN
 have hB := hO.below (by omega) hB
 clear hO qN0 qN1 qN2 xN zf0 zf1 zf2
 refine bodyPost_ret (v := .agg #[.bool (neg Q.num), .slice ahU nhU chU, .slice ahD nhD chD]) ?_ rfl ⟨_, _, _, _, _, _, rfl, hU, hD, hB⟩
 simp [results, Tryz.f104, go_sem, qr0, qr1, qr2]
set_option maxRecDepth 100000 in
set_option maxHeartbeats 4000000 in
theorem rmake05_any (b : Bool) (a : Option Addr) (n c : Nat) (l : List Nat) (a2 : Option Addr) (n2 c2 : Nat) (l2 : List Nat) (w : World) (g1 : NatAt w a n c l) (g2 : NatAt w a2 n2 c2 l2) (hs : n ≤ 200000) (hs2 : n2 ≤ 200000) :
 Calls Tryz.prog 96 #[.agg #[.bool b, .slice a n c], .slice a2 n2 c2] w (RetAns w (makeR b l l2)) := by
 by_cases h1 : chkZ b l = 0
 · by_cases h2 : val l2 = 0
   · have e : makeR b l l2 = .error 5 := by unfold makeR; rw [if_neg (by simp [h1]), if_pos h2]
     rw [e]
     have H1 := Lib.hid h1
     have H2 := Lib.hid (show (digs (val l2)).length = 0 by rw [h2]; rfl)
     clear h1 h2 e
     go_enter Tryz.func96, Tryz.ntmps96
     have hB := Below.refl w.heap.size w
     go_wp2_with fail
     obtain ⟨w1, hW, hz0, hb, q, f⟩ := box1g w (w.heap.size) (by omega) #[.bool b, .slice a n c] 25
     rw [hW]
     clear hW
     have g1 := g1.past hb
     have g2 := g2.past hb
     have hB := below_later hB hb
     clear hb
     have lb1 : w.heap.size < w1.heap.size := by omega
     have qb10 := q 0; have qb11 := q 1
     simp only [lgA, lgZ, lgS] at qb10 qb11
     clear q f
     obtain ⟨w2, hW, hz1, hb, q, f⟩ := box1g w1 (w.heap.size + 1) (by omega) #[.bool false, .slice none 0 0, .slice none 0 0] 27
     rw [hW]
     clear hW
     have g1 := g1.past hb
     have g2 := g2.past hb
     obtain ⟨qb10, qb11, lb1⟩ := bq2 hb lb1 qb10 qb11
     have hB := below_later hB hb
     clear hb
     have lr : w.heap.size + 1 < w2.heap.size := by omega
     have qr0 := q 0; have qr1 := q 1; have qr2 := q 2
     simp only [lgA, lgZ, lgS] at qr0 qr1 qr2
     have xr : BoxAt w2 (w.heap.size + 1) 3 := BoxAt.of q f rfl (by simp [notU_bool, notU_slice, notU_i64])
     clear q f
     clear hz0
     clear hz1
     with_reducible refine (rscheck_any b _ _ _ l _ g1).mono ?_
     rintro e w3 ⟨rfl, hb⟩
     have g1 := g1.past hb
     have g2 := g2.past hb
     obtain ⟨qb10, qb11, lb1⟩ := bq2 hb lb1 qb10 qb11
     have xr := xr.past hb lr
     obtain ⟨qr0, qr1, qr2, lr⟩ := bq3 hb lr qr0 qr1 qr2
     have hB := below_later hB hb
     clear hb
     rw [H1.out]
     go_wp2_with fail
     with_reducible refine (rtrim_any _ _ _ l2 _ g2 (by omega)).mono ?_
     rintro e w4 ⟨ahT, nhT, chT, rfl, hT, hb⟩
     have hT := hT.mono hB.size
     have g1 := g1.past hb
     have g2 := g2.past hb
     obtain ⟨qb10, qb11, lb1⟩ := bq2 hb lb1 qb10 qb11
     have xr := xr.past hb lr
     obtain ⟨qr0, qr1, qr2, lr⟩ := bq3 hb lr qr0 qr1 qr2
     have hB := below_later hB hb
     clear hb
     obtain rfl : nhT = 0 := by rw [← hT.len]; exact H2.out
     have zf0 := xr.f 0 (by decide)
     have zf1 := xr.f 1 (by decide)
     have zf2 := xr.f 2 (by decide)
     go_wp2
     obtain ⟨w5, hW, hO, qN0, qN1, qN2, xN⟩ := store3 xr (.bool false) (.slice none 0 0) (.slice none 0 0) (nu rfl) (nu rfl) (nu rfl)
     try rw [hW]
     clear hW
     have g1 := hO.nat g1
     have g2 := hO.nat g2
     have qb10 := (hO.cell (b2 := w.heap.size) (k := 0) (by omega)).trans qb10
     have qb11 := (hO.cell (b2 := w.heap.size) (k := 1) (by omega)).trans qb11
     have lb1 : w.heap.size < w5.heap.size := by rw [hO.size]; exact lb1
     have lr : w.heap.size + 1 < w5.heap.size := by rw [hO.size]; exact lr
     have qr0 := qN0
     have qr1 := qN1
     have qr2 := qN2
     have xr := xN
     have hB := hO.below (by omega) hB
     clear hO qN0 qN1 qN2 xN zf0 zf1 zf2
     refine bodyPost_ret (v := .tuple #[.agg #[.bool false, .slice none 0 0, .slice none 0 0], .int .i64 5]) ?_ rfl ⟨_, _, _, _, _, _, rfl, OwnAt.nil _ _, OwnAt.nil _ _, hB⟩
     simp [results, Tryz.f96, go_sem, qr0, qr1, qr2]
   · have e : makeR b l l2 = .ok (mkRat (sg b (val l)) (val l2)) := by unfold makeR; rw [if_neg (by simp [h1]), if_neg h2]
     rw [e]
     have H1 := Lib.hid h1
     have H2 := Lib.hid h2
     clear h1 h2 e
     go_enter Tryz.func96, Tryz.ntmps96
     have hB := Below.refl w.heap.size w
     go_wp2_with fail
     obtain ⟨w1, hW, hz0, hb, q, f⟩ := box1g w (w.heap.size) (by omega) #[.bool b, .slice a n c] 25
     rw [hW]
     clear hW
     have g1 := g1.past hb
     have g2 := g2.past hb
     have hB := below_later hB hb
     clear hb
     have lb1 : w.heap.size < w1.heap.size := by omega
     have qb10 := q 0; have qb11 := q 1
     simp only [lgA, lgZ, lgS] at qb10 qb11
     clear q f
     obtain ⟨w2, hW, hz1, hb, q, f⟩ := box1g w1 (w.heap.size + 1) (by omega) #[.bool false, .slice none 0 0, .slice none 0 0] 27
     rw [hW]
     clear hW
     have g1 := g1.past hb
     have g2 := g2.past hb
     obtain ⟨qb10, qb11, lb1⟩ := bq2 hb lb1 qb10 qb11
     have hB := below_later hB hb
     clear hb
     have lr : w.heap.size + 1 < w2.heap.size := by omega
     have qr0 := q 0; have qr1 := q 1; have qr2 := q 2
     simp only [lgA, lgZ, lgS] at qr0 qr1 qr2
     have xr : BoxAt w2 (w.heap.size + 1) 3 := BoxAt.of q f rfl (by simp [notU_bool, notU_slice, notU_i64])
     clear q f
     clear hz0
     clear hz1
     with_reducible refine (rscheck_any b _ _ _ l _ g1).mono ?_
     rintro e w3 ⟨rfl, hb⟩
     have g1 := g1.past hb
     have g2 := g2.past hb
     obtain ⟨qb10, qb11, lb1⟩ := bq2 hb lb1 qb10 qb11
     have xr := xr.past hb lr
     obtain ⟨qr0, qr1, qr2, lr⟩ := bq3 hb lr qr0 qr1 qr2
     have hB := below_later hB hb
     clear hb
     rw [H1.out]
     go_wp2_with fail
     with_reducible refine (rtrim_any _ _ _ l2 _ g2 (by omega)).mono ?_
     rintro e w4 ⟨ahT, nhT, chT, rfl, hT, hb⟩
     have hT := hT.mono hB.size
     have g1 := g1.past hb
     have g2 := g2.past hb
     obtain ⟨qb10, qb11, lb1⟩ := bq2 hb lb1 qb10 qb11
     have xr := xr.past hb lr
     obtain ⟨qr0, qr1, qr2, lr⟩ := bq3 hb lr qr0 qr1 qr2
     have hB := below_later hB hb
     clear hb
     have t3 : (((nhT : Nat) : Int) == 0) = false := by rw [beq_eq_false_iff_ne]; intro h0; exact H2.out (digs_len0.1 (by have := hT.len; omega))
     go_wp2_with fail
     with_reducible refine (rlowest_any b _ _ _ l _ _ _ l2 _ g1 g2 (by omega) (by omega) H2.out).mono ?_
     rintro e w5 ⟨ahU, nhU, chU, ahD, nhD, chD, rfl, hU, hD, hb⟩
     have hU := hU.mono hB.size
     have hD := hD.mono hB.size
     have g1 := g1.past hb
     have g2 := g2.past hb
     obtain ⟨qb10, qb11, lb1⟩ := bq2 hb lb1 qb10 qb11
     have xr := xr.past hb lr
     obtain ⟨qr0, qr1, qr2, lr⟩ := bq3 hb lr qr0 qr1 qr2
     have hB := below_later hB hb
     clear hb
     have zf0 := xr.f 0 (by decide)
     have zf1 := xr.f 1 (by decide)
     have zf2 := xr.f 2 (by decide)
     go_wp2
     obtain ⟨w6, hW, hO, qN0, qN1, qN2, xN⟩ := store3 xr (.bool (neg (mkRat (sg b (val l)) (val l2)).num)) (.slice ahU nhU chU) (.slice ahD nhD chD) (nu rfl) (nu rfl) (nu rfl)
     try rw [hW]
     clear hW
     have g1 := hO.nat g1
     have g2 := hO.nat g2
     have hU := hO.own hU
     have hD := hO.own hD
     have qb10 := (hO.cell (b2 := w.heap.size) (k := 0) (by omega)).trans qb10
     have qb11 := (hO.cell (b2 := w.heap.size) (k := 1) (by omega)).trans qb11
     have lb1 : w.heap.size < w6.heap.size := by rw [hO.size]; exact lb1
     have lr : w.heap.size + 1 < w6.heap.size := by rw [hO.size]; exact lr
     have qr0 := qN0
     have qr1 := qN1
     have qr2 := qN2
     have xr := xN
     have hB := hO.below (by omega) hB
     clear hO qN0 qN1 qN2 xN zf0 zf1 zf2
     refine bodyPost_ret (v := .tuple #[.agg #[.bool (neg (mkRat (sg b (val l)) (val l2)).num), .slice ahU nhU chU, .slice ahD nhD chD], .int .i64 0]) ?_ rfl ⟨_, _, _, _, _, _, rfl, hU, hD, hB⟩
     simp [results, Tryz.f96, go_sem, qr0, qr1, qr2]
 · have e : makeR b l l2 = .error 6 := by unfold makeR; rw [if_pos h1]
   rw [e]
   have H1 := Lib.hid (chkZ_six h1)
   clear h1 e
   go_enter Tryz.func96, Tryz.ntmps96
   have hB := Below.refl w.heap.size w
   go_wp2_with fail
   obtain ⟨w1, hW, hz0, hb, q, f⟩ := box1g w (w.heap.size) (by omega) #[.bool b, .slice a n c] 25
   rw [hW]
   clear hW
   have g1 := g1.past hb
   have g2 := g2.past hb
   have hB := below_later hB hb
   clear hb
   have lb1 : w.heap.size < w1.heap.size := by omega
   have qb10 := q 0; have qb11 := q 1
   simp only [lgA, lgZ, lgS] at qb10 qb11
   clear q f
   obtain ⟨w2, hW, hz1, hb, q, f⟩ := box1g w1 (w.heap.size + 1) (by omega) #[.bool false, .slice none 0 0, .slice none 0 0] 27
   rw [hW]
   clear hW
   have g1 := g1.past hb
   have g2 := g2.past hb
   obtain ⟨qb10, qb11, lb1⟩ := bq2 hb lb1 qb10 qb11
   have hB := below_later hB hb
   clear hb
   have lr : w.heap.size + 1 < w2.heap.size := by omega
   have qr0 := q 0; have qr1 := q 1; have qr2 := q 2
   simp only [lgA, lgZ, lgS] at qr0 qr1 qr2
   have xr : BoxAt w2 (w.heap.size + 1) 3 := BoxAt.of q f rfl (by simp [notU_bool, notU_slice, notU_i64])
   clear q f
   clear hz0
   clear hz1
   with_reducible refine (rscheck_any b _ _ _ l _ g1).mono ?_
   rintro e w3 ⟨rfl, hb⟩
   have g1 := g1.past hb
   have g2 := g2.past hb
   obtain ⟨qb10, qb11, lb1⟩ := bq2 hb lb1 qb10 qb11
   have xr := xr.past hb lr
   obtain ⟨qr0, qr1, qr2, lr⟩ := bq3 hb lr qr0 qr1 qr2
   have hB := below_later hB hb
   clear hb
   rw [H1.out]
   have zf0 := xr.f 0 (by decide)
   have zf1 := xr.f 1 (by decide)
   have zf2 := xr.f 2 (by decide)
   go_wp2
   obtain ⟨w4, hW, hO, qN0, qN1, qN2, xN⟩ := store3 xr (.bool false) (.slice none 0 0) (.slice none 0 0) (nu rfl) (nu rfl) (nu rfl)
   try rw [hW]
   clear hW
   have g1 := hO.nat g1
   have g2 := hO.nat g2
   have qb10 := (hO.cell (b2 := w.heap.size) (k := 0) (by omega)).trans qb10
   have qb11 := (hO.cell (b2 := w.heap.size) (k := 1) (by omega)).trans qb11
   have lb1 : w.heap.size < w4.heap.size := by rw [hO.size]; exact lb1
   have lr : w.heap.size + 1 < w4.heap.size := by rw [hO.size]; exact lr
   have qr0 := qN0
   have qr1 := qN1
   have qr2 := qN2
   have xr := xN
   have hB := hO.below (by omega) hB
   clear hO qN0 qN1 qN2 xN zf0 zf1 zf2
   refine bodyPost_ret (v := .tuple #[.agg #[.bool false, .slice none 0 0, .slice none 0 0], .int .i64 6]) ?_ rfl ⟨_, _, _, _, _, _, rfl, OwnAt.nil _ _, OwnAt.nil _ _, hB⟩
   simp [results, Tryz.f96, go_sem, qr0, qr1, qr2]
set_option maxRecDepth 100000 in
set_option maxHeartbeats 4000000 in
theorem rpair05_any (x y : Int) (w : World) (hx : -9223372036854775808 ≤ x ∧ x ≤ 9223372036854775807) (hy : -9223372036854775808 ≤ y ∧ y ≤ 9223372036854775807) :
 Calls Tryz.prog 61 #[.int .i64 x, .int .i64 y] w (RetAns w (pairR x y)) := by
 have lx : (digs x.natAbs).length ≤ 2 := digs_length_le.2 (by omega)
 have ly : (digs y.natAbs).length ≤ 2 := digs_length_le.2 (by omega)
 have hc : chkZ (neg (sg (neg x != neg y) x.natAbs)) (digs (sg (neg x != neg y) x.natAbs).natAbs) = 0 := chkZ_canon _
 by_cases h0 : y = 0
 · have e : pairR x y = .error 5 := by unfold pairR makeR; rw [if_neg (by rw [hc]; simp), if_pos (by rw [h0]; rfl)]
   rw [e]
   have t0 : (y == 0) = true := by rw [h0]; rfl
   clear lx ly hc h0 e
   go_enter Tryz.func61, Tryz.ntmps61
   have hB := Below.refl w.heap.size w
   have zf0 : (0:Nat) = 0 := rfl
   go_wp2
   refine bodyPost_ret (v := .tuple #[.agg #[.bool false, .slice none 0 0, .slice none 0 0], .int .i64 5]) ?_ rfl ⟨_, _, _, _, _, _, rfl, OwnAt.nil _ _, OwnAt.nil _ _, ?_⟩
   · simp [results, Tryz.f61, go_sem]
   · exact ((Below.refl _ _).alloc (Nat.le_refl _) _)
 · have t0 : (y == 0) = false := by rw [beq_eq_false_iff_ne]; exact h0
   have hz : val (digs y.natAbs) ≠ 0 := by rw [val_digs]; omega
   have e : pairR x y = .ok (mkRat (sg (neg (sg (neg x != neg y) x.natAbs)) (val (digs (sg (neg x != neg y) x.natAbs).natAbs))) (val (digs y.natAbs))) := by unfold pairR makeR; rw [if_neg (by rw [hc]; simp), if_neg hz]
   rw [e]
   have hv : sg (!(neg x == neg y)) (val (digs x.natAbs)) = sg (neg x != neg y) x.natAbs := by rw [val_digs]; rfl
   have hlz : (digs (sg (neg x != neg y) x.natAbs).natAbs).length ≤ 2 := by rw [natAbs_sg]; exact lx
   obtain ⟨R, hR⟩ : ∃ R, mkRat (sg (neg (sg (neg x != neg y) x.natAbs)) (val (digs (sg (neg x != neg y) x.natAbs).natAbs))) (val (digs y.natAbs)) = R := ⟨_, rfl⟩
   rw [hR]
   have LX := Lib.hid lx
   have LY := Lib.hid ly
   have HV := Lib.hid hv
   have HLZ := Lib.hid hlz
   have HR := Lib.hid hR
   have HZ := Lib.hid hz
   clear lx ly hv hlz hR hc h0 e hz
   go_enter Tryz.func61, Tryz.ntmps61
   have hB := Below.refl w.heap.size w
   go_wp2_with fail
   obtain ⟨w1, hW, hz0, hb, q, f⟩ := box1g w (w.heap.size) (by omega) #[.bool false, .slice none 0 0, .slice none 0 0] 27
   rw [hW]
   clear hW
   have hB := below_later hB hb
   clear hb
   have lr : w.heap.size < w1.heap.size := by omega
   have qr0 := q 0; have qr1 := q 1; have qr2 := q 2
   simp only [lgA, lgZ, lgS] at qr0 qr1 qr2
   have xr : BoxAt w1 (w.heap.size) 3 := BoxAt.of q f rfl (by simp [notU_bool, notU_slice, notU_i64])
   clear q f
   clear hz0
   with_reducible refine (rsof_any y _ (by omega) (by omega)).mono ?_
   rintro e w2 ⟨ahD, nhD, chD, rfl, hD, hb⟩
   have hD := hD.mono hB.size
   have xr := xr.past hb lr
   obtain ⟨qr0, qr1, qr2, lr⟩ := bq3 hb lr qr0 qr1 qr2
   have hB := below_later hB hb
   clear hb
   have lD : nhD ≤ 2 := by rw [← hD.len]; exact LY.out
   go_wp2_with fail
   obtain ⟨w3, hW, hz0, hb, q, f⟩ := box1g w2 (w2.heap.size) (by omega) #[.bool (neg y), .slice ahD nhD chD] 25
   rw [hW]
   clear hW
   have hD := hD.past hb
   have xr := xr.past hb lr
   obtain ⟨qr0, qr1, qr2, lr⟩ := bq3 hb lr qr0 qr1 qr2
   have hB := below_later hB hb
   clear hb
   have ld : w2.heap.size < w3.heap.size := by omega
   have qd0 := q 0; have qd1 := q 1
   simp only [lgA, lgZ, lgS] at qd0 qd1
   clear q f
   clear hz0
   with_reducible refine (rsof_any x _ (by omega) (by omega)).mono ?_
   rintro e w4 ⟨ahU, nhU, chU, rfl, hU, hb⟩
   have hU := hU.mono hB.size
   have hD := hD.past hb
   have xr := xr.past hb lr
   obtain ⟨qr0, qr1, qr2, lr⟩ := bq3 hb lr qr0 qr1 qr2
   obtain ⟨qd0, qd1, ld⟩ := bq2 hb ld qd0 qd1
   have hB := below_later hB hb
   clear hb
   have lU : nhU ≤ 2 := by rw [← hU.len]; exact LX.out
   go_wp2_with fail
   obtain ⟨w5, hW, hz0, hb, q, f⟩ := box1g w4 (w4.heap.size) (by omega) #[.bool (neg x), .slice ahU nhU chU] 25
   rw [hW]
   clear hW
   have hD := hD.past hb
   have hU := hU.past hb
   have xr := xr.past hb lr
   obtain ⟨qr0, qr1, qr2, lr⟩ := bq3 hb lr qr0 qr1 qr2
   obtain ⟨qd0, qd1, ld⟩ := bq2 hb ld qd0 qd1
   have hB := below_later hB hb
   clear hb
   have lu : w4.heap.size < w5.heap.size := by omega
   have qu0 := q 0; have qu1 := q 1
   simp only [lgA, lgZ, lgS] at qu0 qu1
   clear q f
   clear hz0
   have szW := hB.size
   refine wp_region_inv (by kernel_rfl) rfl (by kernel_rfl) (fun A0 V0 dd aa ww => ∃ (y15 y16 y17 y18 y19 y20 y21 y22 y23 y24 y25 y5 : Value), aa = puts A0 [(15, y15), (16, y16), (17, y17), (18, y18), (19, y19), (20, y20), (21, y21), (22, y22), (23, y23), (24, y24), (25, y25), (5, y5)] ∧ Below (w).heap.size (w) ww ∧ V0.heap.size ≤ ww.heap.size ∧ OwnAt ww w.heap.size ahU nhU chU (digs x.natAbs) ∧ OwnAt ww w.heap.size ahD nhD chD (digs y.natAbs) ∧ Cells ww (w2.heap.size) [.bool (neg y), .slice ahD nhD chD] ∧ Cells ww (w4.heap.size) [.bool (neg x), .slice ahU nhU chU] ∧ BoxAt ww (w.heap.size) 3 ∧ Shut (dd 11 = false → Cells ww (w.heap.size) [.bool false, .slice none 0 0, .slice none 0 0]) ∧ Shut (dd 0 = true → y15 = .pointer (some ⟨w4.heap.size, 0, none⟩)) ∧ Shut (dd 1 = true → y16 = .bool (neg x)) ∧ Shut (dd 2 = true → y17 = .pointer (some ⟨w2.heap.size, 0, none⟩)) ∧ Shut (dd 3 = true → y18 = .bool (neg y)) ∧ Shut (dd 4 = true → y19 = .bool (!(neg x == neg y))) ∧ Shut (dd 5 = true → y20 = .pointer (some ⟨w4.heap.size, 1, none⟩)) ∧ Shut (dd 6 = true → y21 = .slice ahU nhU chU) ∧ Shut (dd 7 = true → CopyV V0.heap.size (neg (sg (neg x != neg y) x.natAbs)) (digs (sg (neg x != neg y) x.natAbs).natAbs) y22 ww) ∧ Shut (dd 8 = true → y23 = .pointer (some ⟨w2.heap.size, 1, none⟩)) ∧ Shut (dd 9 = true → y24 = .slice ahD nhD chD) ∧ Shut (dd 10 = true → RatV V0.heap.size (R) y25 ww) ∧ Shut (dd 11 = true → CellsV (w.heap.size) y25 ww) ∧ Shut (dd 12 = true → y5 = .int .i64 0) ∧ True) ?_ ?_ ?_
   · exact ⟨_, _, _, _, _, _, _, _, _, _, _, _, puts_self _ [15, 16, 17, 18, 19, 20, 21, 22, 23, 24, 25, 5], hB.drew, Nat.le_refl _, hU.drew, hD.drew, (by intro k hk; simp at hk; rcases (by omega : k = 0 ∨ k = 1) with rfl | rfl <;> assumption), (by intro k hk; simp at hk; rcases (by omega : k = 0 ∨ k = 1) with rfl | rfl <;> assumption), xr.drew, (fun _ => by intro k hk; simp at hk; rcases (by omega : k = 0 ∨ k = 1 ∨ k = 2) with rfl | rfl | rfl <;> assumption), fun h => (by cases h), fun h => (by cases h), fun h => (by cases h), fun h => (by cases h), fun h => (by cases h), fun h => (by cases h), fun h => (by cases h), fun h => (by cases h), fun h => (by cases h), fun h => (by cases h), fun h => (by cases h), fun h => (by cases h), fun h => (by cases h), trivial⟩
   · refine Steps.cons ?_ (Steps.cons ?_ (Steps.cons ?_ (Steps.cons ?_ (Steps.cons ?_ (Steps.cons ?_ (Steps.cons ?_ (Steps.cons ?_ (Steps.cons ?_ (Steps.cons ?_ (Steps.cons ?_ (Steps.cons ?_ (Steps.cons ?_ (Steps.nil)))))))))))))
     · intro dd aa ww K hc hun hn hI hK
       obtain ⟨y15, y16, y17, y18, y19, y20, y21, y22, y23, y24, y25, y5, ea, hb, hsz, vhU, vhD, cd, cu, xr, pr, f0, f1, f2, f3, f4, f5, f6, f7, f8, f9, f10, f11, f12, _⟩ := hI
       try simp [Region.binds] at hn
       subst ea
       simp only [puts, Act.put, lsA, lsZ, lsS]
       go_simp
       refine hK.out _ _ ?_
       exact ⟨.pointer (some ⟨w4.heap.size, 0, none⟩), y16, y17, y18, y19, y20, y21, y22, y23, y24, y25, y5, by simp only [puts, Act.put, lsA, lsZ, lsS], hb, hsz, vhU, vhD, cd, cu, xr, fun h => (pr.out (upd_off h)), fun _ => rfl, uo f1 rfl, uo f2 rfl, uo f3 rfl, uo f4 rfl, uo f5 rfl, uo f6 rfl, uo f7 rfl, uo f8 rfl, uo f9 rfl, uo f10 rfl, uo f11 rfl, uo f12 rfl, trivial⟩
     · intro dd aa ww K hc hun hn hI hK
       obtain ⟨y15, y16, y17, y18, y19, y20, y21, y22, y23, y24, y25, y5, ea, hb, hsz, vhU, vhD, cd, cu, xr, pr, f0, f1, f2, f3, f4, f5, f6, f7, f8, f9, f10, f11, f12, _⟩ := hI
       try simp [Region.binds] at hn
       have ex := f0.out (by first | (simp [hn]; done) | exact rc hc hn | exact rc hc hn.1 | exact rc hc hn.2 | exact rc hc hn.2.1 | exact rc hc hn.2.2)
       subst ex
       have e0 := cu 0 (by simp)
       simp only [lgZ, lgS] at e0
       subst ea
       simp only [puts, Act.put, lsA, lsZ, lsS]
       go_simp
       refine hK.out _ _ ?_
       exact ⟨.pointer (some ⟨w4.heap.size, 0, none⟩), .bool (neg x), y17, y18, y19, y20, y21, y22, y23, y24, y25, y5, by simp only [puts, Act.put, lsA, lsZ, lsS], hb, hsz, vhU, vhD, cd, cu, xr, fun h => (pr.out (upd_off h)), fun h => rfl, fun _ => rfl, uo f2 rfl, uo f3 rfl, uo f4 rfl, uo f5 rfl, uo f6 rfl, uo f7 rfl, uo f8 rfl, uo f9 rfl, uo f10 rfl, uo f11 rfl, uo f12 rfl, trivial⟩
     · intro dd aa ww K hc hun hn hI hK
       obtain ⟨y15, y16, y17, y18, y19, y20, y21, y22, y23, y24, y25, y5, ea, hb, hsz, vhU, vhD, cd, cu, xr, pr, f0, f1, f2, f3, f4, f5, f6, f7, f8, f9, f10, f11, f12, _⟩ := hI
       try simp [Region.binds] at hn
       subst ea
       simp only [puts, Act.put, lsA, lsZ, lsS]
       go_simp
       refine hK.out _ _ ?_
       exact ⟨y15, y16, .pointer (some ⟨w2.heap.size, 0, none⟩), y18, y19, y20, y21, y22, y23, y24, y25, y5, by simp only [puts, Act.put, lsA, lsZ, lsS], hb, hsz, vhU, vhD, cd, cu, xr, fun h => (pr.out (upd_off h)), uo f0 rfl, uo f1 rfl, fun _ => rfl, uo f3 rfl, uo f4 rfl, uo f5 rfl, uo f6 rfl, uo f7 rfl, uo f8 rfl, uo f9 rfl, uo f10 rfl, uo f11 rfl, uo f12 rfl, trivial⟩
     · intro dd aa ww K hc hun hn hI hK
       obtain ⟨y15, y16, y17, y18, y19, y20, y21, y22, y23, y24, y25, y5, ea, hb, hsz, vhU, vhD, cd, cu, xr, pr, f0, f1, f2, f3, f4, f5, f6, f7, f8, f9, f10, f11, f12, _⟩ := hI
       try simp [Region.binds] at hn
       have ex := f2.out (by first | (simp [hn]; done) | exact rc hc hn | exact rc hc hn.1 | exact rc hc hn.2 | exact rc hc hn.2.1 | exact rc hc hn.2.2)
       subst ex
       have e0 := cd 0 (by simp)
       simp only [lgZ, lgS] at e0
       subst ea
       simp only [puts, Act.put, lsA, lsZ, lsS]
       go_simp
       refine hK.out _ _ ?_
       exact ⟨y15, y16, .pointer (some ⟨w2.heap.size, 0, none⟩), .bool (neg y), y19, y20, y21, y22, y23, y24, y25, y5, by simp only [puts, Act.put, lsA, lsZ, lsS], hb, hsz, vhU, vhD, cd, cu, xr, fun h => (pr.out (upd_off h)), uo f0 rfl, uo f1 rfl, fun h => rfl, fun _ => rfl, uo f4 rfl, uo f5 rfl, uo f6 rfl, uo f7 rfl, uo f8 rfl, uo f9 rfl, uo f10 rfl, uo f11 rfl, uo f12 rfl, trivial⟩
     · intro dd aa ww K hc hun hn hI hK
       obtain ⟨y15, y16, y17, y18, y19, y20, y21, y22, y23, y24, y25, y5, ea, hb, hsz, vhU, vhD, cd, cu, xr, pr, f0, f1, f2, f3, f4, f5, f6, f7, f8, f9, f10, f11, f12, _⟩ := hI
       try simp [Region.binds] at hn
       have ex := f1.out (by first | (simp [hn]; done) | exact rc hc hn | exact rc hc hn.1 | exact rc hc hn.2 | exact rc hc hn.2.1 | exact rc hc hn.2.2)
       subst ex
       have ex := f3.out (by first | (simp [hn]; done) | exact rc hc hn | exact rc hc hn.1 | exact rc hc hn.2 | exact rc hc hn.2.1 | exact rc hc hn.2.2)
       subst ex
       subst ea
       simp only [puts, Act.put, lsA, lsZ, lsS]
       go_simp
       refine hK.out _ _ ?_
       exact ⟨y15, .bool (neg x), y17, .bool (neg y), .bool (!(neg x == neg y)), y20, y21, y22, y23, y24, y25, y5, by simp only [puts, Act.put, lsA, lsZ, lsS], hb, hsz, vhU, vhD, cd, cu, xr, fun h => (pr.out (upd_off h)), uo f0 rfl, fun h => rfl, uo f2 rfl, fun h => rfl, fun _ => rfl, uo f5 rfl, uo f6 rfl, uo f7 rfl, uo f8 rfl, uo f9 rfl, uo f10 rfl, uo f11 rfl, uo f12 rfl, trivial⟩
     · intro dd aa ww K hc hun hn hI hK
       obtain ⟨y15, y16, y17, y18, y19, y20, y21, y22, y23, y24, y25, y5, ea, hb, hsz, vhU, vhD, cd, cu, xr, pr, f0, f1, f2, f3, f4, f5, f6, f7, f8, f9, f10, f11, f12, _⟩ := hI
       try simp [Region.binds] at hn
       subst ea
       simp only [puts, Act.put, lsA, lsZ, lsS]
       go_simp
       refine hK.out _ _ ?_
       exact ⟨y15, y16, y17, y18, y19, .pointer (some ⟨w4.heap.size, 1, none⟩), y21, y22, y23, y24, y25, y5, by simp only [puts, Act.put, lsA, lsZ, lsS], hb, hsz, vhU, vhD, cd, cu, xr, fun h => (pr.out (upd_off h)), uo f0 rfl, uo f1 rfl, uo f2 rfl, uo f3 rfl, uo f4 rfl, fun _ => rfl, uo f6 rfl, uo f7 rfl, uo f8 rfl, uo f9 rfl, uo f10 rfl, uo f11 rfl, uo f12 rfl, trivial⟩
     · intro dd aa ww K hc hun hn hI hK
       obtain ⟨y15, y16, y17, y18, y19, y20, y21, y22, y23, y24, y25, y5, ea, hb, hsz, vhU, vhD, cd, cu, xr, pr, f0, f1, f2, f3, f4, f5, f6, f7, f8, f9, f10, f11, f12, _⟩ := hI
       try simp [Region.binds] at hn
       have ex := f5.out (by first | (simp [hn]; done) | exact rc hc hn | exact rc hc hn.1 | exact rc hc hn.2 | exact rc hc hn.2.1 | exact rc hc hn.2.2)
       subst ex
       have e1 := cu 1 (by simp)
       simp only [lgZ, lgS] at e1
       subst ea
       simp only [puts, Act.put, lsA, lsZ, lsS]
       go_simp
       refine hK.out _ _ ?_
       exact ⟨y15, y16, y17, y18, y19, .pointer (some ⟨w4.heap.size, 1, none⟩), .slice ahU nhU chU, y22, y23, y24, y25, y5, by simp only [puts, Act.put, lsA, lsZ, lsS], hb, hsz, vhU, vhD, cd, cu, xr, fun h => (pr.out (upd_off h)), uo f0 rfl, uo f1 rfl, uo f2 rfl, uo f3 rfl, uo f4 rfl, fun h => rfl, fun _ => rfl, uo f7 rfl, uo f8 rfl, uo f9 rfl, uo f10 rfl, uo f11 rfl, uo f12 rfl, trivial⟩
     · intro dd aa ww K hc hun hn hI hK
       obtain ⟨y15, y16, y17, y18, y19, y20, y21, y22, y23, y24, y25, y5, ea, hb, hsz, vhU, vhD, cd, cu, xr, pr, f0, f1, f2, f3, f4, f5, f6, f7, f8, f9, f10, f11, f12, _⟩ := hI
       try simp [Region.binds] at hn
       have ex := f4.out (by first | (simp [hn]; done) | exact rc hc hn | exact rc hc hn.1 | exact rc hc hn.2 | exact rc hc hn.2.1 | exact rc hc hn.2.2)
       subst ex
       have ex := f6.out (by first | (simp [hn]; done) | exact rc hc hn | exact rc hc hn.1 | exact rc hc hn.2 | exact rc hc hn.2.1 | exact rc hc hn.2.2)
       subst ex
       subst ea
       simp only [puts, Act.put, lsA, lsZ, lsS]
       go_simp
       with_reducible refine (rsmake_any (!(neg x == neg y)) _ _ _ (digs x.natAbs) _ vhU.toNatAt (by omega)).mono ?_
       rintro e w1 ⟨ahM, nhM, chM, rfl, hM, h1⟩
       rw [HV.out] at hM ⊢
       refine hK.out _ _ ?_
       exact ⟨y15, y16, y17, y18, .bool (!(neg x == neg y)), y20, .slice ahU nhU chU, .agg #[.bool (neg (sg (neg x != neg y) x.natAbs)), .slice ahM nhM chM], y23, y24, y25, y5, by simp only [puts, Act.put, lsA, lsZ, lsS], below_later hb h1, Nat.le_trans hsz h1.size, vhU.past h1, vhD.past h1, cd.past h1 (Nat.lt_of_lt_of_le ld hsz), cu.past h1 (Nat.lt_of_lt_of_le lu hsz), xr.past h1 (Nat.lt_of_lt_of_le lr hsz), fun h => (pr.out (upd_off h)).past h1 (Nat.lt_of_lt_of_le lr hsz), uo f0 rfl, uo f1 rfl, uo f2 rfl, uo f3 rfl, fun h => rfl, uo f5 rfl, fun h => rfl, fun _ => ⟨_, _, _, rfl, hM.mono hsz⟩, uo f8 rfl, uo f9 rfl, fun h => (f10.out (upd_of rfl h)).past h1, fun h => (f11.out (upd_of rfl h)).past h1 (Nat.lt_of_lt_of_le lr hsz), uo f12 rfl, trivial⟩
     · intro dd aa ww K hc hun hn hI hK
       obtain ⟨y15, y16, y17, y18, y19, y20, y21, y22, y23, y24, y25, y5, ea, hb, hsz, vhU, vhD, cd, cu, xr, pr, f0, f1, f2, f3, f4, f5, f6, f7, f8, f9, f10, f11, f12, _⟩ := hI
       try simp [Region.binds] at hn
       subst ea
       simp only [puts, Act.put, lsA, lsZ, lsS]
       go_simp
       refine hK.out _ _ ?_
       exact ⟨y15, y16, y17, y18, y19, y20, y21, y22, .pointer (some ⟨w2.heap.size, 1, none⟩), y24, y25, y5, by simp only [puts, Act.put, lsA, lsZ, lsS], hb, hsz, vhU, vhD, cd, cu, xr, fun h => (pr.out (upd_off h)), uo f0 rfl, uo f1 rfl, uo f2 rfl, uo f3 rfl, uo f4 rfl, uo f5 rfl, uo f6 rfl, uo f7 rfl, fun _ => rfl, uo f9 rfl, uo f10 rfl, uo f11 rfl, uo f12 rfl, trivial⟩
     · intro dd aa ww K hc hun hn hI hK
       obtain ⟨y15, y16, y17, y18, y19, y20, y21, y22, y23, y24, y25, y5, ea, hb, hsz, vhU, vhD, cd, cu, xr, pr, f0, f1, f2, f3, f4, f5, f6, f7, f8, f9, f10, f11, f12, _⟩ := hI
       try simp [Region.binds] at hn
       have ex := f8.out (by first | (simp [hn]; done) | exact rc hc hn | exact rc hc hn.1 | exact rc hc hn.2 | exact rc hc hn.2.1 | exact rc hc hn.2.2)
       subst ex
       have e1 := cd 1 (by simp)
       simp only [lgZ, lgS] at e1
       subst ea
       simp only [puts, Act.put, lsA, lsZ, lsS]
       go_simp
       refine hK.out _ _ ?_
       exact ⟨y15, y16, y17, y18, y19, y20, y21, y22, .pointer (some ⟨w2.heap.size, 1, none⟩), .slice ahD nhD chD, y25, y5, by simp only [puts, Act.put, lsA, lsZ, lsS], hb, hsz, vhU, vhD, cd, cu, xr, fun h => (pr.out (upd_off h)), uo f0 rfl, uo f1 rfl, uo f2 rfl, uo f3 rfl, uo f4 rfl, uo f5 rfl, uo f6 rfl, uo f7 rfl, fun h => rfl, fun _ => rfl, uo f10 rfl, uo f11 rfl, uo f12 rfl, trivial⟩
     · intro dd aa ww K hc hun hn hI hK
       obtain ⟨y15, y16, y17, y18, y19, y20, y21, y22, y23, y24, y25, y5, ea, hb, hsz, vhU, vhD, cd, cu, xr, pr, f0, f1, f2, f3, f4, f5, f6, f7, f8, f9, f10, f11, f12, _⟩ := hI
       try simp [Region.binds] at hn
       obtain ⟨ahM, nhM, chM, ex, hM⟩ := f7.out (by first | (simp [hn]; done) | exact rc hc hn | exact rc hc hn.1 | exact rc hc hn.2 | exact rc hc hn.2.1 | exact rc hc hn.2.2)
       subst ex
       have ex := f9.out (by first | (simp [hn]; done) | exact rc hc hn | exact rc hc hn.1 | exact rc hc hn.2 | exact rc hc hn.2.1 | exact rc hc hn.2.2)
       subst ex
       subst ea
       simp only [puts, Act.put, lsA, lsZ, lsS]
       go_simp
       with_reducible refine (rlowest_any (neg (sg (neg x != neg y) x.natAbs)) _ _ _ (digs (sg (neg x != neg y) x.natAbs).natAbs) _ _ _ (digs y.natAbs) _ hM.toNatAt vhD.toNatAt (by have := hM.len; have := HLZ.out; omega) (by omega) HZ.out).mono ?_
       rintro e w1 ⟨ahAU, nhAU, chAU, ahAD, nhAD, chAD, rfl, hAU, hAD, h1⟩
       rw [HR.out] at hAU hAD ⊢
       refine hK.out _ _ ?_
       exact ⟨y15, y16, y17, y18, y19, y20, y21, .agg #[.bool (neg (sg (neg x != neg y) x.natAbs)), .slice ahM nhM chM], y23, .slice ahD nhD chD, .agg #[.bool (neg (R).num), .slice ahAU nhAU chAU, .slice ahAD nhAD chAD], y5, by simp only [puts, Act.put, lsA, lsZ, lsS], below_later hb h1, Nat.le_trans hsz h1.size, vhU.past h1, vhD.past h1, cd.past h1 (Nat.lt_of_lt_of_le ld hsz), cu.past h1 (Nat.lt_of_lt_of_le lu hsz), xr.past h1 (Nat.lt_of_lt_of_le lr hsz), fun h => (pr.out (upd_off h)).past h1 (Nat.lt_of_lt_of_le lr hsz), uo f0 rfl, uo f1 rfl, uo f2 rfl, uo f3 rfl, uo f4 rfl, uo f5 rfl, uo f6 rfl, fun h => (f7.out (upd_of rfl h)).past h1, uo f8 rfl, fun h => rfl, fun _ => ⟨_, _, _, _, _, _, rfl, hAU.mono hsz, hAD.mono hsz⟩, fun h => absurd (hc.reach (f := 8) (s := 11) (l := 10) (by kernel_rfl) (upd_of rfl h)) (by rw [hun]; decide), uo f12 rfl, trivial⟩
     · intro dd aa ww K hc hun hn hI hK
       obtain ⟨y15, y16, y17, y18, y19, y20, y21, y22, y23, y24, y25, y5, ea, hb, hsz, vhU, vhD, cd, cu, xr, pr, f0, f1, f2, f3, f4, f5, f6, f7, f8, f9, f10, f11, f12, _⟩ := hI
       try simp [Region.binds] at hn
       obtain ⟨ahAU, nhAU, chAU, ahAD, nhAD, chAD, ex, hAU, hAD⟩ := f10.out (by first | (simp [hn]; done) | exact rc hc hn | exact rc hc hn.1 | exact rc hc hn.2 | exact rc hc hn.2.1 | exact rc hc hn.2.2)
       subst ex
       have x3 := xr
       obtain ⟨v0, v1, v2, z0, z1, z2, z3, z4, z5, _, _, _⟩ := x3.three
       have hv : ∀ v ∈ ([.bool (neg (R).num), .slice ahAU nhAU chAU, .slice ahAD nhAD chAD] : List Value), notU v := by simp [notU_bool, notU_slice, notU_i64]
       subst ea
       simp only [puts, Act.put, lsA, lsZ, lsS]
       go_simp
       refine hK.out _ _ ?_
       exact ⟨y15, y16, y17, y18, y19, y20, y21, y22, y23, y24, .agg #[.bool (neg (R).num), .slice ahAU nhAU chAU, .slice ahAD nhAD chAD], y5, by simp only [puts, Act.put, lsA, lsZ, lsS], hb.trans (below_setCells _ _ (by omega) [.bool (neg (R).num), .slice ahAU nhAU chAU, .slice ahAD nhAD chAD] 0 _), (by simpa using hsz), OwnAt.sets [.bool (neg (R).num), .slice ahAU nhAU chAU, .slice ahAD nhAD chAD] 0 _ vhU x3 (by simp) hv, OwnAt.sets [.bool (neg (R).num), .slice ahAU nhAU chAU, .slice ahAD nhAD chAD] 0 _ vhD x3 (by simp) hv, Cells.sets (by omega) [.bool (neg (R).num), .slice ahAU nhAU chAU, .slice ahAD nhAD chAD] 0 _ cd, Cells.sets (by omega) [.bool (neg (R).num), .slice ahAU nhAU chAU, .slice ahAD nhAD chAD] 0 _ cu, BoxAt.sets [.bool (neg (R).num), .slice ahAU nhAU chAU, .slice ahAD nhAD chAD] _ 0 _ xr hv, fun h => absurd h (by simp [upd]), uo f0 rfl, uo f1 rfl, uo f2 rfl, uo f3 rfl, uo f4 rfl, uo f5 rfl, uo f6 rfl, fun h => ((f7.out (upd_of rfl h)).setsOff lr [.bool (neg (R).num), .slice ahAU nhAU chAU, .slice ahAD nhAD chAD]), uo f8 rfl, uo f9 rfl, fun h => ((f10.out (upd_of rfl h)).setsOff lr [.bool (neg (R).num), .slice ahAU nhAU chAU, .slice ahAD nhAD chAD]), fun _ => ⟨[.bool (neg (R).num), .slice ahAU nhAU chAU, .slice ahAD nhAD chAD], rfl, Cells.new x3 [.bool (neg (R).num), .slice ahAU nhAU chAU, .slice ahAD nhAD chAD] (by simp)⟩, uo f12 rfl, trivial⟩
     · intro dd aa ww K hc hun hn hI hK
       obtain ⟨y15, y16, y17, y18, y19, y20, y21, y22, y23, y24, y25, y5, ea, hb, hsz, vhU, vhD, cd, cu, xr, pr, f0, f1, f2, f3, f4, f5, f6, f7, f8, f9, f10, f11, f12, _⟩ := hI
       try simp [Region.binds] at hn
       subst ea
       simp only [puts, Act.put, lsA, lsZ, lsS]
       go_simp
       refine hK.out _ _ ?_
       exact ⟨y15, y16, y17, y18, y19, y20, y21, y22, y23, y24, y25, .int .i64 0, by simp only [puts, Act.put, lsA, lsZ, lsS], hb, hsz, vhU, vhD, cd, cu, xr, fun h => (pr.out (upd_off h)), uo f0 rfl, uo f1 rfl, uo f2 rfl, uo f3 rfl, uo f4 rfl, uo f5 rfl, uo f6 rfl, uo f7 rfl, uo f8 rfl, uo f9 rfl, uo f10 rfl, uo f11 rfl, fun _ => rfl, trivial⟩
   intro dd aa w6 hd hI
   obtain ⟨y15, y16, y17, y18, y19, y20, y21, y22, y23, y24, y25, y5, ea, hb, hsz, vhU, vhD, cd, cu, xr, pr, f0, f1, f2, f3, f4, f5, f6, f7, f8, f9, f10, f11, f12, _⟩ := hI
   have ex := f0.out (hd 0 (by simp))
   subst ex
   have ex := f1.out (hd 1 (by simp))
   subst ex
   have ex := f2.out (hd 2 (by simp))
   subst ex
   have ex := f3.out (hd 3 (by simp))
   subst ex
   have ex := f4.out (hd 4 (by simp))
   subst ex
   have ex := f5.out (hd 5 (by simp))
   subst ex
   have ex := f6.out (hd 6 (by simp))
   subst ex
   obtain ⟨ahM, nhM, chM, ex, hM⟩ := f7.out (hd 7 (by simp))
   subst ex
   have ex := f8.out (hd 8 (by simp))
   subst ex
   have ex := f9.out (hd 9 (by simp))
   subst ex
   obtain ⟨ahAU, nhAU, chAU, ahAD, nhAD, chAD, ex, hAU, hAD⟩ := f10.out (hd 10 (by simp))
   subst ex
   obtain ⟨vs11, e, h11⟩ := f11.out (hd 11 (by simp))
   cases e
   have ex := f12.out (hd 12 (by simp))
   subst ex
   have lr := Nat.lt_of_lt_of_le lr hsz
   have qr0 := h11 0 (by simp)
   simp only [lgZ, lgS] at qr0
   have qr1 := h11 1 (by simp)
   simp only [lgZ, lgS] at qr1
   have qr2 := h11 2 (by simp)
   simp only [lgZ, lgS] at qr2
   subst ea
   simp only [puts, Act.put, lsA, lsZ, lsS]
   have hM := hM.mono szW
   have hAU := hAU.mono szW
   have hAD := hAD.mono szW
   have hD := vhD
   have hU := vhU
   have ld := Nat.lt_of_lt_of_le ld hsz
   have qd0 := cd 0 (by simp)
   simp only [lgZ, lgS] at qd0
   have qd1 := cd 1 (by simp)
   simp only [lgZ, lgS] at qd1
   clear cd
   have lu := Nat.lt_of_lt_of_le lu hsz
   have qu0 := cu 0 (by simp)
   simp only [lgZ, lgS] at qu0
   have qu1 := cu 1 (by simp)
   simp only [lgZ, lgS] at qu1
   clear cu
   have hB := hb
   clear pr
   clear hb hd
   go_wp2
   refine bodyPost_ret (v := .tuple #[.agg #[.bool (neg R.num), .slice ahAU nhAU chAU, .slice ahAD nhAD chAD], .int .i64 0]) ?_ rfl ⟨_, _, _, _, _, _, rfl, hAU, hAD, hB⟩
   simp [results, Tryz.f61, go_sem, qr0, qr1, qr2]
end Go.Proofs.YtlkoenpdmlbhlaaGreat
