import Derived.Test.YtmhjhhcdjecdbaaGreatS0Rk
import Derived.Test.YtmhjhhcdjecdbaaGreatB1Rk
import Derived.Test.YtmhjhhcdjecdbaaGreatA8Rk
set_option linter.unusedVariables false
set_option linter.unusedSimpArgs false
namespace Go.Proofs.YtmhjhhcdjecdbaaGreat
open Go.RowKit
set_option maxRecDepth 100000 in
set_option maxHeartbeats 4000000 in
theorem rlowest_any (b : Bool) (a : Option Addr) (n c : Nat) (l : List Nat) (a2 : Option Addr) (n2 c2 : Nat) (l2 : List Nat) (w : World) (g1 : NatAt w a n c l) (g2 : NatAt w a2 n2 c2 l2) (hs : n ≤ 200000) (hs2 : n2 ≤ 200000) (hz : val l2 ≠ 0) :
 Calls Tryz.prog 78 #[.agg #[.bool b, .slice a n c], .slice a2 n2 c2] w (RetRat w (mkRat (sg b (val l)) (val l2))) := by
 obtain ⟨p1, p2⟩ := low_parts (b := b) (v := val l) hz
 have hg0 := gcd_ne (v := val l) hz
 have hgl : (digs (Nat.gcd (val l) (val l2))).length ≤ n2 := Nat.le_trans (digs_len_mono (Nat.gcd_le_right _ (Nat.pos_of_ne_zero hz))) g2.short
 obtain ⟨G, hG⟩ : ∃ G, Nat.gcd (val l) (val l2) = G := ⟨_, rfl⟩
 rw [hG] at p1 p2 hg0 hgl
 obtain ⟨Q, hQ⟩ : ∃ Q : Rat, mkRat (sg b (val l)) (val l2) = Q := ⟨_, rfl⟩
 rw [hQ] at p1 p2 ⊢
 have hg0 : val (digs G) ≠ 0 := by rw [val_digs]; exact hg0
 have q1 : sg b (val (digs (val l / val (digs G)))) = Q.num := by rw [val_digs, val_digs]; exact p1
 have q2 : digs (val l2 / val (digs G)) = digs Q.den := by rw [val_digs, p2]
 have hl1 : (digs (val l / val (digs G))).length ≤ n := Nat.le_trans (digs_len_mono (Nat.div_le_self _ _)) g1.short
 have HG := Lib.hid hG
 have HG0 := Lib.hid hg0
 have HGL := Lib.hid hgl
 have H1 := Lib.hid q1
 have H2 := Lib.hid q2
 have HL1 := Lib.hid hl1
 clear hG p1 p2 hg0 hgl q1 q2 hl1 hQ
 go_enter Tryz.func78, Tryz.ntmps78
 have hB := Below.refl w.heap.size w
 go_wp2_with fail
 obtain ⟨w1, hW, hz0, hb, q, f⟩ := box1g w (w.heap.size) (by omega) #[.bool b, .slice a n c] 28
 rw [hW]
 clear hW
 have g1 := g1.past hb
 have g2 := g2.past hb
 have hB := below_later hB hb
 clear hb
 have lb1 : w.heap.size < w1.heap.size := by omega
 have qb10 := q 0; have qb11 := q 1
 simp only [lgA, lgZ, lgS] at qb10 qb11
 clear q f
 obtain ⟨w2, hW, hz1, hb, q, f⟩ := box1g w1 (w.heap.size + 1) (by omega) #[.bool false, .slice none 0 0, .slice none 0 0] 30
 rw [hW]
 clear hW
 have g1 := g1.past hb
 have g2 := g2.past hb
 obtain ⟨qb10, qb11, lb1⟩ := bq2 hb lb1 qb10 qb11
 have hB := below_later hB hb
 clear hb
 have lr : w.heap.size + 1 < w2.heap.size := by omega
 have qr0 := q 0; have qr1 := q 1; have qr2 := q 2
 simp only [lgA, lgZ, lgS] at qr0 qr1 qr2
 have xr : BoxAt w2 (w.heap.size + 1) 3 := BoxAt.of q f rfl (by simp [notU_bool, notU_slice, notU_i64])
 clear q f
 clear hz0
 clear hz1
 with_reducible refine (rgcd_any _ _ _ l _ _ _ l2 _ g1 g2 (by omega) (by omega)).mono ?_
 rintro e w3 ⟨ahG, nhG, chG, rfl, hG, hb⟩
 have hG := hG.mono hB.size
 have g1 := g1.past hb
 have g2 := g2.past hb
 obtain ⟨qb10, qb11, lb1⟩ := bq2 hb lb1 qb10 qb11
 have xr := xr.past hb lr
 obtain ⟨qr0, qr1, qr2, lr⟩ := bq3 hb lr qr0 qr1 qr2
 have hB := below_later hB hb
 clear hb
 rw [HG.out] at hG
 have nG : nhG ≤ n2 := by rw [← hG.len]; exact HGL.out
 go_wp2_with fail
 with_reducible refine (rdiv_yes _ _ _ l _ _ _ (digs G) _ g1 hG.toNatAt (by omega) (by omega) HG0.out).mono ?_
 rintro e w4 ⟨ahQ, nhQ, chQ, ahX, nhX, chX, rfl, hQ, hX, hb⟩
 have hQ := hQ.mono hB.size
 have g1 := g1.past hb
 have g2 := g2.past hb
 have hG := hG.past hb
 obtain ⟨qb10, qb11, lb1⟩ := bq2 hb lb1 qb10 qb11
 have xr := xr.past hb lr
 obtain ⟨qr0, qr1, qr2, lr⟩ := bq3 hb lr qr0 qr1 qr2
 have hB := below_later hB hb
 clear hb
 have nQ : nhQ ≤ n := by rw [← hQ.len]; exact HL1.out
 clear hX
 go_wp2_with fail
 with_reducible refine (rdiv_yes _ _ _ l2 _ _ _ (digs G) _ g2 hG.toNatAt (by omega) (by omega) HG0.out).mono ?_
 rintro e w5 ⟨ahD, nhD, chD, ahY, nhY, chY, rfl, hD, hY, hb⟩
 have hD := hD.mono hB.size
 have g1 := g1.past hb
 have g2 := g2.past hb
 have hG := hG.past hb
 have hQ := hQ.past hb
 obtain ⟨qb10, qb11, lb1⟩ := bq2 hb lb1 qb10 qb11
 have xr := xr.past hb lr
 obtain ⟨qr0, qr1, qr2, lr⟩ := bq3 hb lr qr0 qr1 qr2
 have hB := below_later hB hb
 clear hb
 rw [H2.out] at hD
 clear hY
 go_wp2_with fail
 with_reducible refine (rsmake_any b _ _ _ (digs (val l / val (digs G))) _ hQ.toNatAt (by omega)).mono ?_
 rintro e w6 ⟨ahU, nhU, chU, rfl, hU, hb⟩
 have hU := hU.mono hB.size
 have g1 := g1.past hb
 have g2 := g2.past hb
 have hG := hG.past hb
 have hQ := hQ.past hb
 have hD := hD.past hb
 obtain ⟨qb10, qb11, lb1⟩ := bq2 hb lb1 qb10 qb11
 have xr := xr.past hb lr
 obtain ⟨qr0, qr1, qr2, lr⟩ := bq3 hb lr qr0 qr1 qr2
 have hB := below_later hB hb
 clear hb
 rw [H1.out] at hU ⊢
 have zf0 := xr.f 0 (by decide)
 have zf1 := xr.f 1 (by decide)
 have zf2 := xr.f 2 (by decide)
 go_wp2
 obtain ⟨w7, hW, hO, qN0, qN1, qN2, xN⟩ := store3 xr (.bool (neg Q.num)) (.slice ahU nhU chU) (.slice ahD nhD chD) (nu rfl) (nu rfl) (nu rfl)
 try rw [hW]
 clear hW
 have g1 := hO.nat g1
 have g2 := hO.nat g2
 have hG := hO.own hG
 have hQ := hO.own hQ
 have hD := hO.own hD
 have hU := hO.own hU
 have qb10 := (hO.cell (b2 := w.heap.size) (k := 0) (by omega)).trans qb10
 have qb11 := (hO.cell (b2 := w.heap.size) (k := 1) (by omega)).trans qb11
 have lb1 : w.heap.size < w7.heap.size := by rw [hO.size]; exact lb1
 have lr : w.heap.size + 1 < w7.heap.size := by rw [hO.size]; exact lr
 have qr0 := qN0
 have qr1 := qN1
 have qr2 := qN2
 have xr := xN
 have hB := hO.below (by omega) hB
 clear hO qN0 qN1 qN2 xN zf0 zf1 zf2
 refine bodyPost_ret (v := .agg #[.bool (neg Q.num), .slice ahU nhU chU, .slice ahD nhD chD]) ?_ rfl ⟨_, _, _, _, _, _, rfl, hU, hD, hB⟩
 simp [results, Tryz.f78, go_sem, qr0, qr1, qr2]
end Go.Proofs.YtmhjhhcdjecdbaaGreat
