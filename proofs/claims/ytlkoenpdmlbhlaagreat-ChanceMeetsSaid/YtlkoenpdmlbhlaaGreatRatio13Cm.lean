import Derived.Test.YtlkoenpdmlbhlaaGreatS0Cm
import Derived.Test.YtlkoenpdmlbhlaaGreatRatio7Cm
import Derived.Test.YtlkoenpdmlbhlaaGreatRatio10Cm
set_option linter.unusedVariables false
set_option linter.unusedSimpArgs false
namespace Go.Proofs.YtlkoenpdmlbhlaaGreat
open Go.RowKit
theorem rone05_any (w : World) : Calls Tryz.prog 91 #[] w (RetNat w 1) := by
 go_enter Tryz.func91, Tryz.ntmps91
 go_wp2
 go_ret
 exact ⟨_, _, _, rfl, lit1g w w.heap.size 1 1 rfl rfl (by decide), (Below.refl _ _).alloc (Nat.le_refl _) _⟩
set_option maxRecDepth 100000 in
set_option maxHeartbeats 4000000 in
theorem rcheck05_any (b : Bool) (a : Option Addr) (n c : Nat) (l : List Nat) (a2 : Option Addr) (n2 c2 : Nat) (l2 : List Nat) (w : World) (g1 : NatAt w a n c l) (g2 : NatAt w a2 n2 c2 l2) (hs : n ≤ 200000) (hs2 : n2 ≤ 200000) :
 Calls Tryz.prog 44 #[.agg #[.bool b, .slice a n c, .slice a2 n2 c2]] w (RetVal w (.int .i64 (chkR b l l2))) := by
 have hlen := g2.len
 by_cases h1 : chkZ b l = 0
 · by_cases h2 : chk l2 = 0
   · by_cases h3 : n2 = 0
     · have e : chkR b l l2 = 6 := by unfold chkR; rw [if_neg]; rintro ⟨_, _, h, _⟩; exact h (List.eq_nil_of_length_eq_zero (by omega))
       rw [e]
       have H1 := Lib.hid h1
       have H2 := Lib.hid h2
       have t3 : ((n2 : Int) == 0) = true := by rw [h3]; rfl
       have H3 := Lib.hid h3
       clear h1 h2 e h3 hlen
       go_enter Tryz.func44, Tryz.ntmps44
       have hB := Below.refl w.heap.size w
       go_wp2_with fail
       obtain ⟨w1, hW, hz0, hb, q, f⟩ := box1g w (w.heap.size) (by omega) #[.bool b, .slice a n c, .slice a2 n2 c2] 27
       rw [hW]
       clear hW
       have g1 := g1.past hb
       have g2 := g2.past hb
       have hB := below_later hB hb
       clear hb
       have lb1 : w.heap.size < w1.heap.size := by omega
       have qb10 := q 0; have qb11 := q 1; have qb12 := q 2
       simp only [lgA, lgZ, lgS] at qb10 qb11 qb12
       clear q f
       clear hz0
       with_reducible refine (rscheck_any b _ _ _ l _ g1).mono ?_
       rintro e w2 ⟨rfl, hb⟩
       have g1 := g1.past hb
       have g2 := g2.past hb
       obtain ⟨qb10, qb11, qb12, lb1⟩ := bq3 hb lb1 qb10 qb11 qb12
       have hB := below_later hB hb
       clear hb
       rw [H1.out]
       go_wp2_with fail
       with_reducible refine (rcheck_any _ _ _ l2 _ g2).mono ?_
       rintro e w' ⟨rfl, rfl⟩
       rw [H2.out]
       go_wp2
       go_ret
       exact ⟨rfl, hB⟩
     · have h3b : 0 < n2 := by omega
       have t3 : ((n2 : Int) == 0) = false := by rw [beq_eq_false_iff_ne]; omega
       have hz : val l2 ≠ 0 := by
        intro hz
        have e := digs_val g2.dig (chk_top.1 h2)
        rw [hz] at e
        have : l2.length = 0 := by rw [← e]; rfl
        omega
       have hgl : (digs (Nat.gcd (val l) (val l2))).length ≤ n2 := Nat.le_trans (digs_len_mono (Nat.gcd_le_right _ (Nat.pos_of_ne_zero hz))) g2.short
       have HGL := Lib.hid hgl
       by_cases h4 : Nat.gcd (val l) (val l2) = 1
       · have e : chkR b l l2 = 0 := by unfold chkR; rw [if_pos ⟨h1, h2, fun h => by rw [h] at hlen; simp at hlen; omega, h4⟩]
         rw [e]
         have e2 : cmpI (val (digs (Nat.gcd (val l) (val l2)))) (val (digs 1)) = 0 := by rw [val_digs, val_digs, h4]; rfl
         have H1 := Lib.hid h1
         have H2 := Lib.hid h2
         have E2 := Lib.hid e2
         clear h1 h2 h3 h4 e e2 hz hgl hlen
         go_enter Tryz.func44, Tryz.ntmps44
         have hB := Below.refl w.heap.size w
         go_wp2_with fail
         obtain ⟨w1, hW, hz0, hb, q, f⟩ := box1g w (w.heap.size) (by omega) #[.bool b, .slice a n c, .slice a2 n2 c2] 27
         rw [hW]
         clear hW
         have g1 := g1.past hb
         have g2 := g2.past hb
         have hB := below_later hB hb
         clear hb
         have lb1 : w.heap.size < w1.heap.size := by omega
         have qb10 := q 0; have qb11 := q 1; have qb12 := q 2
         simp only [lgA, lgZ, lgS] at qb10 qb11 qb12
         clear q f
         clear hz0
         with_reducible refine (rscheck_any b _ _ _ l _ g1).mono ?_
         rintro e w2 ⟨rfl, hb⟩
         have g1 := g1.past hb
         have g2 := g2.past hb
         obtain ⟨qb10, qb11, qb12, lb1⟩ := bq3 hb lb1 qb10 qb11 qb12
         have hB := below_later hB hb
         clear hb
         rw [H1.out]
         go_wp2_with fail
         with_reducible refine (rcheck_any _ _ _ l2 _ g2).mono ?_
         rintro e w' ⟨rfl, rfl⟩
         rw [H2.out]
         go_wp2_with fail
         with_reducible refine (rgcd_any _ _ _ l _ _ _ l2 _ g1 g2 (by omega) (by omega)).mono ?_
         rintro e w3 ⟨ahG, nhG, chG, rfl, hG, hb⟩
         have g1 := g1.past hb
         have g2 := g2.past hb
         obtain ⟨qb10, qb11, qb12, lb1⟩ := bq3 hb lb1 qb10 qb11 qb12
         have hB := below_later hB hb
         clear hb
         go_wp2_with fail
         with_reducible refine (rone05_any _).mono ?_
         rintro e w4 ⟨ahO, nhO, chO, rfl, hO, hb⟩
         have g1 := g1.past hb
         have g2 := g2.past hb
         have hG := hG.past hb
         obtain ⟨qb10, qb11, qb12, lb1⟩ := bq3 hb lb1 qb10 qb11 qb12
         have hB := below_later hB hb
         clear hb
         go_wp2_with fail
         with_reducible refine (rcmp_any _ _ _ (digs (Nat.gcd (val l) (val l2))) _ _ _ (digs 1) _ hG.toNatAt hO.toNatAt).mono ?_
         rintro e w' ⟨rfl, rfl⟩
         rw [E2.out]
         go_wp2
         go_ret
         exact ⟨rfl, hB⟩
       · have e : chkR b l l2 = 6 := by unfold chkR; rw [if_neg]; rintro ⟨_, _, _, h⟩; exact h4 h
         rw [e]
         obtain ⟨x, hx⟩ : ∃ x, cmpI (val (digs (Nat.gcd (val l) (val l2)))) (val (digs 1)) = x := ⟨_, rfl⟩
         have hx0 : (x == 0) = false := by
          rw [beq_eq_false_iff_ne]
          intro h0
          rw [h0, val_digs, val_digs] at hx
          exact h4 (cmpI_zero.1 hx)
         have hx1 : (x != 0) = true := by simp [bne, hx0]
         have H1 := Lib.hid h1
         have H2 := Lib.hid h2
         have E2 := Lib.hid hx
         clear h1 h2 h3 h4 e hz hgl hlen hx
         go_enter Tryz.func44, Tryz.ntmps44
         have hB := Below.refl w.heap.size w
         go_wp2_with fail
         obtain ⟨w1, hW, hz0, hb, q, f⟩ := box1g w (w.heap.size) (by omega) #[.bool b, .slice a n c, .slice a2 n2 c2] 27
         rw [hW]
         clear hW
         have g1 := g1.past hb
         have g2 := g2.past hb
         have hB := below_later hB hb
         clear hb
         have lb1 : w.heap.size < w1.heap.size := by omega
         have qb10 := q 0; have qb11 := q 1; have qb12 := q 2
         simp only [lgA, lgZ, lgS] at qb10 qb11 qb12
         clear q f
         clear hz0
         with_reducible refine (rscheck_any b _ _ _ l _ g1).mono ?_
         rintro e w2 ⟨rfl, hb⟩
         have g1 := g1.past hb
         have g2 := g2.past hb
         obtain ⟨qb10, qb11, qb12, lb1⟩ := bq3 hb lb1 qb10 qb11 qb12
         have hB := below_later hB hb
         clear hb
         rw [H1.out]
         go_wp2_with fail
         with_reducible refine (rcheck_any _ _ _ l2 _ g2).mono ?_
         rintro e w' ⟨rfl, rfl⟩
         rw [H2.out]
         go_wp2_with fail
         with_reducible refine (rgcd_any _ _ _ l _ _ _ l2 _ g1 g2 (by omega) (by omega)).mono ?_
         rintro e w3 ⟨ahG, nhG, chG, rfl, hG, hb⟩
         have g1 := g1.past hb
         have g2 := g2.past hb
         obtain ⟨qb10, qb11, qb12, lb1⟩ := bq3 hb lb1 qb10 qb11 qb12
         have hB := below_later hB hb
         clear hb
         go_wp2_with fail
         with_reducible refine (rone05_any _).mono ?_
         rintro e w4 ⟨ahO, nhO, chO, rfl, hO, hb⟩
         have g1 := g1.past hb
         have g2 := g2.past hb
         have hG := hG.past hb
         obtain ⟨qb10, qb11, qb12, lb1⟩ := bq3 hb lb1 qb10 qb11 qb12
         have hB := below_later hB hb
         clear hb
         go_wp2_with fail
         with_reducible refine (rcmp_any _ _ _ (digs (Nat.gcd (val l) (val l2))) _ _ _ (digs 1) _ hG.toNatAt hO.toNatAt).mono ?_
         rintro e w' ⟨rfl, rfl⟩
         rw [E2.out]
         go_wp2
         go_ret
         exact ⟨rfl, hB⟩
   · have e : chkR b l l2 = 6 := by unfold chkR; rw [if_neg]; rintro ⟨_, h, _⟩; exact h2 h
     rw [e]
     have H1 := Lib.hid h1
     have H2 := Lib.hid (chk_six h2)
     clear h1 h2 e
     go_enter Tryz.func44, Tryz.ntmps44
     have hB := Below.refl w.heap.size w
     go_wp2_with fail
     obtain ⟨w1, hW, hz0, hb, q, f⟩ := box1g w (w.heap.size) (by omega) #[.bool b, .slice a n c, .slice a2 n2 c2] 27
     rw [hW]
     clear hW
     have g1 := g1.past hb
     have g2 := g2.past hb
     have hB := below_later hB hb
     clear hb
     have lb1 : w.heap.size < w1.heap.size := by omega
     have qb10 := q 0; have qb11 := q 1; have qb12 := q 2
     simp only [lgA, lgZ, lgS] at qb10 qb11 qb12
     clear q f
     clear hz0
     with_reducible refine (rscheck_any b _ _ _ l _ g1).mono ?_
     rintro e w2 ⟨rfl, hb⟩
     have g1 := g1.past hb
     have g2 := g2.past hb
     obtain ⟨qb10, qb11, qb12, lb1⟩ := bq3 hb lb1 qb10 qb11 qb12
     have hB := below_later hB hb
     clear hb
     rw [H1.out]
     go_wp2_with fail
     with_reducible refine (rcheck_any _ _ _ l2 _ g2).mono ?_
     rintro e w' ⟨rfl, rfl⟩
     rw [H2.out]
     go_wp2
     go_ret
     exact ⟨rfl, hB⟩
 · have e : chkR b l l2 = 6 := by unfold chkR; rw [if_neg]; rintro ⟨h, _⟩; exact h1 h
   rw [e]
   have H1 := Lib.hid (chkZ_six h1)
   clear h1 e
   go_enter Tryz.func44, Tryz.ntmps44
   have hB := Below.refl w.heap.size w
   go_wp2_with fail
   obtain ⟨w1, hW, hz0, hb, q, f⟩ := box1g w (w.heap.size) (by omega) #[.bool b, .slice a n c, .slice a2 n2 c2] 27
   rw [hW]
   clear hW
   have g1 := g1.past hb
   have g2 := g2.past hb
   have hB := below_later hB hb
   clear hb
   have lb1 : w.heap.size < w1.heap.size := by omega
   have qb10 := q 0; have qb11 := q 1; have qb12 := q 2
   simp only [lgA, lgZ, lgS] at qb10 qb11 qb12
   clear q f
   clear hz0
   with_reducible refine (rscheck_any b _ _ _ l _ g1).mono ?_
   rintro e w2 ⟨rfl, hb⟩
   have g1 := g1.past hb
   have g2 := g2.past hb
   obtain ⟨qb10, qb11, qb12, lb1⟩ := bq3 hb lb1 qb10 qb11 qb12
   have hB := below_later hB hb
   clear hb
   rw [H1.out]
   go_wp2
   go_ret
   exact ⟨rfl, hB⟩
set_option maxRecDepth 100000 in
set_option maxHeartbeats 4000000 in
theorem rwhole05_any (d : Nat) (a : Option Addr) (n c : Nat) (w : World) (g1 : NatAt w a n c (digs d)) (hs : n ≤ 200000) :
 Calls Tryz.prog 105 #[.slice a n c] w (RetInt w (d : Int)) := by
 have e : sg false (val (digs d)) = (d : Int) := by rw [val_digs]; rfl
 have E := Lib.hid e
 clear e
 go_enter Tryz.func105, Tryz.ntmps105
 have hB := Below.refl w.heap.size w
 go_wp2_with fail
 obtain ⟨w1, hW, hz0, hb, q, f⟩ := box1g w (w.heap.size) (by omega) #[.bool false, .slice none 0 0] 25
 rw [hW]
 clear hW
 have g1 := g1.past hb
 have hB := below_later hB hb
 clear hb
 have lr : w.heap.size < w1.heap.size := by omega
 have qr0 := q 0; have qr1 := q 1
 simp only [lgA, lgZ, lgS] at qr0 qr1
 have xr : BoxAt w1 (w.heap.size) 2 := BoxAt.of q f rfl (by simp [notU_bool, notU_slice, notU_i64])
 clear q f
 clear hz0
 with_reducible refine (rsmake_any false _ _ _ (digs d) _ g1 (by omega)).mono ?_
 rintro e w2 ⟨ahA, nhA, chA, rfl, hA, hb⟩
 have hA := hA.mono hB.size
 have g1 := g1.past hb
 have xr := xr.past hb lr
 obtain ⟨qr0, qr1, lr⟩ := bq2 hb lr qr0 qr1
 have hB := below_later hB hb
 clear hb
 rw [E.out] at hA ⊢
 have zf0 := xr.f 0 (by decide)
 have zf1 := xr.f 1 (by decide)
 go_wp2
 obtain ⟨w3, hW, hO, qN0, qN1, xN⟩ := store2 xr (.bool (neg (d : Int))) (.slice ahA nhA chA) (nu rfl) (nu rfl)
 try rw [hW]
 clear hW
 have hA := hO.own hA
 have lr : w.heap.size < w3.heap.size := by rw [hO.size]; exact lr
 have qr0 := qN0
 have qr1 := qN1
 have xr := xN
 have hB := hO.below (by omega) hB
 clear hO qN0 qN1 xN zf0 zf1
 refine bodyPost_ret (v := .agg #[.bool (neg (d : Int)), .slice ahA nhA chA]) ?_ rfl ⟨_, _, _, rfl, hA, hB⟩
 simp [results, Tryz.f105, go_sem, qr0, qr1]
theorem rsmul_c {x y : Int} {a : Option Addr} {n c : Nat} {a2 : Option Addr} {n2 c2 : Nat} {w : World} (h : NatAt w a n c (digs x.natAbs)) (h2 : NatAt w a2 n2 c2 (digs y.natAbs)) (hs : n ≤ 68719476736) (hs2 : n2 ≤ 68719476736) :
 Calls Tryz.prog 128 #[.agg #[.bool (neg x), .slice a n c], .agg #[.bool (neg y), .slice a2 n2 c2]] w (RetInt w (x * y)) := by
 have := rsmul_any (neg x) a n c _ (neg y) a2 n2 c2 _ w h h2 hs hs2
 rwa [sg_canon, sg_canon] at this
theorem rsadd_c {x y : Int} {a : Option Addr} {n c : Nat} {a2 : Option Addr} {n2 c2 : Nat} {w : World} (h : NatAt w a n c (digs x.natAbs)) (h2 : NatAt w a2 n2 c2 (digs y.natAbs)) (hs : n ≤ 274877906944) (hs2 : n2 ≤ 274877906944) :
 Calls Tryz.prog 127 #[.agg #[.bool (neg x), .slice a n c], .agg #[.bool (neg y), .slice a2 n2 c2]] w (RetInt w (x + y)) := by
 have := rsadd_any (neg x) a n c _ (neg y) a2 n2 c2 _ w h h2 hs hs2
 rwa [sg_canon, sg_canon] at this
set_option maxRecDepth 100000 in
set_option maxHeartbeats 8000000 in
theorem rsum05_rat (p q : Rat) (a1 : Option Addr) (n1 c1 : Nat) (a2 : Option Addr) (n2 c2 : Nat) (a3 : Option Addr) (n3 c3 : Nat) (a4 : Option Addr) (n4 c4 : Nat) (w : World) (g1 : NatAt w a1 n1 c1 (digs p.num.natAbs)) (g2 : NatAt w a2 n2 c2 (digs p.den)) (g3 : NatAt w a3 n3 c3 (digs q.num.natAbs)) (g4 : NatAt w a4 n4 c4 (digs q.den)) (hp : rlen p ≤ 40000) (hq : rlen q ≤ 40000) :
 Calls Tryz.prog 93 #[.agg #[.bool (neg p.num), .slice a1 n1 c1, .slice a2 n2 c2], .agg #[.bool (neg q.num), .slice a3 n3 c3, .slice a4 n4 c4]] w (RetRat w (p + q)) := by
 have b1 : n1 ≤ 40000 := by unfold rlen at hp; have := g1.len; omega
 have b2 : n2 ≤ 40000 := by unfold rlen at hp; have := g2.len; omega
 have b3 : n3 ≤ 40000 := by unfold rlen at hq; have := g3.len; omega
 have b4 : n4 ≤ 40000 := by unfold rlen at hq; have := g4.len; omega
 obtain ⟨X, hX⟩ : ∃ X, p.num * (q.den : Int) = X := ⟨_, rfl⟩
 obtain ⟨Y, hY⟩ : ∃ Y, q.num * (p.den : Int) = Y := ⟨_, rfl⟩
 have lX : (digs X.natAbs).length ≤ 80000 := by
  rw [← hX, Int.natAbs_mul, Int.natAbs_natCast]
  have := g1.len; have := g4.len; have := digs_len_prod p.num.natAbs q.den; omega
 have lY : (digs Y.natAbs).length ≤ 80000 := by
  rw [← hY, Int.natAbs_mul, Int.natAbs_natCast]
  have := g3.len; have := g2.len; have := digs_len_prod q.num.natAbs p.den; omega
 have lZ : (digs (X + Y).natAbs).length ≤ 80001 := by
  have h1 := digs_len_mono (Int.natAbs_add_le X Y)
  have h2 := digs_len_add X.natAbs Y.natAbs
  omega
 have l5 : (digs (p.den * q.den)).length ≤ 80000 := by
  have := g2.len; have := g4.len; have := digs_len_prod p.den q.den; omega
 have e5 : val (digs p.den) * val (digs q.den) = p.den * q.den := by rw [val_digs, val_digs]
 have z5 : val (digs (p.den * q.den)) ≠ 0 := by rw [val_digs]; exact Nat.mul_ne_zero p.den_nz q.den_nz
 have e6 : mkRat (sg (neg (X + Y)) (val (digs (X + Y).natAbs))) (val (digs (p.den * q.den))) = p + q := by
  rw [sg_canon, val_digs, ← hX, ← hY, rat_sum]
 obtain ⟨R, hR⟩ : ∃ R, p + q = R := ⟨_, rfl⟩
 rw [hR] at e6 ⊢
 have HX := Lib.hid hX
 have HY := Lib.hid hY
 have LX := Lib.hid lX
 have LY := Lib.hid lY
 have LZ := Lib.hid lZ
 have L5 := Lib.hid l5
 have E5 := Lib.hid e5
 have E6 := Lib.hid e6
 have Z5 := Lib.hid z5
 clear hX hY lX lY lZ l5 e5 e6 z5 hR hp hq
 go_enter Tryz.func93, Tryz.ntmps93
 have hB := Below.refl w.heap.size w
 go_wp2_with fail
 obtain ⟨w1, hW, hz0, hb, q, f⟩ := box1g w (w.heap.size) (by omega) #[.bool (neg p.num), .slice a1 n1 c1, .slice a2 n2 c2] 27
 rw [hW]
 clear hW
 have g1 := g1.past hb
 have g2 := g2.past hb
 have g3 := g3.past hb
 have g4 := g4.past hb
 have hB := below_later hB hb
 clear hb
 have lx : w.heap.size < w1.heap.size := by omega
 have qx0 := q 0; have qx1 := q 1; have qx2 := q 2
 simp only [lgA, lgZ, lgS] at qx0 qx1 qx2
 clear q f
 obtain ⟨w2, hW, hz1, hb, q, f⟩ := box1g w1 (w.heap.size + 1) (by omega) #[.bool (neg q.num), .slice a3 n3 c3, .slice a4 n4 c4] 27
 rw [hW]
 clear hW
 have g1 := g1.past hb
 have g2 := g2.past hb
 have g3 := g3.past hb
 have g4 := g4.past hb
 obtain ⟨qx0, qx1, qx2, lx⟩ := bq3 hb lx qx0 qx1 qx2
 have hB := below_later hB hb
 clear hb
 have ly : w.heap.size + 1 < w2.heap.size := by omega
 have qy0 := q 0; have qy1 := q 1; have qy2 := q 2
 simp only [lgA, lgZ, lgS] at qy0 qy1 qy2
 clear q f
 obtain ⟨w3, hW, hz2, hb, q, f⟩ := box1g w2 (w.heap.size + 1 + 1) (by omega) #[.bool false, .slice none 0 0, .slice none 0 0] 27
 rw [hW]
 clear hW
 have g1 := g1.past hb
 have g2 := g2.past hb
 have g3 := g3.past hb
 have g4 := g4.past hb
 obtain ⟨qx0, qx1, qx2, lx⟩ := bq3 hb lx qx0 qx1 qx2
 obtain ⟨qy0, qy1, qy2, ly⟩ := bq3 hb ly qy0 qy1 qy2
 have hB := below_later hB hb
 clear hb
 have lr : w.heap.size + 1 + 1 < w3.heap.size := by omega
 have qr0 := q 0; have qr1 := q 1; have qr2 := q 2
 simp only [lgA, lgZ, lgS] at qr0 qr1 qr2
 have xr : BoxAt w3 (w.heap.size + 1 + 1) 3 := BoxAt.of q f rfl (by simp [notU_bool, notU_slice, notU_i64])
 clear q f
 clear hz0
 clear hz1
 clear hz2
 have szW := hB.size
 refine wp_region_inv (by kernel_rfl) rfl (by kernel_rfl) (fun A0 V0 dd aa ww => ∃ (blk : Nat → Nat) (y6 y7 y8 y9 y10 y11 y12 y13 y14 y15 y16 y17 y18 y5 : Value), aa = puts A0 [(6, y6), (7, y7), (8, y8), (9, y9), (10, y10), (11, y11), (12, y12), (13, y13), (14, y14), (15, y15), (16, y16), (17, y17), (18, y18), (5, y5)] ∧ Below V0.heap.size V0 ww ∧ Boxes [(13, 2)] V0.heap.size dd blk ww ∧ Shut (dd 0 = true → y6 = .pointer (some ⟨w.heap.size, 0, none⟩)) ∧ Shut (dd 1 = true → y7 = .agg #[.bool (neg p.num), .slice a1 n1 c1]) ∧ Shut (dd 2 = true → y8 = .pointer (some ⟨w.heap.size + 1, 2, none⟩)) ∧ Shut (dd 3 = true → y9 = .slice a4 n4 c4) ∧ Shut (dd 4 = true → CopyV V0.heap.size (neg ((q.den : Nat) : Int)) (digs ((q.den : Nat) : Int).natAbs) y10 ww) ∧ Shut (dd 5 = true → CopyV V0.heap.size (neg X) (digs X.natAbs) y11 ww) ∧ Shut (dd 6 = true → y12 = .pointer (some ⟨w.heap.size + 1, 0, none⟩)) ∧ Shut (dd 7 = true → y13 = .agg #[.bool (neg q.num), .slice a3 n3 c3]) ∧ Shut (dd 8 = true → y14 = .pointer (some ⟨w.heap.size, 2, none⟩)) ∧ Shut (dd 9 = true → y15 = .slice a2 n2 c2) ∧ Shut (dd 10 = true → CopyV V0.heap.size (neg ((p.den : Nat) : Int)) (digs ((p.den : Nat) : Int).natAbs) y16 ww) ∧ Shut (dd 11 = true → CopyV V0.heap.size (neg Y) (digs Y.natAbs) y17 ww) ∧ Shut (dd 12 = true → CopyV V0.heap.size (neg (X + Y)) (digs (X + Y).natAbs) y18 ww) ∧ Shut (dd 13 = true → y5 = .pointer (some ⟨blk 13, 0, none⟩)) ∧ Shut (dd 14 = true → HoldsV dd 13 12 (blk 13) y18 ww) ∧ True) ?_ ?_ ?_
 · exact ⟨fun _ => 0, _, _, _, _, _, _, _, _, _, _, _, _, _, _, puts_self _ [6, 7, 8, 9, 10, 11, 12, 13, 14, 15, 16, 17, 18, 5], (Below.refl _ _).drew, Boxes.none _ _ _ _, fun h => (by cases h), fun h => (by cases h), fun h => (by cases h), fun h => (by cases h), fun h => (by cases h), fun h => (by cases h), fun h => (by cases h), fun h => (by cases h), fun h => (by cases h), fun h => (by cases h), fun h => (by cases h), fun h => (by cases h), fun h => (by cases h), fun h => (by cases h), fun h => (by cases h), trivial⟩
 · refine Steps.cons ?_ (Steps.cons ?_ (Steps.cons ?_ (Steps.cons ?_ (Steps.cons ?_ (Steps.cons ?_ (Steps.cons ?_ (Steps.cons ?_ (Steps.cons ?_ (Steps.cons ?_ (Steps.cons ?_ (Steps.cons ?_ (Steps.cons ?_ (Steps.cons ?_ (Steps.cons ?_ (Steps.nil)))))))))))))))
   · intro dd aa ww K hc hun hn hI hK
     obtain ⟨blk, y6, y7, y8, y9, y10, y11, y12, y13, y14, y15, y16, y17, y18, y5, ea, hb, hX, f0, f1, f2, f3, f4, f5, f6, f7, f8, f9, f10, f11, f12, f13, f14, _⟩ := hI
     try simp [Region.binds] at hn
     subst ea
     simp only [puts, Act.put, lsA, lsZ, lsS]
     go_simp
     refine hK.out _ _ ?_
     exact ⟨blk, .pointer (some ⟨w.heap.size, 0, none⟩), y7, y8, y9, y10, y11, y12, y13, y14, y15, y16, y17, y18, y5, by simp only [puts, Act.put, lsA, lsZ, lsS], hb, hX.same 0 rfl, fun _ => rfl, uo f1 rfl, uo f2 rfl, uo f3 rfl, uo f4 rfl, uo f5 rfl, uo f6 rfl, uo f7 rfl, uo f8 rfl, uo f9 rfl, uo f10 rfl, uo f11 rfl, uo f12 rfl, uo f13 rfl, fun h => (f14.out (upd_of rfl h)).same 0, trivial⟩
   · intro dd aa ww K hc hun hn hI hK
     obtain ⟨blk, y6, y7, y8, y9, y10, y11, y12, y13, y14, y15, y16, y17, y18, y5, ea, hb, hX, f0, f1, f2, f3, f4, f5, f6, f7, f8, f9, f10, f11, f12, f13, f14, _⟩ := hI
     try simp [Region.binds] at hn
     have ex := f0.out (by first | (simp [hn]; done) | exact rc hc hn | exact rc hc hn.1 | exact rc hc hn.2 | exact rc hc hn.2.1 | exact rc hc hn.2.2)
     subst ex
     have e0 := (hb.cell (p := ⟨w.heap.size, 0, none⟩) lx).trans qx0
     have e1 := (hb.cell (p := ⟨w.heap.size, 1, none⟩) lx).trans qx1
     subst ea
     simp only [puts, Act.put, lsA, lsZ, lsS]
     go_simp
     refine hK.out _ _ ?_
     exact ⟨blk, .pointer (some ⟨w.heap.size, 0, none⟩), .agg #[.bool (neg p.num), .slice a1 n1 c1], y8, y9, y10, y11, y12, y13, y14, y15, y16, y17, y18, y5, by simp only [puts, Act.put, lsA, lsZ, lsS], hb, hX.same 1 rfl, fun h => rfl, fun _ => rfl, uo f2 rfl, uo f3 rfl, uo f4 rfl, uo f5 rfl, uo f6 rfl, uo f7 rfl, uo f8 rfl, uo f9 rfl, uo f10 rfl, uo f11 rfl, uo f12 rfl, uo f13 rfl, fun h => (f14.out (upd_of rfl h)).same 1, trivial⟩
   · intro dd aa ww K hc hun hn hI hK
     obtain ⟨blk, y6, y7, y8, y9, y10, y11, y12, y13, y14, y15, y16, y17, y18, y5, ea, hb, hX, f0, f1, f2, f3, f4, f5, f6, f7, f8, f9, f10, f11, f12, f13, f14, _⟩ := hI
     try simp [Region.binds] at hn
     subst ea
     simp only [puts, Act.put, lsA, lsZ, lsS]
     go_simp
     refine hK.out _ _ ?_
     exact ⟨blk, y6, y7, .pointer (some ⟨w.heap.size + 1, 2, none⟩), y9, y10, y11, y12, y13, y14, y15, y16, y17, y18, y5, by simp only [puts, Act.put, lsA, lsZ, lsS], hb, hX.same 2 rfl, uo f0 rfl, uo f1 rfl, fun _ => rfl, uo f3 rfl, uo f4 rfl, uo f5 rfl, uo f6 rfl, uo f7 rfl, uo f8 rfl, uo f9 rfl, uo f10 rfl, uo f11 rfl, uo f12 rfl, uo f13 rfl, fun h => (f14.out (upd_of rfl h)).same 2, trivial⟩
   · intro dd aa ww K hc hun hn hI hK
     obtain ⟨blk, y6, y7, y8, y9, y10, y11, y12, y13, y14, y15, y16, y17, y18, y5, ea, hb, hX, f0, f1, f2, f3, f4, f5, f6, f7, f8, f9, f10, f11, f12, f13, f14, _⟩ := hI
     try simp [Region.binds] at hn
     have ex := f2.out (by first | (simp [hn]; done) | exact rc hc hn | exact rc hc hn.1 | exact rc hc hn.2 | exact rc hc hn.2.1 | exact rc hc hn.2.2)
     subst ex
     have e2 := (hb.cell (p := ⟨w.heap.size + 1, 2, none⟩) ly).trans qy2
     subst ea
     simp only [puts, Act.put, lsA, lsZ, lsS]
     go_simp
     refine hK.out _ _ ?_
     exact ⟨blk, y6, y7, .pointer (some ⟨w.heap.size + 1, 2, none⟩), .slice a4 n4 c4, y10, y11, y12, y13, y14, y15, y16, y17, y18, y5, by simp only [puts, Act.put, lsA, lsZ, lsS], hb, hX.same 3 rfl, uo f0 rfl, uo f1 rfl, fun h => rfl, fun _ => rfl, uo f4 rfl, uo f5 rfl, uo f6 rfl, uo f7 rfl, uo f8 rfl, uo f9 rfl, uo f10 rfl, uo f11 rfl, uo f12 rfl, uo f13 rfl, fun h => (f14.out (upd_of rfl h)).same 3, trivial⟩
   · intro dd aa ww K hc hun hn hI hK
     obtain ⟨blk, y6, y7, y8, y9, y10, y11, y12, y13, y14, y15, y16, y17, y18, y5, ea, hb, hX, f0, f1, f2, f3, f4, f5, f6, f7, f8, f9, f10, f11, f12, f13, f14, _⟩ := hI
     try simp [Region.binds] at hn
     have ex := f3.out (by first | (simp [hn]; done) | exact rc hc hn | exact rc hc hn.1 | exact rc hc hn.2 | exact rc hc hn.2.1 | exact rc hc hn.2.2)
     subst ex
     subst ea
     simp only [puts, Act.put, lsA, lsZ, lsS]
     go_simp
     with_reducible refine (rwhole05_any q.den _ _ _ _ (g4.past hb) (by omega)).mono ?_
     rintro e w1 ⟨ahQ, nhQ, chQ, rfl, hQ, h1⟩
     refine hK.out _ _ ?_
     exact ⟨blk, y6, y7, y8, .slice a4 n4 c4, .agg #[.bool (neg ((q.den : Nat) : Int)), .slice ahQ nhQ chQ], y11, y12, y13, y14, y15, y16, y17, y18, y5, by simp only [puts, Act.put, lsA, lsZ, lsS], below_later hb h1, hX.past h1 4 rfl, uo f0 rfl, uo f1 rfl, uo f2 rfl, fun h => rfl, fun _ => ⟨_, _, _, rfl, hQ.mono hb.size⟩, fun h => (f5.out (upd_of rfl h)).past h1, uo f6 rfl, uo f7 rfl, uo f8 rfl, uo f9 rfl, fun h => (f10.out (upd_of rfl h)).past h1, fun h => (f11.out (upd_of rfl h)).past h1, fun h => (f12.out (upd_of rfl h)).past h1, uo f13 rfl, fun h => (f14.out (upd_of rfl h)).past h1 4, trivial⟩
   · intro dd aa ww K hc hun hn hI hK
     obtain ⟨blk, y6, y7, y8, y9, y10, y11, y12, y13, y14, y15, y16, y17, y18, y5, ea, hb, hX, f0, f1, f2, f3, f4, f5, f6, f7, f8, f9, f10, f11, f12, f13, f14, _⟩ := hI
     try simp [Region.binds] at hn
     have ex := f1.out (by first | (simp [hn]; done) | exact rc hc hn | exact rc hc hn.1 | exact rc hc hn.2 | exact rc hc hn.2.1 | exact rc hc hn.2.2)
     subst ex
     obtain ⟨ahQ, nhQ, chQ, ex, hQ⟩ := f4.out (by first | (simp [hn]; done) | exact rc hc hn | exact rc hc hn.1 | exact rc hc hn.2 | exact rc hc hn.2.1 | exact rc hc hn.2.2)
     subst ex
     subst ea
     simp only [puts, Act.put, lsA, lsZ, lsS]
     go_simp
     with_reducible refine (rsmul_c (g1.past hb) hQ.toNatAt (by omega) (by have := hQ.len; have := g4.len; rw [Int.natAbs_natCast] at *; omega)).mono ?_
     rintro e w1 ⟨ahM, nhM, chM, rfl, hM, h1⟩
     rw [HX.out] at hM ⊢
     refine hK.out _ _ ?_
     exact ⟨blk, y6, .agg #[.bool (neg p.num), .slice a1 n1 c1], y8, y9, .agg #[.bool (neg ((q.den : Nat) : Int)), .slice ahQ nhQ chQ], .agg #[.bool (neg X), .slice ahM nhM chM], y12, y13, y14, y15, y16, y17, y18, y5, by simp only [puts, Act.put, lsA, lsZ, lsS], below_later hb h1, hX.past h1 5 rfl, uo f0 rfl, fun h => rfl, uo f2 rfl, uo f3 rfl, fun h => (f4.out (upd_of rfl h)).past h1, fun _ => ⟨_, _, _, rfl, hM.mono hb.size⟩, uo f6 rfl, uo f7 rfl, uo f8 rfl, uo f9 rfl, fun h => (f10.out (upd_of rfl h)).past h1, fun h => (f11.out (upd_of rfl h)).past h1, fun h => (f12.out (upd_of rfl h)).past h1, uo f13 rfl, fun h => (f14.out (upd_of rfl h)).past h1 5, trivial⟩
   · intro dd aa ww K hc hun hn hI hK
     obtain ⟨blk, y6, y7, y8, y9, y10, y11, y12, y13, y14, y15, y16, y17, y18, y5, ea, hb, hX, f0, f1, f2, f3, f4, f5, f6, f7, f8, f9, f10, f11, f12, f13, f14, _⟩ := hI
     try simp [Region.binds] at hn
     subst ea
     simp only [puts, Act.put, lsA, lsZ, lsS]
     go_simp
     refine hK.out _ _ ?_
     exact ⟨blk, y6, y7, y8, y9, y10, y11, .pointer (some ⟨w.heap.size + 1, 0, none⟩), y13, y14, y15, y16, y17, y18, y5, by simp only [puts, Act.put, lsA, lsZ, lsS], hb, hX.same 6 rfl, uo f0 rfl, uo f1 rfl, uo f2 rfl, uo f3 rfl, uo f4 rfl, uo f5 rfl, fun _ => rfl, uo f7 rfl, uo f8 rfl, uo f9 rfl, uo f10 rfl, uo f11 rfl, uo f12 rfl, uo f13 rfl, fun h => (f14.out (upd_of rfl h)).same 6, trivial⟩
   · intro dd aa ww K hc hun hn hI hK
     obtain ⟨blk, y6, y7, y8, y9, y10, y11, y12, y13, y14, y15, y16, y17, y18, y5, ea, hb, hX, f0, f1, f2, f3, f4, f5, f6, f7, f8, f9, f10, f11, f12, f13, f14, _⟩ := hI
     try simp [Region.binds] at hn
     have ex := f6.out (by first | (simp [hn]; done) | exact rc hc hn | exact rc hc hn.1 | exact rc hc hn.2 | exact rc hc hn.2.1 | exact rc hc hn.2.2)
     subst ex
     have e0 := (hb.cell (p := ⟨w.heap.size + 1, 0, none⟩) ly).trans qy0
     have e1 := (hb.cell (p := ⟨w.heap.size + 1, 1, none⟩) ly).trans qy1
     subst ea
     simp only [puts, Act.put, lsA, lsZ, lsS]
     go_simp
     refine hK.out _ _ ?_
     exact ⟨blk, y6, y7, y8, y9, y10, y11, .pointer (some ⟨w.heap.size + 1, 0, none⟩), .agg #[.bool (neg q.num), .slice a3 n3 c3], y14, y15, y16, y17, y18, y5, by simp only [puts, Act.put, lsA, lsZ, lsS], hb, hX.same 7 rfl, uo f0 rfl, uo f1 rfl, uo f2 rfl, uo f3 rfl, uo f4 rfl, uo f5 rfl, fun h => rfl, fun _ => rfl, uo f8 rfl, uo f9 rfl, uo f10 rfl, uo f11 rfl, uo f12 rfl, uo f13 rfl, fun h => (f14.out (upd_of rfl h)).same 7, trivial⟩
   · intro dd aa ww K hc hun hn hI hK
     obtain ⟨blk, y6, y7, y8, y9, y10, y11, y12, y13, y14, y15, y16, y17, y18, y5, ea, hb, hX, f0, f1, f2, f3, f4, f5, f6, f7, f8, f9, f10, f11, f12, f13, f14, _⟩ := hI
     try simp [Region.binds] at hn
     subst ea
     simp only [puts, Act.put, lsA, lsZ, lsS]
     go_simp
     refine hK.out _ _ ?_
     exact ⟨blk, y6, y7, y8, y9, y10, y11, y12, y13, .pointer (some ⟨w.heap.size, 2, none⟩), y15, y16, y17, y18, y5, by simp only [puts, Act.put, lsA, lsZ, lsS], hb, hX.same 8 rfl, uo f0 rfl, uo f1 rfl, uo f2 rfl, uo f3 rfl, uo f4 rfl, uo f5 rfl, uo f6 rfl, uo f7 rfl, fun _ => rfl, uo f9 rfl, uo f10 rfl, uo f11 rfl, uo f12 rfl, uo f13 rfl, fun h => (f14.out (upd_of rfl h)).same 8, trivial⟩
   · intro dd aa ww K hc hun hn hI hK
     obtain ⟨blk, y6, y7, y8, y9, y10, y11, y12, y13, y14, y15, y16, y17, y18, y5, ea, hb, hX, f0, f1, f2, f3, f4, f5, f6, f7, f8, f9, f10, f11, f12, f13, f14, _⟩ := hI
     try simp [Region.binds] at hn
     have ex := f8.out (by first | (simp [hn]; done) | exact rc hc hn | exact rc hc hn.1 | exact rc hc hn.2 | exact rc hc hn.2.1 | exact rc hc hn.2.2)
     subst ex
     have e2 := (hb.cell (p := ⟨w.heap.size, 2, none⟩) lx).trans qx2
     subst ea
     simp only [puts, Act.put, lsA, lsZ, lsS]
     go_simp
     refine hK.out _ _ ?_
     exact ⟨blk, y6, y7, y8, y9, y10, y11, y12, y13, .pointer (some ⟨w.heap.size, 2, none⟩), .slice a2 n2 c2, y16, y17, y18, y5, by simp only [puts, Act.put, lsA, lsZ, lsS], hb, hX.same 9 rfl, uo f0 rfl, uo f1 rfl, uo f2 rfl, uo f3 rfl, uo f4 rfl, uo f5 rfl, uo f6 rfl, uo f7 rfl, fun h => rfl, fun _ => rfl, uo f10 rfl, uo f11 rfl, uo f12 rfl, uo f13 rfl, fun h => (f14.out (upd_of rfl h)).same 9, trivial⟩
   · intro dd aa ww K hc hun hn hI hK
     obtain ⟨blk, y6, y7, y8, y9, y10, y11, y12, y13, y14, y15, y16, y17, y18, y5, ea, hb, hX, f0, f1, f2, f3, f4, f5, f6, f7, f8, f9, f10, f11, f12, f13, f14, _⟩ := hI
     try simp [Region.binds] at hn
     have ex := f9.out (by first | (simp [hn]; done) | exact rc hc hn | exact rc hc hn.1 | exact rc hc hn.2 | exact rc hc hn.2.1 | exact rc hc hn.2.2)
     subst ex
     subst ea
     simp only [puts, Act.put, lsA, lsZ, lsS]
     go_simp
     with_reducible refine (rwhole05_any p.den _ _ _ _ (g2.past hb) (by omega)).mono ?_
     rintro e w1 ⟨ahP, nhP, chP, rfl, hP, h1⟩
     refine hK.out _ _ ?_
     exact ⟨blk, y6, y7, y8, y9, y10, y11, y12, y13, y14, .slice a2 n2 c2, .agg #[.bool (neg ((p.den : Nat) : Int)), .slice ahP nhP chP], y17, y18, y5, by simp only [puts, Act.put, lsA, lsZ, lsS], below_later hb h1, hX.past h1 10 rfl, uo f0 rfl, uo f1 rfl, uo f2 rfl, uo f3 rfl, fun h => (f4.out (upd_of rfl h)).past h1, fun h => (f5.out (upd_of rfl h)).past h1, uo f6 rfl, uo f7 rfl, uo f8 rfl, fun h => rfl, fun _ => ⟨_, _, _, rfl, hP.mono hb.size⟩, fun h => (f11.out (upd_of rfl h)).past h1, fun h => (f12.out (upd_of rfl h)).past h1, uo f13 rfl, fun h => (f14.out (upd_of rfl h)).past h1 10, trivial⟩
   · intro dd aa ww K hc hun hn hI hK
     obtain ⟨blk, y6, y7, y8, y9, y10, y11, y12, y13, y14, y15, y16, y17, y18, y5, ea, hb, hX, f0, f1, f2, f3, f4, f5, f6, f7, f8, f9, f10, f11, f12, f13, f14, _⟩ := hI
     try simp [Region.binds] at hn
     have ex := f7.out (by first | (simp [hn]; done) | exact rc hc hn | exact rc hc hn.1 | exact rc hc hn.2 | exact rc hc hn.2.1 | exact rc hc hn.2.2)
     subst ex
     obtain ⟨ahP, nhP, chP, ex, hP⟩ := f10.out (by first | (simp [hn]; done) | exact rc hc hn | exact rc hc hn.1 | exact rc hc hn.2 | exact rc hc hn.2.1 | exact rc hc hn.2.2)
     subst ex
     subst ea
     simp only [puts, Act.put, lsA, lsZ, lsS]
     go_simp
     with_reducible refine (rsmul_c (g3.past hb) hP.toNatAt (by omega) (by have := hP.len; have := g2.len; rw [Int.natAbs_natCast] at *; omega)).mono ?_
     rintro e w1 ⟨ahN, nhN, chN, rfl, hN, h1⟩
     rw [HY.out] at hN ⊢
     refine hK.out _ _ ?_
     exact ⟨blk, y6, y7, y8, y9, y10, y11, y12, .agg #[.bool (neg q.num), .slice a3 n3 c3], y14, y15, .agg #[.bool (neg ((p.den : Nat) : Int)), .slice ahP nhP chP], .agg #[.bool (neg Y), .slice ahN nhN chN], y18, y5, by simp only [puts, Act.put, lsA, lsZ, lsS], below_later hb h1, hX.past h1 11 rfl, uo f0 rfl, uo f1 rfl, uo f2 rfl, uo f3 rfl, fun h => (f4.out (upd_of rfl h)).past h1, fun h => (f5.out (upd_of rfl h)).past h1, uo f6 rfl, fun h => rfl, uo f8 rfl, uo f9 rfl, fun h => (f10.out (upd_of rfl h)).past h1, fun _ => ⟨_, _, _, rfl, hN.mono hb.size⟩, fun h => (f12.out (upd_of rfl h)).past h1, uo f13 rfl, fun h => (f14.out (upd_of rfl h)).past h1 11, trivial⟩
   · intro dd aa ww K hc hun hn hI hK
     obtain ⟨blk, y6, y7, y8, y9, y10, y11, y12, y13, y14, y15, y16, y17, y18, y5, ea, hb, hX, f0, f1, f2, f3, f4, f5, f6, f7, f8, f9, f10, f11, f12, f13, f14, _⟩ := hI
     try simp [Region.binds] at hn
     obtain ⟨ahM, nhM, chM, ex, hM⟩ := f5.out (by first | (simp [hn]; done) | exact rc hc hn | exact rc hc hn.1 | exact rc hc hn.2 | exact rc hc hn.2.1 | exact rc hc hn.2.2)
     subst ex
     obtain ⟨ahN, nhN, chN, ex, hN⟩ := f11.out (by first | (simp [hn]; done) | exact rc hc hn | exact rc hc hn.1 | exact rc hc hn.2 | exact rc hc hn.2.1 | exact rc hc hn.2.2)
     subst ex
     subst ea
     simp only [puts, Act.put, lsA, lsZ, lsS]
     go_simp
     with_reducible refine (rsadd_c hM.toNatAt hN.toNatAt (by have := hM.len; have := LX.out; omega) (by have := hN.len; have := LY.out; omega)).mono ?_
     rintro e w1 ⟨ahS, nhS, chS, rfl, hS, h1⟩
     refine hK.out _ _ ?_
     exact ⟨blk, y6, y7, y8, y9, y10, .agg #[.bool (neg X), .slice ahM nhM chM], y12, y13, y14, y15, y16, .agg #[.bool (neg Y), .slice ahN nhN chN], .agg #[.bool (neg (X + Y)), .slice ahS nhS chS], y5, by simp only [puts, Act.put, lsA, lsZ, lsS], below_later hb h1, hX.past h1 12 rfl, uo f0 rfl, uo f1 rfl, uo f2 rfl, uo f3 rfl, fun h => (f4.out (upd_of rfl h)).past h1, fun h => (f5.out (upd_of rfl h)).past h1, uo f6 rfl, uo f7 rfl, uo f8 rfl, uo f9 rfl, fun h => (f10.out (upd_of rfl h)).past h1, fun h => (f11.out (upd_of rfl h)).past h1, fun _ => ⟨_, _, _, rfl, hS.mono hb.size⟩, uo f13 rfl, fun h => absurd (HoldsV.vp (f14.out (upd_of rfl h))) (by rw [hun]; decide), trivial⟩
   · intro dd aa ww K hc hun hn hI hK
     obtain ⟨blk, y6, y7, y8, y9, y10, y11, y12, y13, y14, y15, y16, y17, y18, y5, ea, hb, hX, f0, f1, f2, f3, f4, f5, f6, f7, f8, f9, f10, f11, f12, f13, f14, _⟩ := hI
     try simp [Region.binds] at hn
     subst ea
     simp only [puts, Act.put, lsA, lsZ, lsS]
     go_simp
     refine hK.out _ _ ?_
     exact ⟨setB blk 13 ww.heap.size, y6, y7, y8, y9, y10, y11, y12, y13, y14, y15, y16, y17, y18, .pointer (some ⟨ww.heap.size, 0, none⟩), by simp only [puts, Act.put, lsA, lsZ, lsS], below_alloc hb _, hX.new hb.size 13 #[.bool false, .slice none 0 0] _ rfl (by simp [notU_bool, notU_slice, notU_i64]), uo f0 rfl, uo f1 rfl, uo f2 rfl, uo f3 rfl, fun h => (f4.out (upd_of rfl h)).past ((Below.refl _ _).alloc (Nat.le_refl _) _), fun h => (f5.out (upd_of rfl h)).past ((Below.refl _ _).alloc (Nat.le_refl _) _), uo f6 rfl, uo f7 rfl, uo f8 rfl, uo f9 rfl, fun h => (f10.out (upd_of rfl h)).past ((Below.refl _ _).alloc (Nat.le_refl _) _), fun h => (f11.out (upd_of rfl h)).past ((Below.refl _ _).alloc (Nat.le_refl _) _), fun h => (f12.out (upd_of rfl h)).past ((Below.refl _ _).alloc (Nat.le_refl _) _), fun _ => rfl, fun h => absurd (HoldsV.up (f14.out (upd_of rfl h))) (by rw [hun]; decide), trivial⟩
   · intro dd aa ww K hc hun hn hI hK
     obtain ⟨blk, y6, y7, y8, y9, y10, y11, y12, y13, y14, y15, y16, y17, y18, y5, ea, hb, hX, f0, f1, f2, f3, f4, f5, f6, f7, f8, f9, f10, f11, f12, f13, f14, _⟩ := hI
     try simp [Region.binds] at hn
     have ex := f13.out (by first | (simp [hn]; done) | exact rc hc hn | exact rc hc hn.1 | exact rc hc hn.2 | exact rc hc hn.2.1 | exact rc hc hn.2.2)
     subst ex
     obtain ⟨ahS, nhS, chS, ex, hS⟩ := f12.out (by first | (simp [hn]; done) | exact rc hc hn | exact rc hc hn.1 | exact rc hc hn.2 | exact rc hc hn.2.1 | exact rc hc hn.2.2)
     subst ex
     have hd13 : dd 13 = true := by simp [hn]
     have hv12 : dd 12 = true := by simp [hn]
     obtain ⟨x1, x2, x3⟩ := hX.at_ (13, 2) (by simp) hd13
     obtain ⟨v0, v1, z0, z1, z2, z3, _, _⟩ := x3.two
     have hv : ∀ v ∈ ([.bool (neg (X + Y)), .slice ahS nhS chS] : List Value), notU v := by simp [notU_bool, notU_slice, notU_i64]
     subst ea
     simp only [puts, Act.put, lsA, lsZ, lsS]
     go_simp
     refine hK.out _ _ ?_
     exact ⟨blk, y6, y7, y8, y9, y10, y11, y12, y13, y14, y15, y16, y17, .agg #[.bool (neg (X + Y)), .slice ahS nhS chS], .pointer (some ⟨blk 13, 0, none⟩), by simp only [puts, Act.put, lsA, lsZ, lsS], hb.trans (below_setCells _ _ x1 [.bool (neg (X + Y)), .slice ahS nhS chS] 0 _), (hX.sets [.bool (neg (X + Y)), .slice ahS nhS chS] _ 0 _ hv).same 14 rfl, uo f0 rfl, uo f1 rfl, uo f2 rfl, uo f3 rfl, fun h => ((f4.out (upd_of rfl h)).sets [.bool (neg (X + Y)), .slice ahS nhS chS] x3 (by simp) hv), fun h => ((f5.out (upd_of rfl h)).sets [.bool (neg (X + Y)), .slice ahS nhS chS] x3 (by simp) hv), uo f6 rfl, uo f7 rfl, uo f8 rfl, uo f9 rfl, fun h => ((f10.out (upd_of rfl h)).sets [.bool (neg (X + Y)), .slice ahS nhS chS] x3 (by simp) hv), fun h => ((f11.out (upd_of rfl h)).sets [.bool (neg (X + Y)), .slice ahS nhS chS] x3 (by simp) hv), fun h => ((f12.out (upd_of rfl h)).sets [.bool (neg (X + Y)), .slice ahS nhS chS] x3 (by simp) hv), fun h => rfl, fun _ => (HoldsV.new hd13 hv12 x2 x3 [.bool (neg (X + Y)), .slice ahS nhS chS] (by simp)).same 14, trivial⟩
 intro dd aa w4 hd hI
 obtain ⟨blk, y6, y7, y8, y9, y10, y11, y12, y13, y14, y15, y16, y17, y18, y5, ea, hb, hX, f0, f1, f2, f3, f4, f5, f6, f7, f8, f9, f10, f11, f12, f13, f14, _⟩ := hI
 have ex := f0.out (hd 0 (by simp))
 subst ex
 have ex := f1.out (hd 1 (by simp))
 subst ex
 have ex := f2.out (hd 2 (by simp))
 subst ex
 have ex := f3.out (hd 3 (by simp))
 subst ex
 obtain ⟨ahQ, nhQ, chQ, ex, hQ⟩ := f4.out (hd 4 (by simp))
 subst ex
 obtain ⟨ahM, nhM, chM, ex, hM⟩ := f5.out (hd 5 (by simp))
 subst ex
 have ex := f6.out (hd 6 (by simp))
 subst ex
 have ex := f7.out (hd 7 (by simp))
 subst ex
 have ex := f8.out (hd 8 (by simp))
 subst ex
 have ex := f9.out (hd 9 (by simp))
 subst ex
 obtain ⟨ahP, nhP, chP, ex, hP⟩ := f10.out (hd 10 (by simp))
 subst ex
 obtain ⟨ahN, nhN, chN, ex, hN⟩ := f11.out (hd 11 (by simp))
 subst ex
 obtain ⟨ahS, nhS, chS, ex, hS⟩ := f12.out (hd 12 (by simp))
 subst ex
 have ex := f13.out (hd 13 (by simp))
 subst ex
 obtain ⟨vs14, e, h14⟩ := f14.out (hd 14 (by simp))
 cases e
 have ls := h14.lt
 have qs0 := h14.at_ 0 (by simp)
 simp only [lgZ, lgS] at qs0
 have qs1 := h14.at_ 1 (by simp)
 simp only [lgZ, lgS] at qs1
 have usr : w.heap.size + 1 + 1 < blk 13 := Nat.lt_of_lt_of_le lr (hX.at_ (13, 2) (by simp) (hd 13 (by simp))).1
 generalize blk 13 = Bs at *
 subst ea
 simp only [puts, Act.put, lsA, lsZ, lsS]
 have hQ := hQ.mono szW
 have hM := hM.mono szW
 have hP := hP.mono szW
 have hN := hN.mono szW
 have hS := hS.mono szW
 have g1 := g1.past hb
 have g2 := g2.past hb
 have g3 := g3.past hb
 have g4 := g4.past hb
 obtain ⟨qx0, qx1, qx2, lx⟩ := bq3 hb lx qx0 qx1 qx2
 obtain ⟨qy0, qy1, qy2, ly⟩ := bq3 hb ly qy0 qy1 qy2
 have xr := xr.past hb lr
 obtain ⟨qr0, qr1, qr2, lr⟩ := bq3 hb lr qr0 qr1 qr2
 have hB := below_later hB hb
 clear hX
 clear hb hd
 go_wp2_with fail
 have szW := hB.size
 refine wp_region_inv (by kernel_rfl) rfl (by kernel_rfl) (fun A0 V0 dd aa ww => ∃ (y19 y20 y21 y22 y23 y24 y25 : Value), aa = puts A0 [(19, y19), (20, y20), (21, y21), (22, y22), (23, y23), (24, y24), (25, y25)] ∧ Below (w).heap.size (w) ww ∧ V0.heap.size ≤ ww.heap.size ∧ NatAt ww a1 n1 c1 (digs p.num.natAbs) ∧ NatAt ww a2 n2 c2 (digs p.den) ∧ NatAt ww a3 n3 c3 (digs q.num.natAbs) ∧ NatAt ww a4 n4 c4 (digs q.den) ∧ OwnAt ww w.heap.size ahS nhS chS (digs (X + Y).natAbs) ∧ Cells ww (w.heap.size) [.bool (neg p.num), .slice a1 n1 c1, .slice a2 n2 c2] ∧ Cells ww (w.heap.size + 1) [.bool (neg q.num), .slice a3 n3 c3, .slice a4 n4 c4] ∧ Cells ww (Bs) [.bool (neg (X + Y)), .slice ahS nhS chS] ∧ BoxAt ww (w.heap.size + 1 + 1) 3 ∧ Shut (dd 7 = false → Cells ww (w.heap.size + 1 + 1) [.bool false, .slice none 0 0, .slice none 0 0]) ∧ Shut (dd 0 = true → y19 = .agg #[.bool (neg (X + Y)), .slice ahS nhS chS]) ∧ Shut (dd 1 = true → y20 = .pointer (some ⟨w.heap.size, 2, none⟩)) ∧ Shut (dd 2 = true → y21 = .slice a2 n2 c2) ∧ Shut (dd 3 = true → y22 = .pointer (some ⟨w.heap.size + 1, 2, none⟩)) ∧ Shut (dd 4 = true → y23 = .slice a4 n4 c4) ∧ Shut (dd 5 = true → NatV V0.heap.size (digs (p.den * q.den)) y24 ww) ∧ Shut (dd 6 = true → RatV V0.heap.size (R) y25 ww) ∧ Shut (dd 7 = true → CellsV (w.heap.size + 1 + 1) y25 ww) ∧ True) ?_ ?_ ?_
 · exact ⟨_, _, _, _, _, _, _, puts_self _ [19, 20, 21, 22, 23, 24, 25], hB.drew, Nat.le_refl _, g1.drew, g2.drew, g3.drew, g4.drew, hS.drew, (by intro k hk; simp at hk; rcases (by omega : k = 0 ∨ k = 1 ∨ k = 2) with rfl | rfl | rfl <;> assumption), (by intro k hk; simp at hk; rcases (by omega : k = 0 ∨ k = 1 ∨ k = 2) with rfl | rfl | rfl <;> assumption), (by intro k hk; simp at hk; rcases (by omega : k = 0 ∨ k = 1) with rfl | rfl <;> assumption), xr.drew, (fun _ => by intro k hk; simp at hk; rcases (by omega : k = 0 ∨ k = 1 ∨ k = 2) with rfl | rfl | rfl <;> assumption), fun h => (by cases h), fun h => (by cases h), fun h => (by cases h), fun h => (by cases h), fun h => (by cases h), fun h => (by cases h), fun h => (by cases h), fun h => (by cases h), trivial⟩
 · refine Steps.cons ?_ (Steps.cons ?_ (Steps.cons ?_ (Steps.cons ?_ (Steps.cons ?_ (Steps.cons ?_ (Steps.cons ?_ (Steps.cons ?_ (Steps.nil))))))))
   · intro dd aa ww K hc hun hn hI hK
     obtain ⟨y19, y20, y21, y22, y23, y24, y25, ea, hb, hsz, vg1, vg2, vg3, vg4, vhS, cx, cy, cs, xr, pr, f0, f1, f2, f3, f4, f5, f6, f7, _⟩ := hI
     try simp [Region.binds] at hn
     have e0 := cs 0 (by simp)
     simp only [lgZ, lgS] at e0
     have e1 := cs 1 (by simp)
     simp only [lgZ, lgS] at e1
     subst ea
     simp only [puts, Act.put, lsA, lsZ, lsS]
     go_simp
     refine hK.out _ _ ?_
     exact ⟨.agg #[.bool (neg (X + Y)), .slice ahS nhS chS], y20, y21, y22, y23, y24, y25, by simp only [puts, Act.put, lsA, lsZ, lsS], hb, hsz, vg1, vg2, vg3, vg4, vhS, cx, cy, cs, xr, fun h => (pr.out (upd_off h)), fun _ => rfl, uo f1 rfl, uo f2 rfl, uo f3 rfl, uo f4 rfl, uo f5 rfl, uo f6 rfl, uo f7 rfl, trivial⟩
   · intro dd aa ww K hc hun hn hI hK
     obtain ⟨y19, y20, y21, y22, y23, y24, y25, ea, hb, hsz, vg1, vg2, vg3, vg4, vhS, cx, cy, cs, xr, pr, f0, f1, f2, f3, f4, f5, f6, f7, _⟩ := hI
     try simp [Region.binds] at hn
     subst ea
     simp only [puts, Act.put, lsA, lsZ, lsS]
     go_simp
     refine hK.out _ _ ?_
     exact ⟨y19, .pointer (some ⟨w.heap.size, 2, none⟩), y21, y22, y23, y24, y25, by simp only [puts, Act.put, lsA, lsZ, lsS], hb, hsz, vg1, vg2, vg3, vg4, vhS, cx, cy, cs, xr, fun h => (pr.out (upd_off h)), uo f0 rfl, fun _ => rfl, uo f2 rfl, uo f3 rfl, uo f4 rfl, uo f5 rfl, uo f6 rfl, uo f7 rfl, trivial⟩
   · intro dd aa ww K hc hun hn hI hK
     obtain ⟨y19, y20, y21, y22, y23, y24, y25, ea, hb, hsz, vg1, vg2, vg3, vg4, vhS, cx, cy, cs, xr, pr, f0, f1, f2, f3, f4, f5, f6, f7, _⟩ := hI
     try simp [Region.binds] at hn
     have ex := f1.out (by first | (simp [hn]; done) | exact rc hc hn | exact rc hc hn.1 | exact rc hc hn.2 | exact rc hc hn.2.1 | exact rc hc hn.2.2)
     subst ex
     have e2 := cx 2 (by simp)
     simp only [lgZ, lgS] at e2
     subst ea
     simp only [puts, Act.put, lsA, lsZ, lsS]
     go_simp
     refine hK.out _ _ ?_
     exact ⟨y19, .pointer (some ⟨w.heap.size, 2, none⟩), .slice a2 n2 c2, y22, y23, y24, y25, by simp only [puts, Act.put, lsA, lsZ, lsS], hb, hsz, vg1, vg2, vg3, vg4, vhS, cx, cy, cs, xr, fun h => (pr.out (upd_off h)), uo f0 rfl, fun h => rfl, fun _ => rfl, uo f3 rfl, uo f4 rfl, uo f5 rfl, uo f6 rfl, uo f7 rfl, trivial⟩
   · intro dd aa ww K hc hun hn hI hK
     obtain ⟨y19, y20, y21, y22, y23, y24, y25, ea, hb, hsz, vg1, vg2, vg3, vg4, vhS, cx, cy, cs, xr, pr, f0, f1, f2, f3, f4, f5, f6, f7, _⟩ := hI
     try simp [Region.binds] at hn
     subst ea
     simp only [puts, Act.put, lsA, lsZ, lsS]
     go_simp
     refine hK.out _ _ ?_
     exact ⟨y19, y20, y21, .pointer (some ⟨w.heap.size + 1, 2, none⟩), y23, y24, y25, by simp only [puts, Act.put, lsA, lsZ, lsS], hb, hsz, vg1, vg2, vg3, vg4, vhS, cx, cy, cs, xr, fun h => (pr.out (upd_off h)), uo f0 rfl, uo f1 rfl, uo f2 rfl, fun _ => rfl, uo f4 rfl, uo f5 rfl, uo f6 rfl, uo f7 rfl, trivial⟩
   · intro dd aa ww K hc hun hn hI hK
     obtain ⟨y19, y20, y21, y22, y23, y24, y25, ea, hb, hsz, vg1, vg2, vg3, vg4, vhS, cx, cy, cs, xr, pr, f0, f1, f2, f3, f4, f5, f6, f7, _⟩ := hI
     try simp [Region.binds] at hn
     have ex := f3.out (by first | (simp [hn]; done) | exact rc hc hn | exact rc hc hn.1 | exact rc hc hn.2 | exact rc hc hn.2.1 | exact rc hc hn.2.2)
     subst ex
     have e2 := cy 2 (by simp)
     simp only [lgZ, lgS] at e2
     subst ea
     simp only [puts, Act.put, lsA, lsZ, lsS]
     go_simp
     refine hK.out _ _ ?_
     exact ⟨y19, y20, y21, .pointer (some ⟨w.heap.size + 1, 2, none⟩), .slice a4 n4 c4, y24, y25, by simp only [puts, Act.put, lsA, lsZ, lsS], hb, hsz, vg1, vg2, vg3, vg4, vhS, cx, cy, cs, xr, fun h => (pr.out (upd_off h)), uo f0 rfl, uo f1 rfl, uo f2 rfl, fun h => rfl, fun _ => rfl, uo f5 rfl, uo f6 rfl, uo f7 rfl, trivial⟩
   · intro dd aa ww K hc hun hn hI hK
     obtain ⟨y19, y20, y21, y22, y23, y24, y25, ea, hb, hsz, vg1, vg2, vg3, vg4, vhS, cx, cy, cs, xr, pr, f0, f1, f2, f3, f4, f5, f6, f7, _⟩ := hI
     try simp [Region.binds] at hn
     have ex := f2.out (by first | (simp [hn]; done) | exact rc hc hn | exact rc hc hn.1 | exact rc hc hn.2 | exact rc hc hn.2.1 | exact rc hc hn.2.2)
     subst ex
     have ex := f4.out (by first | (simp [hn]; done) | exact rc hc hn | exact rc hc hn.1 | exact rc hc hn.2 | exact rc hc hn.2.1 | exact rc hc hn.2.2)
     subst ex
     subst ea
     simp only [puts, Act.put, lsA, lsZ, lsS]
     go_simp
     with_reducible refine (rmul_any _ _ _ (digs p.den) _ _ _ (digs q.den) _ vg2 vg4 (by omega) (by omega)).mono ?_
     rintro e w1 ⟨ahD, nhD, chD, rfl, hD, h1⟩
     rw [E5.out] at hD
     refine hK.out _ _ ?_
     exact ⟨y19, y20, .slice a2 n2 c2, y22, .slice a4 n4 c4, .slice ahD nhD chD, y25, by simp only [puts, Act.put, lsA, lsZ, lsS], below_later hb h1, Nat.le_trans hsz h1.size, vg1.past h1, vg2.past h1, vg3.past h1, vg4.past h1, vhS.past h1, cx.past h1 (Nat.lt_of_lt_of_le lx hsz), cy.past h1 (Nat.lt_of_lt_of_le ly hsz), cs.past h1 (Nat.lt_of_lt_of_le ls hsz), xr.past h1 (Nat.lt_of_lt_of_le lr hsz), fun h => (pr.out (upd_off h)).past h1 (Nat.lt_of_lt_of_le lr hsz), uo f0 rfl, uo f1 rfl, fun h => rfl, uo f3 rfl, fun h => rfl, fun _ => ⟨_, _, _, rfl, hD.mono hsz⟩, fun h => (f6.out (upd_of rfl h)).past h1, fun h => (f7.out (upd_of rfl h)).past h1 (Nat.lt_of_lt_of_le lr hsz), trivial⟩
   · intro dd aa ww K hc hun hn hI hK
     obtain ⟨y19, y20, y21, y22, y23, y24, y25, ea, hb, hsz, vg1, vg2, vg3, vg4, vhS, cx, cy, cs, xr, pr, f0, f1, f2, f3, f4, f5, f6, f7, _⟩ := hI
     try simp [Region.binds] at hn
     have ex := f0.out (by first | (simp [hn]; done) | exact rc hc hn | exact rc hc hn.1 | exact rc hc hn.2 | exact rc hc hn.2.1 | exact rc hc hn.2.2)
     subst ex
     obtain ⟨ahD, nhD, chD, ex, hD⟩ := f5.out (by first | (simp [hn]; done) | exact rc hc hn | exact rc hc hn.1 | exact rc hc hn.2 | exact rc hc hn.2.1 | exact rc hc hn.2.2)
     subst ex
     subst ea
     simp only [puts, Act.put, lsA, lsZ, lsS]
     go_simp
     with_reducible refine (rlowest_any (neg (X + Y)) _ _ _ (digs (X + Y).natAbs) _ _ _ (digs (p.den * q.den)) _ vhS.toNatAt hD.toNatAt (by have := hS.len; have := LZ.out; omega) (by have := hD.len; have := L5.out; omega) Z5.out).mono ?_
     rintro e w1 ⟨ahRU, nhRU, chRU, ahRD, nhRD, chRD, rfl, hRU, hRD, h1⟩
     rw [E6.out] at hRU hRD ⊢
     refine hK.out _ _ ?_
     exact ⟨.agg #[.bool (neg (X + Y)), .slice ahS nhS chS], y20, y21, y22, y23, .slice ahD nhD chD, .agg #[.bool (neg (R).num), .slice ahRU nhRU chRU, .slice ahRD nhRD chRD], by simp only [puts, Act.put, lsA, lsZ, lsS], below_later hb h1, Nat.le_trans hsz h1.size, vg1.past h1, vg2.past h1, vg3.past h1, vg4.past h1, vhS.past h1, cx.past h1 (Nat.lt_of_lt_of_le lx hsz), cy.past h1 (Nat.lt_of_lt_of_le ly hsz), cs.past h1 (Nat.lt_of_lt_of_le ls hsz), xr.past h1 (Nat.lt_of_lt_of_le lr hsz), fun h => (pr.out (upd_off h)).past h1 (Nat.lt_of_lt_of_le lr hsz), fun h => rfl, uo f1 rfl, uo f2 rfl, uo f3 rfl, uo f4 rfl, fun h => (f5.out (upd_of rfl h)).past h1, fun _ => ⟨_, _, _, _, _, _, rfl, hRU.mono hsz, hRD.mono hsz⟩, fun h => absurd (hc.reach (f := 8) (s := 7) (l := 6) (by kernel_rfl) (upd_of rfl h)) (by rw [hun]; decide), trivial⟩
   · intro dd aa ww K hc hun hn hI hK
     obtain ⟨y19, y20, y21, y22, y23, y24, y25, ea, hb, hsz, vg1, vg2, vg3, vg4, vhS, cx, cy, cs, xr, pr, f0, f1, f2, f3, f4, f5, f6, f7, _⟩ := hI
     try simp [Region.binds] at hn
     obtain ⟨ahRU, nhRU, chRU, ahRD, nhRD, chRD, ex, hRU, hRD⟩ := f6.out (by first | (simp [hn]; done) | exact rc hc hn | exact rc hc hn.1 | exact rc hc hn.2 | exact rc hc hn.2.1 | exact rc hc hn.2.2)
     subst ex
     have x3 := xr
     obtain ⟨v0, v1, v2, z0, z1, z2, z3, z4, z5, _, _, _⟩ := x3.three
     have hv : ∀ v ∈ ([.bool (neg (R).num), .slice ahRU nhRU chRU, .slice ahRD nhRD chRD] : List Value), notU v := by simp [notU_bool, notU_slice, notU_i64]
     subst ea
     simp only [puts, Act.put, lsA, lsZ, lsS]
     go_simp
     refine hK.out _ _ ?_
     exact ⟨y19, y20, y21, y22, y23, y24, .agg #[.bool (neg (R).num), .slice ahRU nhRU chRU, .slice ahRD nhRD chRD], by simp only [puts, Act.put, lsA, lsZ, lsS], hb.trans (below_setCells _ _ (by omega) [.bool (neg (R).num), .slice ahRU nhRU chRU, .slice ahRD nhRD chRD] 0 _), (by simpa using hsz), NatAt.sets [.bool (neg (R).num), .slice ahRU nhRU chRU, .slice ahRD nhRD chRD] 0 _ vg1 x3 (by simp) hv, NatAt.sets [.bool (neg (R).num), .slice ahRU nhRU chRU, .slice ahRD nhRD chRD] 0 _ vg2 x3 (by simp) hv, NatAt.sets [.bool (neg (R).num), .slice ahRU nhRU chRU, .slice ahRD nhRD chRD] 0 _ vg3 x3 (by simp) hv, NatAt.sets [.bool (neg (R).num), .slice ahRU nhRU chRU, .slice ahRD nhRD chRD] 0 _ vg4 x3 (by simp) hv, OwnAt.sets [.bool (neg (R).num), .slice ahRU nhRU chRU, .slice ahRD nhRD chRD] 0 _ vhS x3 (by simp) hv, Cells.sets (by omega) [.bool (neg (R).num), .slice ahRU nhRU chRU, .slice ahRD nhRD chRD] 0 _ cx, Cells.sets (by omega) [.bool (neg (R).num), .slice ahRU nhRU chRU, .slice ahRD nhRD chRD] 0 _ cy, Cells.sets (by omega) [.bool (neg (R).num), .slice ahRU nhRU chRU, .slice ahRD nhRD chRD] 0 _ cs, BoxAt.sets [.bool (neg (R).num), .slice ahRU nhRU chRU, .slice ahRD nhRD chRD] _ 0 _ xr hv, fun h => absurd h (by simp [upd]), uo f0 rfl, uo f1 rfl, uo f2 rfl, uo f3 rfl, uo f4 rfl, fun h => ((f5.out (upd_of rfl h)).setsOff lr [.bool (neg (R).num), .slice ahRU nhRU chRU, .slice ahRD nhRD chRD]), fun h => ((f6.out (upd_of rfl h)).setsOff lr [.bool (neg (R).num), .slice ahRU nhRU chRU, .slice ahRD nhRD chRD]), fun _ => ⟨[.bool (neg (R).num), .slice ahRU nhRU chRU, .slice ahRD nhRD chRD], rfl, Cells.new x3 [.bool (neg (R).num), .slice ahRU nhRU chRU, .slice ahRD nhRD chRD] (by simp)⟩, trivial⟩
 intro dd aa w5 hd hI
 obtain ⟨y19, y20, y21, y22, y23, y24, y25, ea, hb, hsz, vg1, vg2, vg3, vg4, vhS, cx, cy, cs, xr, pr, f0, f1, f2, f3, f4, f5, f6, f7, _⟩ := hI
 have ex := f0.out (hd 0 (by simp))
 subst ex
 have ex := f1.out (hd 1 (by simp))
 subst ex
 have ex := f2.out (hd 2 (by simp))
 subst ex
 have ex := f3.out (hd 3 (by simp))
 subst ex
 have ex := f4.out (hd 4 (by simp))
 subst ex
 obtain ⟨ahD, nhD, chD, ex, hD⟩ := f5.out (hd 5 (by simp))
 subst ex
 obtain ⟨ahRU, nhRU, chRU, ahRD, nhRD, chRD, ex, hRU, hRD⟩ := f6.out (hd 6 (by simp))
 subst ex
 obtain ⟨vs7, e, h7⟩ := f7.out (hd 7 (by simp))
 cases e
 have lr := Nat.lt_of_lt_of_le lr hsz
 have qr0 := h7 0 (by simp)
 simp only [lgZ, lgS] at qr0
 have qr1 := h7 1 (by simp)
 simp only [lgZ, lgS] at qr1
 have qr2 := h7 2 (by simp)
 simp only [lgZ, lgS] at qr2
 subst ea
 simp only [puts, Act.put, lsA, lsZ, lsS]
 have hD := hD.mono szW
 have hRU := hRU.mono szW
 have hRD := hRD.mono szW
 have g1 := vg1
 have g2 := vg2
 have g3 := vg3
 have g4 := vg4
 have hS := vhS
 have lx := Nat.lt_of_lt_of_le lx hsz
 have qx0 := cx 0 (by simp)
 simp only [lgZ, lgS] at qx0
 have qx1 := cx 1 (by simp)
 simp only [lgZ, lgS] at qx1
 have qx2 := cx 2 (by simp)
 simp only [lgZ, lgS] at qx2
 clear cx
 have ly := Nat.lt_of_lt_of_le ly hsz
 have qy0 := cy 0 (by simp)
 simp only [lgZ, lgS] at qy0
 have qy1 := cy 1 (by simp)
 simp only [lgZ, lgS] at qy1
 have qy2 := cy 2 (by simp)
 simp only [lgZ, lgS] at qy2
 clear cy
 have ls := Nat.lt_of_lt_of_le ls hsz
 have qs0 := cs 0 (by simp)
 simp only [lgZ, lgS] at qs0
 have qs1 := cs 1 (by simp)
 simp only [lgZ, lgS] at qs1
 clear cs
 have hB := hb
 clear pr
 clear hb hd
 go_wp2
 refine bodyPost_ret (v := .agg #[.bool (neg R.num), .slice ahRU nhRU chRU, .slice ahRD nhRD chRD]) ?_ rfl ⟨_, _, _, _, _, _, rfl, hRU, hRD, hB⟩
 simp [results, Tryz.f93, go_sem, qr0, qr1, qr2]
set_option maxRecDepth 100000 in
set_option maxHeartbeats 8000000 in
theorem rproduct05_rat (p q : Rat) (a1 : Option Addr) (n1 c1 : Nat) (a2 : Option Addr) (n2 c2 : Nat) (a3 : Option Addr) (n3 c3 : Nat) (a4 : Option Addr) (n4 c4 : Nat) (w : World) (g1 : NatAt w a1 n1 c1 (digs p.num.natAbs)) (g2 : NatAt w a2 n2 c2 (digs p.den)) (g3 : NatAt w a3 n3 c3 (digs q.num.natAbs)) (g4 : NatAt w a4 n4 c4 (digs q.den)) (hp : rlen p ≤ 40000) (hq : rlen q ≤ 40000) :
 Calls Tryz.prog 106 #[.agg #[.bool (neg p.num), .slice a1 n1 c1, .slice a2 n2 c2], .agg #[.bool (neg q.num), .slice a3 n3 c3, .slice a4 n4 c4]] w (RetRat w (p * q)) := by
 have b1 : n1 ≤ 40000 := by unfold rlen at hp; have := g1.len; omega
 have b2 : n2 ≤ 40000 := by unfold rlen at hp; have := g2.len; omega
 have b3 : n3 ≤ 40000 := by unfold rlen at hq; have := g3.len; omega
 have b4 : n4 ≤ 40000 := by unfold rlen at hq; have := g4.len; omega
 obtain ⟨X, hX⟩ : ∃ X, p.num * q.num = X := ⟨_, rfl⟩
 have lX : (digs X.natAbs).length ≤ 80000 := by
  rw [← hX, Int.natAbs_mul]
  have := g1.len; have := g3.len; have := digs_len_prod p.num.natAbs q.num.natAbs; omega
 have l5 : (digs (p.den * q.den)).length ≤ 80000 := by
  have := g2.len; have := g4.len; have := digs_len_prod p.den q.den; omega
 have e5 : val (digs p.den) * val (digs q.den) = p.den * q.den := by rw [val_digs, val_digs]
 have z5 : val (digs (p.den * q.den)) ≠ 0 := by rw [val_digs]; exact Nat.mul_ne_zero p.den_nz q.den_nz
 have e6 : mkRat (sg (neg X) (val (digs X.natAbs))) (val (digs (p.den * q.den))) = p * q := by
  rw [sg_canon, val_digs, ← hX, rat_prod]
 obtain ⟨R, hR⟩ : ∃ R, p * q = R := ⟨_, rfl⟩
 rw [hR] at e6 ⊢
 have HX := Lib.hid hX
 have LX := Lib.hid lX
 have L5 := Lib.hid l5
 have E5 := Lib.hid e5
 have E6 := Lib.hid e6
 have Z5 := Lib.hid z5
 clear hX lX l5 e5 e6 z5 hR hp hq
 go_enter Tryz.func106, Tryz.ntmps106
 have hB := Below.refl w.heap.size w
 go_wp2_with fail
 obtain ⟨w1, hW, hz0, hb, q, f⟩ := box1g w (w.heap.size) (by omega) #[.bool (neg p.num), .slice a1 n1 c1, .slice a2 n2 c2] 27
 rw [hW]
 clear hW
 have g1 := g1.past hb
 have g2 := g2.past hb
 have g3 := g3.past hb
 have g4 := g4.past hb
 have hB := below_later hB hb
 clear hb
 have lx : w.heap.size < w1.heap.size := by omega
 have qx0 := q 0; have qx1 := q 1; have qx2 := q 2
 simp only [lgA, lgZ, lgS] at qx0 qx1 qx2
 clear q f
 obtain ⟨w2, hW, hz1, hb, q, f⟩ := box1g w1 (w.heap.size + 1) (by omega) #[.bool (neg q.num), .slice a3 n3 c3, .slice a4 n4 c4] 27
 rw [hW]
 clear hW
 have g1 := g1.past hb
 have g2 := g2.past hb
 have g3 := g3.past hb
 have g4 := g4.past hb
 obtain ⟨qx0, qx1, qx2, lx⟩ := bq3 hb lx qx0 qx1 qx2
 have hB := below_later hB hb
 clear hb
 have ly : w.heap.size + 1 < w2.heap.size := by omega
 have qy0 := q 0; have qy1 := q 1; have qy2 := q 2
 simp only [lgA, lgZ, lgS] at qy0 qy1 qy2
 clear q f
 obtain ⟨w3, hW, hz2, hb, q, f⟩ := box1g w2 (w.heap.size + 1 + 1) (by omega) #[.bool false, .slice none 0 0, .slice none 0 0] 27
 rw [hW]
 clear hW
 have g1 := g1.past hb
 have g2 := g2.past hb
 have g3 := g3.past hb
 have g4 := g4.past hb
 obtain ⟨qx0, qx1, qx2, lx⟩ := bq3 hb lx qx0 qx1 qx2
 obtain ⟨qy0, qy1, qy2, ly⟩ := bq3 hb ly qy0 qy1 qy2
 have hB := below_later hB hb
 clear hb
 have lr : w.heap.size + 1 + 1 < w3.heap.size := by omega
 have qr0 := q 0; have qr1 := q 1; have qr2 := q 2
 simp only [lgA, lgZ, lgS] at qr0 qr1 qr2
 have xr : BoxAt w3 (w.heap.size + 1 + 1) 3 := BoxAt.of q f rfl (by simp [notU_bool, notU_slice, notU_i64])
 clear q f
 clear hz0
 clear hz1
 clear hz2
 have szW := hB.size
 refine wp_region_inv (by kernel_rfl) rfl (by kernel_rfl) (fun A0 V0 dd aa ww => ∃ (y5 y6 y7 y8 y9 y10 y11 y12 y13 y14 y15 : Value), aa = puts A0 [(5, y5), (6, y6), (7, y7), (8, y8), (9, y9), (10, y10), (11, y11), (12, y12), (13, y13), (14, y14), (15, y15)] ∧ Below (w).heap.size (w) ww ∧ V0.heap.size ≤ ww.heap.size ∧ NatAt ww a1 n1 c1 (digs p.num.natAbs) ∧ NatAt ww a2 n2 c2 (digs p.den) ∧ NatAt ww a3 n3 c3 (digs q.num.natAbs) ∧ NatAt ww a4 n4 c4 (digs q.den) ∧ Cells ww (w.heap.size) [.bool (neg p.num), .slice a1 n1 c1, .slice a2 n2 c2] ∧ Cells ww (w.heap.size + 1) [.bool (neg q.num), .slice a3 n3 c3, .slice a4 n4 c4] ∧ BoxAt ww (w.heap.size + 1 + 1) 3 ∧ Shut (dd 11 = false → Cells ww (w.heap.size + 1 + 1) [.bool false, .slice none 0 0, .slice none 0 0]) ∧ Shut (dd 0 = true → y5 = .pointer (some ⟨w.heap.size, 0, none⟩)) ∧ Shut (dd 1 = true → y6 = .agg #[.bool (neg p.num), .slice a1 n1 c1]) ∧ Shut (dd 2 = true → y7 = .pointer (some ⟨w.heap.size + 1, 0, none⟩)) ∧ Shut (dd 3 = true → y8 = .agg #[.bool (neg q.num), .slice a3 n3 c3]) ∧ Shut (dd 4 = true → CopyV V0.heap.size (neg X) (digs X.natAbs) y9 ww) ∧ Shut (dd 5 = true → y10 = .pointer (some ⟨w.heap.size, 2, none⟩)) ∧ Shut (dd 6 = true → y11 = .slice a2 n2 c2) ∧ Shut (dd 7 = true → y12 = .pointer (some ⟨w.heap.size + 1, 2, none⟩)) ∧ Shut (dd 8 = true → y13 = .slice a4 n4 c4) ∧ Shut (dd 9 = true → NatV V0.heap.size (digs (p.den * q.den)) y14 ww) ∧ Shut (dd 10 = true → RatV V0.heap.size (R) y15 ww) ∧ Shut (dd 11 = true → CellsV (w.heap.size + 1 + 1) y15 ww) ∧ True) ?_ ?_ ?_
 · exact ⟨_, _, _, _, _, _, _, _, _, _, _, puts_self _ [5, 6, 7, 8, 9, 10, 11, 12, 13, 14, 15], hB.drew, Nat.le_refl _, g1.drew, g2.drew, g3.drew, g4.drew, (by intro k hk; simp at hk; rcases (by omega : k = 0 ∨ k = 1 ∨ k = 2) with rfl | rfl | rfl <;> assumption), (by intro k hk; simp at hk; rcases (by omega : k = 0 ∨ k = 1 ∨ k = 2) with rfl | rfl | rfl <;> assumption), xr.drew, (fun _ => by intro k hk; simp at hk; rcases (by omega : k = 0 ∨ k = 1 ∨ k = 2) with rfl | rfl | rfl <;> assumption), fun h => (by cases h), fun h => (by cases h), fun h => (by cases h), fun h => (by cases h), fun h => (by cases h), fun h => (by cases h), fun h => (by cases h), fun h => (by cases h), fun h => (by cases h), fun h => (by cases h), fun h => (by cases h), fun h => (by cases h), trivial⟩
 · refine Steps.cons ?_ (Steps.cons ?_ (Steps.cons ?_ (Steps.cons ?_ (Steps.cons ?_ (Steps.cons ?_ (Steps.cons ?_ (Steps.cons ?_ (Steps.cons ?_ (Steps.cons ?_ (Steps.cons ?_ (Steps.cons ?_ (Steps.nil))))))))))))
   · intro dd aa ww K hc hun hn hI hK
     obtain ⟨y5, y6, y7, y8, y9, y10, y11, y12, y13, y14, y15, ea, hb, hsz, vg1, vg2, vg3, vg4, cx, cy, xr, pr, f0, f1, f2, f3, f4, f5, f6, f7, f8, f9, f10, f11, _⟩ := hI
     try simp [Region.binds] at hn
     subst ea
     simp only [puts, Act.put, lsA, lsZ, lsS]
     go_simp
     refine hK.out _ _ ?_
     exact ⟨.pointer (some ⟨w.heap.size, 0, none⟩), y6, y7, y8, y9, y10, y11, y12, y13, y14, y15, by simp only [puts, Act.put, lsA, lsZ, lsS], hb, hsz, vg1, vg2, vg3, vg4, cx, cy, xr, fun h => (pr.out (upd_off h)), fun _ => rfl, uo f1 rfl, uo f2 rfl, uo f3 rfl, uo f4 rfl, uo f5 rfl, uo f6 rfl, uo f7 rfl, uo f8 rfl, uo f9 rfl, uo f10 rfl, uo f11 rfl, trivial⟩
   · intro dd aa ww K hc hun hn hI hK
     obtain ⟨y5, y6, y7, y8, y9, y10, y11, y12, y13, y14, y15, ea, hb, hsz, vg1, vg2, vg3, vg4, cx, cy, xr, pr, f0, f1, f2, f3, f4, f5, f6, f7, f8, f9, f10, f11, _⟩ := hI
     try simp [Region.binds] at hn
     have ex := f0.out (by first | (simp [hn]; done) | exact rc hc hn | exact rc hc hn.1 | exact rc hc hn.2 | exact rc hc hn.2.1 | exact rc hc hn.2.2)
     subst ex
     have e0 := cx 0 (by simp)
     simp only [lgZ, lgS] at e0
     have e1 := cx 1 (by simp)
     simp only [lgZ, lgS] at e1
     subst ea
     simp only [puts, Act.put, lsA, lsZ, lsS]
     go_simp
     refine hK.out _ _ ?_
     exact ⟨.pointer (some ⟨w.heap.size, 0, none⟩), .agg #[.bool (neg p.num), .slice a1 n1 c1], y7, y8, y9, y10, y11, y12, y13, y14, y15, by simp only [puts, Act.put, lsA, lsZ, lsS], hb, hsz, vg1, vg2, vg3, vg4, cx, cy, xr, fun h => (pr.out (upd_off h)), fun h => rfl, fun _ => rfl, uo f2 rfl, uo f3 rfl, uo f4 rfl, uo f5 rfl, uo f6 rfl, uo f7 rfl, uo f8 rfl, uo f9 rfl, uo f10 rfl, uo f11 rfl, trivial⟩
   · intro dd aa ww K hc hun hn hI hK
     obtain ⟨y5, y6, y7, y8, y9, y10, y11, y12, y13, y14, y15, ea, hb, hsz, vg1, vg2, vg3, vg4, cx, cy, xr, pr, f0, f1, f2, f3, f4, f5, f6, f7, f8, f9, f10, f11, _⟩ := hI
     try simp [Region.binds] at hn
     subst ea
     simp only [puts, Act.put, lsA, lsZ, lsS]
     go_simp
     refine hK.out _ _ ?_
     exact ⟨y5, y6, .pointer (some ⟨w.heap.size + 1, 0, none⟩), y8, y9, y10, y11, y12, y13, y14, y15, by simp only [puts, Act.put, lsA, lsZ, lsS], hb, hsz, vg1, vg2, vg3, vg4, cx, cy, xr, fun h => (pr.out (upd_off h)), uo f0 rfl, uo f1 rfl, fun _ => rfl, uo f3 rfl, uo f4 rfl, uo f5 rfl, uo f6 rfl, uo f7 rfl, uo f8 rfl, uo f9 rfl, uo f10 rfl, uo f11 rfl, trivial⟩
   · intro dd aa ww K hc hun hn hI hK
     obtain ⟨y5, y6, y7, y8, y9, y10, y11, y12, y13, y14, y15, ea, hb, hsz, vg1, vg2, vg3, vg4, cx, cy, xr, pr, f0, f1, f2, f3, f4, f5, f6, f7, f8, f9, f10, f11, _⟩ := hI
     try simp [Region.binds] at hn
     have ex := f2.out (by first | (simp [hn]; done) | exact rc hc hn | exact rc hc hn.1 | exact rc hc hn.2 | exact rc hc hn.2.1 | exact rc hc hn.2.2)
     subst ex
     have e0 := cy 0 (by simp)
     simp only [lgZ, lgS] at e0
     have e1 := cy 1 (by simp)
     simp only [lgZ, lgS] at e1
     subst ea
     simp only [puts, Act.put, lsA, lsZ, lsS]
     go_simp
     refine hK.out _ _ ?_
     exact ⟨y5, y6, .pointer (some ⟨w.heap.size + 1, 0, none⟩), .agg #[.bool (neg q.num), .slice a3 n3 c3], y9, y10, y11, y12, y13, y14, y15, by simp only [puts, Act.put, lsA, lsZ, lsS], hb, hsz, vg1, vg2, vg3, vg4, cx, cy, xr, fun h => (pr.out (upd_off h)), uo f0 rfl, uo f1 rfl, fun h => rfl, fun _ => rfl, uo f4 rfl, uo f5 rfl, uo f6 rfl, uo f7 rfl, uo f8 rfl, uo f9 rfl, uo f10 rfl, uo f11 rfl, trivial⟩
   · intro dd aa ww K hc hun hn hI hK
     obtain ⟨y5, y6, y7, y8, y9, y10, y11, y12, y13, y14, y15, ea, hb, hsz, vg1, vg2, vg3, vg4, cx, cy, xr, pr, f0, f1, f2, f3, f4, f5, f6, f7, f8, f9, f10, f11, _⟩ := hI
     try simp [Region.binds] at hn
     have ex := f1.out (by first | (simp [hn]; done) | exact rc hc hn | exact rc hc hn.1 | exact rc hc hn.2 | exact rc hc hn.2.1 | exact rc hc hn.2.2)
     subst ex
     have ex := f3.out (by first | (simp [hn]; done) | exact rc hc hn | exact rc hc hn.1 | exact rc hc hn.2 | exact rc hc hn.2.1 | exact rc hc hn.2.2)
     subst ex
     subst ea
     simp only [puts, Act.put, lsA, lsZ, lsS]
     go_simp
     with_reducible refine (rsmul_c vg1 vg3 (by omega) (by omega)).mono ?_
     rintro e w1 ⟨ahM, nhM, chM, rfl, hM, h1⟩
     rw [HX.out] at hM ⊢
     refine hK.out _ _ ?_
     exact ⟨y5, .agg #[.bool (neg p.num), .slice a1 n1 c1], y7, .agg #[.bool (neg q.num), .slice a3 n3 c3], .agg #[.bool (neg X), .slice ahM nhM chM], y10, y11, y12, y13, y14, y15, by simp only [puts, Act.put, lsA, lsZ, lsS], below_later hb h1, Nat.le_trans hsz h1.size, vg1.past h1, vg2.past h1, vg3.past h1, vg4.past h1, cx.past h1 (Nat.lt_of_lt_of_le lx hsz), cy.past h1 (Nat.lt_of_lt_of_le ly hsz), xr.past h1 (Nat.lt_of_lt_of_le lr hsz), fun h => (pr.out (upd_off h)).past h1 (Nat.lt_of_lt_of_le lr hsz), uo f0 rfl, fun h => rfl, uo f2 rfl, fun h => rfl, fun _ => ⟨_, _, _, rfl, hM.mono hsz⟩, uo f5 rfl, uo f6 rfl, uo f7 rfl, uo f8 rfl, fun h => (f9.out (upd_of rfl h)).past h1, fun h => (f10.out (upd_of rfl h)).past h1, fun h => (f11.out (upd_of rfl h)).past h1 (Nat.lt_of_lt_of_le lr hsz), trivial⟩
   · intro dd aa ww K hc hun hn hI hK
     obtain ⟨y5, y6, y7, y8, y9, y10, y11, y12, y13, y14, y15, ea, hb, hsz, vg1, vg2, vg3, vg4, cx, cy, xr, pr, f0, f1, f2, f3, f4, f5, f6, f7, f8, f9, f10, f11, _⟩ := hI
     try simp [Region.binds] at hn
     subst ea
     simp only [puts, Act.put, lsA, lsZ, lsS]
     go_simp
     refine hK.out _ _ ?_
     exact ⟨y5, y6, y7, y8, y9, .pointer (some ⟨w.heap.size, 2, none⟩), y11, y12, y13, y14, y15, by simp only [puts, Act.put, lsA, lsZ, lsS], hb, hsz, vg1, vg2, vg3, vg4, cx, cy, xr, fun h => (pr.out (upd_off h)), uo f0 rfl, uo f1 rfl, uo f2 rfl, uo f3 rfl, uo f4 rfl, fun _ => rfl, uo f6 rfl, uo f7 rfl, uo f8 rfl, uo f9 rfl, uo f10 rfl, uo f11 rfl, trivial⟩
   · intro dd aa ww K hc hun hn hI hK
     obtain ⟨y5, y6, y7, y8, y9, y10, y11, y12, y13, y14, y15, ea, hb, hsz, vg1, vg2, vg3, vg4, cx, cy, xr, pr, f0, f1, f2, f3, f4, f5, f6, f7, f8, f9, f10, f11, _⟩ := hI
     try simp [Region.binds] at hn
     have ex := f5.out (by first | (simp [hn]; done) | exact rc hc hn | exact rc hc hn.1 | exact rc hc hn.2 | exact rc hc hn.2.1 | exact rc hc hn.2.2)
     subst ex
     have e2 := cx 2 (by simp)
     simp only [lgZ, lgS] at e2
     subst ea
     simp only [puts, Act.put, lsA, lsZ, lsS]
     go_simp
     refine hK.out _ _ ?_
     exact ⟨y5, y6, y7, y8, y9, .pointer (some ⟨w.heap.size, 2, none⟩), .slice a2 n2 c2, y12, y13, y14, y15, by simp only [puts, Act.put, lsA, lsZ, lsS], hb, hsz, vg1, vg2, vg3, vg4, cx, cy, xr, fun h => (pr.out (upd_off h)), uo f0 rfl, uo f1 rfl, uo f2 rfl, uo f3 rfl, uo f4 rfl, fun h => rfl, fun _ => rfl, uo f7 rfl, uo f8 rfl, uo f9 rfl, uo f10 rfl, uo f11 rfl, trivial⟩
   · intro dd aa ww K hc hun hn hI hK
     obtain ⟨y5, y6, y7, y8, y9, y10, y11, y12, y13, y14, y15, ea, hb, hsz, vg1, vg2, vg3, vg4, cx, cy, xr, pr, f0, f1, f2, f3, f4, f5, f6, f7, f8, f9, f10, f11, _⟩ := hI
     try simp [Region.binds] at hn
     subst ea
     simp only [puts, Act.put, lsA, lsZ, lsS]
     go_simp
     refine hK.out _ _ ?_
     exact ⟨y5, y6, y7, y8, y9, y10, y11, .pointer (some ⟨w.heap.size + 1, 2, none⟩), y13, y14, y15, by simp only [puts, Act.put, lsA, lsZ, lsS], hb, hsz, vg1, vg2, vg3, vg4, cx, cy, xr, fun h => (pr.out (upd_off h)), uo f0 rfl, uo f1 rfl, uo f2 rfl, uo f3 rfl, uo f4 rfl, uo f5 rfl, uo f6 rfl, fun _ => rfl, uo f8 rfl, uo f9 rfl, uo f10 rfl, uo f11 rfl, trivial⟩
   · intro dd aa ww K hc hun hn hI hK
     obtain ⟨y5, y6, y7, y8, y9, y10, y11, y12, y13, y14, y15, ea, hb, hsz, vg1, vg2, vg3, vg4, cx, cy, xr, pr, f0, f1, f2, f3, f4, f5, f6, f7, f8, f9, f10, f11, _⟩ := hI
     try simp [Region.binds] at hn
     have ex := f7.out (by first | (simp [hn]; done) | exact rc hc hn | exact rc hc hn.1 | exact rc hc hn.2 | exact rc hc hn.2.1 | exact rc hc hn.2.2)
     subst ex
     have e2 := cy 2 (by simp)
     simp only [lgZ, lgS] at e2
     subst ea
     simp only [puts, Act.put, lsA, lsZ, lsS]
     go_simp
     refine hK.out _ _ ?_
     exact ⟨y5, y6, y7, y8, y9, y10, y11, .pointer (some ⟨w.heap.size + 1, 2, none⟩), .slice a4 n4 c4, y14, y15, by simp only [puts, Act.put, lsA, lsZ, lsS], hb, hsz, vg1, vg2, vg3, vg4, cx, cy, xr, fun h => (pr.out (upd_off h)), uo f0 rfl, uo f1 rfl, uo f2 rfl, uo f3 rfl, uo f4 rfl, uo f5 rfl, uo f6 rfl, fun h => rfl, fun _ => rfl, uo f9 rfl, uo f10 rfl, uo f11 rfl, trivial⟩
   · intro dd aa ww K hc hun hn hI hK
     obtain ⟨y5, y6, y7, y8, y9, y10, y11, y12, y13, y14, y15, ea, hb, hsz, vg1, vg2, vg3, vg4, cx, cy, xr, pr, f0, f1, f2, f3, f4, f5, f6, f7, f8, f9, f10, f11, _⟩ := hI
     try simp [Region.binds] at hn
     have ex := f6.out (by first | (simp [hn]; done) | exact rc hc hn | exact rc hc hn.1 | exact rc hc hn.2 | exact rc hc hn.2.1 | exact rc hc hn.2.2)
     subst ex
     have ex := f8.out (by first | (simp [hn]; done) | exact rc hc hn | exact rc hc hn.1 | exact rc hc hn.2 | exact rc hc hn.2.1 | exact rc hc hn.2.2)
     subst ex
     subst ea
     simp only [puts, Act.put, lsA, lsZ, lsS]
     go_simp
     with_reducible refine (rmul_any _ _ _ (digs p.den) _ _ _ (digs q.den) _ vg2 vg4 (by omega) (by omega)).mono ?_
     rintro e w1 ⟨ahD, nhD, chD, rfl, hD, h1⟩
     rw [E5.out] at hD
     refine hK.out _ _ ?_
     exact ⟨y5, y6, y7, y8, y9, y10, .slice a2 n2 c2, y12, .slice a4 n4 c4, .slice ahD nhD chD, y15, by simp only [puts, Act.put, lsA, lsZ, lsS], below_later hb h1, Nat.le_trans hsz h1.size, vg1.past h1, vg2.past h1, vg3.past h1, vg4.past h1, cx.past h1 (Nat.lt_of_lt_of_le lx hsz), cy.past h1 (Nat.lt_of_lt_of_le ly hsz), xr.past h1 (Nat.lt_of_lt_of_le lr hsz), fun h => (pr.out (upd_off h)).past h1 (Nat.lt_of_lt_of_le lr hsz), uo f0 rfl, uo f1 rfl, uo f2 rfl, uo f3 rfl, fun h => (f4.out (upd_of rfl h)).past h1, uo f5 rfl, fun h => rfl, uo f7 rfl, fun h => rfl, fun _ => ⟨_, _, _, rfl, hD.mono hsz⟩, fun h => (f10.out (upd_of rfl h)).past h1, fun h => (f11.out (upd_of rfl h)).past h1 (Nat.lt_of_lt_of_le lr hsz), trivial⟩
   · intro dd aa ww K hc hun hn hI hK
     obtain ⟨y5, y6, y7, y8, y9, y10, y11, y12, y13, y14, y15, ea, hb, hsz, vg1, vg2, vg3, vg4, cx, cy, xr, pr, f0, f1, f2, f3, f4, f5, f6, f7, f8, f9, f10, f11, _⟩ := hI
     try simp [Region.binds] at hn
     obtain ⟨ahM, nhM, chM, ex, hM⟩ := f4.out (by first | (simp [hn]; done) | exact rc hc hn | exact rc hc hn.1 | exact rc hc hn.2 | exact rc hc hn.2.1 | exact rc hc hn.2.2)
     subst ex
     obtain ⟨ahD, nhD, chD, ex, hD⟩ := f9.out (by first | (simp [hn]; done) | exact rc hc hn | exact rc hc hn.1 | exact rc hc hn.2 | exact rc hc hn.2.1 | exact rc hc hn.2.2)
     subst ex
     subst ea
     simp only [puts, Act.put, lsA, lsZ, lsS]
     go_simp
     with_reducible refine (rlowest_any (neg X) _ _ _ (digs X.natAbs) _ _ _ (digs (p.den * q.den)) _ hM.toNatAt hD.toNatAt (by have := hM.len; have := LX.out; omega) (by have := hD.len; have := L5.out; omega) Z5.out).mono ?_
     rintro e w1 ⟨ahRU, nhRU, chRU, ahRD, nhRD, chRD, rfl, hRU, hRD, h1⟩
     rw [E6.out] at hRU hRD ⊢
     refine hK.out _ _ ?_
     exact ⟨y5, y6, y7, y8, .agg #[.bool (neg X), .slice ahM nhM chM], y10, y11, y12, y13, .slice ahD nhD chD, .agg #[.bool (neg (R).num), .slice ahRU nhRU chRU, .slice ahRD nhRD chRD], by simp only [puts, Act.put, lsA, lsZ, lsS], below_later hb h1, Nat.le_trans hsz h1.size, vg1.past h1, vg2.past h1, vg3.past h1, vg4.past h1, cx.past h1 (Nat.lt_of_lt_of_le lx hsz), cy.past h1 (Nat.lt_of_lt_of_le ly hsz), xr.past h1 (Nat.lt_of_lt_of_le lr hsz), fun h => (pr.out (upd_off h)).past h1 (Nat.lt_of_lt_of_le lr hsz), uo f0 rfl, uo f1 rfl, uo f2 rfl, uo f3 rfl, fun h => (f4.out (upd_of rfl h)).past h1, uo f5 rfl, uo f6 rfl, uo f7 rfl, uo f8 rfl, fun h => (f9.out (upd_of rfl h)).past h1, fun _ => ⟨_, _, _, _, _, _, rfl, hRU.mono hsz, hRD.mono hsz⟩, fun h => absurd (hc.reach (f := 8) (s := 11) (l := 10) (by kernel_rfl) (upd_of rfl h)) (by rw [hun]; decide), trivial⟩
   · intro dd aa ww K hc hun hn hI hK
     obtain ⟨y5, y6, y7, y8, y9, y10, y11, y12, y13, y14, y15, ea, hb, hsz, vg1, vg2, vg3, vg4, cx, cy, xr, pr, f0, f1, f2, f3, f4, f5, f6, f7, f8, f9, f10, f11, _⟩ := hI
     try simp [Region.binds] at hn
     obtain ⟨ahRU, nhRU, chRU, ahRD, nhRD, chRD, ex, hRU, hRD⟩ := f10.out (by first | (simp [hn]; done) | exact rc hc hn | exact rc hc hn.1 | exact rc hc hn.2 | exact rc hc hn.2.1 | exact rc hc hn.2.2)
     subst ex
     have x3 := xr
     obtain ⟨v0, v1, v2, z0, z1, z2, z3, z4, z5, _, _, _⟩ := x3.three
     have hv : ∀ v ∈ ([.bool (neg (R).num), .slice ahRU nhRU chRU, .slice ahRD nhRD chRD] : List Value), notU v := by simp [notU_bool, notU_slice, notU_i64]
     subst ea
     simp only [puts, Act.put, lsA, lsZ, lsS]
     go_simp
     refine hK.out _ _ ?_
     exact ⟨y5, y6, y7, y8, y9, y10, y11, y12, y13, y14, .agg #[.bool (neg (R).num), .slice ahRU nhRU chRU, .slice ahRD nhRD chRD], by simp only [puts, Act.put, lsA, lsZ, lsS], hb.trans (below_setCells _ _ (by omega) [.bool (neg (R).num), .slice ahRU nhRU chRU, .slice ahRD nhRD chRD] 0 _), (by simpa using hsz), NatAt.sets [.bool (neg (R).num), .slice ahRU nhRU chRU, .slice ahRD nhRD chRD] 0 _ vg1 x3 (by simp) hv, NatAt.sets [.bool (neg (R).num), .slice ahRU nhRU chRU, .slice ahRD nhRD chRD] 0 _ vg2 x3 (by simp) hv, NatAt.sets [.bool (neg (R).num), .slice ahRU nhRU chRU, .slice ahRD nhRD chRD] 0 _ vg3 x3 (by simp) hv, NatAt.sets [.bool (neg (R).num), .slice ahRU nhRU chRU, .slice ahRD nhRD chRD] 0 _ vg4 x3 (by simp) hv, Cells.sets (by omega) [.bool (neg (R).num), .slice ahRU nhRU chRU, .slice ahRD nhRD chRD] 0 _ cx, Cells.sets (by omega) [.bool (neg (R).num), .slice ahRU nhRU chRU, .slice ahRD nhRD chRD] 0 _ cy, BoxAt.sets [.bool (neg (R).num), .slice ahRU nhRU chRU, .slice ahRD nhRD chRD] _ 0 _ xr hv, fun h => absurd h (by simp [upd]), uo f0 rfl, uo f1 rfl, uo f2 rfl, uo f3 rfl, fun h => ((f4.out (upd_of rfl h)).setsOff lr [.bool (neg (R).num), .slice ahRU nhRU chRU, .slice ahRD nhRD chRD]), uo f5 rfl, uo f6 rfl, uo f7 rfl, uo f8 rfl, fun h => ((f9.out (upd_of rfl h)).setsOff lr [.bool (neg (R).num), .slice ahRU nhRU chRU, .slice ahRD nhRD chRD]), fun h => ((f10.out (upd_of rfl h)).setsOff lr [.bool (neg (R).num), .slice ahRU nhRU chRU, .slice ahRD nhRD chRD]), fun _ => ⟨[.bool (neg (R).num), .slice ahRU nhRU chRU, .slice ahRD nhRD chRD], rfl, Cells.new x3 [.bool (neg (R).num), .slice ahRU nhRU chRU, .slice ahRD nhRD chRD] (by simp)⟩, trivial⟩
 intro dd aa w4 hd hI
 obtain ⟨y5, y6, y7, y8, y9, y10, y11, y12, y13, y14, y15, ea, hb, hsz, vg1, vg2, vg3, vg4, cx, cy, xr, pr, f0, f1, f2, f3, f4, f5, f6, f7, f8, f9, f10, f11, _⟩ := hI
 have ex := f0.out (hd 0 (by simp))
 subst ex
 have ex := f1.out (hd 1 (by simp))
 subst ex
 have ex := f2.out (hd 2 (by simp))
 subst ex
 have ex := f3.out (hd 3 (by simp))
 subst ex
 obtain ⟨ahM, nhM, chM, ex, hM⟩ := f4.out (hd 4 (by simp))
 subst ex
 have ex := f5.out (hd 5 (by simp))
 subst ex
 have ex := f6.out (hd 6 (by simp))
 subst ex
 have ex := f7.out (hd 7 (by simp))
 subst ex
 have ex := f8.out (hd 8 (by simp))
 subst ex
 obtain ⟨ahD, nhD, chD, ex, hD⟩ := f9.out (hd 9 (by simp))
 subst ex
 obtain ⟨ahRU, nhRU, chRU, ahRD, nhRD, chRD, ex, hRU, hRD⟩ := f10.out (hd 10 (by simp))
 subst ex
 obtain ⟨vs11, e, h11⟩ := f11.out (hd 11 (by simp))
 cases e
 have lr := Nat.lt_of_lt_of_le lr hsz
 have qr0 := h11 0 (by simp)
 simp only [lgZ, lgS] at qr0
 have qr1 := h11 1 (by simp)
 simp only [lgZ, lgS] at qr1
 have qr2 := h11 2 (by simp)
 simp only [lgZ, lgS] at qr2
 subst ea
 simp only [puts, Act.put, lsA, lsZ, lsS]
 have hM := hM.mono szW
 have hD := hD.mono szW
 have hRU := hRU.mono szW
 have hRD := hRD.mono szW
 have g1 := vg1
 have g2 := vg2
 have g3 := vg3
 have g4 := vg4
 have lx := Nat.lt_of_lt_of_le lx hsz
 have qx0 := cx 0 (by simp)
 simp only [lgZ, lgS] at qx0
 have qx1 := cx 1 (by simp)
 simp only [lgZ, lgS] at qx1
 have qx2 := cx 2 (by simp)
 simp only [lgZ, lgS] at qx2
 clear cx
 have ly := Nat.lt_of_lt_of_le ly hsz
 have qy0 := cy 0 (by simp)
 simp only [lgZ, lgS] at qy0
 have qy1 := cy 1 (by simp)
 simp only [lgZ, lgS] at qy1
 have qy2 := cy 2 (by simp)
 simp only [lgZ, lgS] at qy2
 clear cy
 have hB := hb
 clear pr
 clear hb hd
 go_wp2
 refine bodyPost_ret (v := .agg #[.bool (neg R.num), .slice ahRU nhRU chRU, .slice ahRD nhRD chRD]) ?_ rfl ⟨_, _, _, _, _, _, rfl, hRU, hRD, hB⟩
 simp [results, Tryz.f106, go_sem, qr0, qr1, qr2]
end Go.Proofs.YtlkoenpdmlbhlaaGreat
