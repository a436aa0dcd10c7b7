import Derived.Test.YtoecndogaklngaaGreatDoorS0Df
import Derived.Test.YtoecndogaklngaaGreatDoorKit2Df
import Derived.Test.YtoecndogaklngaaGreatDoorQuot4Df
import Derived.Test.YtoecndogaklngaaGreatDoorRegDf
set_option linter.unusedVariables false
set_option linter.unusedSimpArgs false
namespace Go.Proofs.YtoecndogaklngaaGreatDoor
open Go.RowKit
theorem one05_any (w : World) : Calls Tryz.prog 40 #[] w (RetNat w 1) := by
 go_enter Tryz.func40, Tryz.ntmps40
 go_wp2
 go_ret
 exact ⟨_, _, _, rfl, lit1g w w.heap.size 1 1 rfl rfl (by decide), (Below.refl _ _).alloc (Nat.le_refl _) _⟩
end Go.Proofs.YtoecndogaklngaaGreatDoor
set_option linter.unusedVariables false
set_option linter.unusedSimpArgs false
namespace Go.Proofs.YtoecndogaklngaaGreatDoor
open Go.RowKit
theorem chkZ_six {b : Bool} {l : List Nat} (h : chkZ b l ≠ 0) : chkZ b l = 6 := by
 unfold chkZ at h ⊢
 split
 · rfl
 · rename_i hc; rw [if_neg hc] at h; unfold chk at h ⊢; split
   · rfl
   · rename_i h2; rw [if_neg h2] at h; exact absurd rfl h
theorem chk_six {l : List Nat} (h : chk l ≠ 0) : chk l = 6 := by
 unfold chk at h ⊢
 split
 · rfl
 · rename_i h2; rw [if_neg h2] at h; exact absurd rfl h
set_option maxRecDepth 100000 in
set_option maxHeartbeats 4000000 in
theorem check05_any (b : Bool) (a : Option Addr) (n c : Nat) (l : List Nat) (a2 : Option Addr) (n2 c2 : Nat) (l2 : List Nat) (w : World) (g1 : NatAt w a n c l) (g2 : NatAt w a2 n2 c2 l2) (hs : n ≤ 68719476736) (hs2 : n2 ≤ 68719476736) :
 Calls Tryz.prog 17 #[.agg #[.bool b, .slice a n c, .slice a2 n2 c2]] w (RetVal w (.int .i64 (chkR b l l2))) := by
 have hlen := g2.len
 by_cases h1 : chkZ b l = 0
 · by_cases h2 : chk l2 = 0
   · by_cases h3 : n2 = 0
     · have e : chkR b l l2 = 6 := by unfold chkR; rw [if_neg]; rintro ⟨_, _, h, _⟩; exact h (List.eq_nil_of_length_eq_zero (by omega))
       rw [e]
       have H1 := Lib.hid h1
       have H2 := Lib.hid h2
       have t3 : ((n2 : Int) == 0) = true := by rw [h3]; rfl
       have H3 := Lib.hid h3
       clear h1 h2 e h3 hlen
       go_enter Tryz.func17, Tryz.ntmps17
       have hB := Below.refl w.heap.size w
       go_wp2_with fail
       obtain ⟨w1, hW, hz0, hb, q, f⟩ := box1g w (w.heap.size) (by omega) #[.bool b, .slice a n c, .slice a2 n2 c2] 27
       rw [hW]
       clear hW
       have g1 := g1.past hb
       have g2 := g2.past hb
       have hB := below_later hB hb
       clear hb
       have lb1 : w.heap.size < w1.heap.size := by omega
       have qb10 := q 0; have qb11 := q 1; have qb12 := q 2
       simp only [lgA, lgZ, lgS] at qb10 qb11 qb12
       clear q f
       clear hz0
       with_reducible refine (scheck_any b _ _ _ l _ g1).mono ?_
       rintro e w2 ⟨rfl, hb⟩
       have g1 := g1.past hb
       have g2 := g2.past hb
       obtain ⟨qb10, qb11, qb12, lb1⟩ := bq3 hb lb1 qb10 qb11 qb12
       have hB := below_later hB hb
       clear hb
       rw [H1.out]
       go_wp2_with fail
       with_reducible refine (check_any _ _ _ l2 _ g2).mono ?_
       rintro e w' ⟨rfl, rfl⟩
       rw [H2.out]
       go_wp2
       go_ret
       exact ⟨rfl, hB⟩
     · have h3b : 0 < n2 := by omega
       have t3 : ((n2 : Int) == 0) = false := by rw [beq_eq_false_iff_ne]; omega
       have hz : val l2 ≠ 0 := by
        intro hz
        have e := digs_val g2.dig (chk_top.1 h2)
        rw [hz] at e
        have : l2.length = 0 := by rw [← e]; rfl
        omega
       have hgl : (digs (Nat.gcd (val l) (val l2))).length ≤ n2 := Nat.le_trans (digs_len_mono (Nat.gcd_le_right _ (Nat.pos_of_ne_zero hz))) g2.short
       have HGL := Lib.hid hgl
       by_cases h4 : Nat.gcd (val l) (val l2) = 1
       · have e : chkR b l l2 = 0 := by unfold chkR; rw [if_pos ⟨h1, h2, fun h => by rw [h] at hlen; simp at hlen; omega, h4⟩]
         rw [e]
         have e2 : cmpI (val (digs (Nat.gcd (val l) (val l2)))) (val (digs 1)) = 0 := by rw [val_digs, val_digs, h4]; rfl
         have H1 := Lib.hid h1
         have H2 := Lib.hid h2
         have E2 := Lib.hid e2
         clear h1 h2 h3 h4 e e2 hz hgl hlen
         go_enter Tryz.func17, Tryz.ntmps17
         have hB := Below.refl w.heap.size w
         go_wp2_with fail
         obtain ⟨w1, hW, hz0, hb, q, f⟩ := box1g w (w.heap.size) (by omega) #[.bool b, .slice a n c, .slice a2 n2 c2] 27
         rw [hW]
         clear hW
         have g1 := g1.past hb
         have g2 := g2.past hb
         have hB := below_later hB hb
         clear hb
         have lb1 : w.heap.size < w1.heap.size := by omega
         have qb10 := q 0; have qb11 := q 1; have qb12 := q 2
         simp only [lgA, lgZ, lgS] at qb10 qb11 qb12
         clear q f
         clear hz0
         with_reducible refine (scheck_any b _ _ _ l _ g1).mono ?_
         rintro e w2 ⟨rfl, hb⟩
         have g1 := g1.past hb
         have g2 := g2.past hb
         obtain ⟨qb10, qb11, qb12, lb1⟩ := bq3 hb lb1 qb10 qb11 qb12
         have hB := below_later hB hb
         clear hb
         rw [H1.out]
         go_wp2_with fail
         with_reducible refine (check_any _ _ _ l2 _ g2).mono ?_
         rintro e w' ⟨rfl, rfl⟩
         rw [H2.out]
         go_wp2_with fail
         with_reducible refine (gcd_any _ _ _ l _ _ _ l2 _ g1 g2 (by omega) (by omega)).mono ?_
         rintro e w3 ⟨ahG, nhG, chG, rfl, hG, hb⟩
         have g1 := g1.past hb
         have g2 := g2.past hb
         obtain ⟨qb10, qb11, qb12, lb1⟩ := bq3 hb lb1 qb10 qb11 qb12
         have hB := below_later hB hb
         clear hb
         go_wp2_with fail
         with_reducible refine (one05_any _).mono ?_
         rintro e w4 ⟨ahO, nhO, chO, rfl, hO, hb⟩
         have g1 := g1.past hb
         have g2 := g2.past hb
         have hG := hG.past hb
         obtain ⟨qb10, qb11, qb12, lb1⟩ := bq3 hb lb1 qb10 qb11 qb12
         have hB := below_later hB hb
         clear hb
         go_wp2_with fail
         with_reducible refine (cmp_any _ _ _ (digs (Nat.gcd (val l) (val l2))) _ _ _ (digs 1) _ hG.toNatAt hO.toNatAt).mono ?_
         rintro e w5 ⟨rfl, hb⟩
         have g1 := g1.past hb
         have g2 := g2.past hb
         have hG := hG.past hb
         have hO := hO.past hb
         obtain ⟨qb10, qb11, qb12, lb1⟩ := bq3 hb lb1 qb10 qb11 qb12
         have hB := below_later hB hb
         clear hb
         rw [E2.out]
         go_wp2
         go_ret
         exact ⟨rfl, hB⟩
       · have e : chkR b l l2 = 6 := by unfold chkR; rw [if_neg]; rintro ⟨_, _, _, h⟩; exact h4 h
         rw [e]
         obtain ⟨x, hx⟩ : ∃ x, cmpI (val (digs (Nat.gcd (val l) (val l2)))) (val (digs 1)) = x := ⟨_, rfl⟩
         have hx0 : (x == 0) = false := by
          rw [beq_eq_false_iff_ne]
          intro h0
          rw [h0, val_digs, val_digs] at hx
          exact h4 (cmpI_zero.1 hx)
         have hx1 : (x != 0) = true := by simp [bne, hx0]
         have H1 := Lib.hid h1
         have H2 := Lib.hid h2
         have E2 := Lib.hid hx
         clear h1 h2 h3 h4 e hz hgl hlen hx
         go_enter Tryz.func17, Tryz.ntmps17
         have hB := Below.refl w.heap.size w
         go_wp2_with fail
         obtain ⟨w1, hW, hz0, hb, q, f⟩ := box1g w (w.heap.size) (by omega) #[.bool b, .slice a n c, .slice a2 n2 c2] 27
         rw [hW]
         clear hW
         have g1 := g1.past hb
         have g2 := g2.past hb
         have hB := below_later hB hb
         clear hb
         have lb1 : w.heap.size < w1.heap.size := by omega
         have qb10 := q 0; have qb11 := q 1; have qb12 := q 2
         simp only [lgA, lgZ, lgS] at qb10 qb11 qb12
         clear q f
         clear hz0
         with_reducible refine (scheck_any b _ _ _ l _ g1).mono ?_
         rintro e w2 ⟨rfl, hb⟩
         have g1 := g1.past hb
         have g2 := g2.past hb
         obtain ⟨qb10, qb11, qb12, lb1⟩ := bq3 hb lb1 qb10 qb11 qb12
         have hB := below_later hB hb
         clear hb
         rw [H1.out]
         go_wp2_with fail
         with_reducible refine (check_any _ _ _ l2 _ g2).mono ?_
         rintro e w' ⟨rfl, rfl⟩
         rw [H2.out]
         go_wp2_with fail
         with_reducible refine (gcd_any _ _ _ l _ _ _ l2 _ g1 g2 (by omega) (by omega)).mono ?_
         rintro e w3 ⟨ahG, nhG, chG, rfl, hG, hb⟩
         have g1 := g1.past hb
         have g2 := g2.past hb
         obtain ⟨qb10, qb11, qb12, lb1⟩ := bq3 hb lb1 qb10 qb11 qb12
         have hB := below_later hB hb
         clear hb
         go_wp2_with fail
         with_reducible refine (one05_any _).mono ?_
         rintro e w4 ⟨ahO, nhO, chO, rfl, hO, hb⟩
         have g1 := g1.past hb
         have g2 := g2.past hb
         have hG := hG.past hb
         obtain ⟨qb10, qb11, qb12, lb1⟩ := bq3 hb lb1 qb10 qb11 qb12
         have hB := below_later hB hb
         clear hb
         go_wp2_with fail
         with_reducible refine (cmp_any _ _ _ (digs (Nat.gcd (val l) (val l2))) _ _ _ (digs 1) _ hG.toNatAt hO.toNatAt).mono ?_
         rintro e w5 ⟨rfl, hb⟩
         have g1 := g1.past hb
         have g2 := g2.past hb
         have hG := hG.past hb
         have hO := hO.past hb
         obtain ⟨qb10, qb11, qb12, lb1⟩ := bq3 hb lb1 qb10 qb11 qb12
         have hB := below_later hB hb
         clear hb
         rw [E2.out]
         go_wp2
         go_ret
         exact ⟨rfl, hB⟩
   · have e : chkR b l l2 = 6 := by unfold chkR; rw [if_neg]; rintro ⟨_, h, _⟩; exact h2 h
     rw [e]
     have H1 := Lib.hid h1
     have H2 := Lib.hid (chk_six h2)
     clear h1 h2 e
     go_enter Tryz.func17, Tryz.ntmps17
     have hB := Below.refl w.heap.size w
     go_wp2_with fail
     obtain ⟨w1, hW, hz0, hb, q, f⟩ := box1g w (w.heap.size) (by omega) #[.bool b, .slice a n c, .slice a2 n2 c2] 27
     rw [hW]
     clear hW
     have g1 := g1.past hb
     have g2 := g2.past hb
     have hB := below_later hB hb
     clear hb
     have lb1 : w.heap.size < w1.heap.size := by omega
     have qb10 := q 0; have qb11 := q 1; have qb12 := q 2
     simp only [lgA, lgZ, lgS] at qb10 qb11 qb12
     clear q f
     clear hz0
     with_reducible refine (scheck_any b _ _ _ l _ g1).mono ?_
     rintro e w2 ⟨rfl, hb⟩
     have g1 := g1.past hb
     have g2 := g2.past hb
     obtain ⟨qb10, qb11, qb12, lb1⟩ := bq3 hb lb1 qb10 qb11 qb12
     have hB := below_later hB hb
     clear hb
     rw [H1.out]
     go_wp2_with fail
     with_reducible refine (check_any _ _ _ l2 _ g2).mono ?_
     rintro e w' ⟨rfl, rfl⟩
     rw [H2.out]
     go_wp2
     go_ret
     exact ⟨rfl, hB⟩
 · have e : chkR b l l2 = 6 := by unfold chkR; rw [if_neg]; rintro ⟨h, _⟩; exact h1 h
   rw [e]
   have H1 := Lib.hid (chkZ_six h1)
   clear h1 e
   go_enter Tryz.func17, Tryz.ntmps17
   have hB := Below.refl w.heap.size w
   go_wp2_with fail
   obtain ⟨w1, hW, hz0, hb, q, f⟩ := box1g w (w.heap.size) (by omega) #[.bool b, .slice a n c, .slice a2 n2 c2] 27
   rw [hW]
   clear hW
   have g1 := g1.past hb
   have g2 := g2.past hb
   have hB := below_later hB hb
   clear hb
   have lb1 : w.heap.size < w1.heap.size := by omega
   have qb10 := q 0; have qb11 := q 1; have qb12 := q 2
   simp only [lgA, lgZ, lgS] at qb10 qb11 qb12
   clear q f
   clear hz0
   with_reducible refine (scheck_any b _ _ _ l _ g1).mono ?_
   rintro e w2 ⟨rfl, hb⟩
   have g1 := g1.past hb
   have g2 := g2.past hb
   obtain ⟨qb10, qb11, qb12, lb1⟩ := bq3 hb lb1 qb10 qb11 qb12
   have hB := below_later hB hb
   clear hb
   rw [H1.out]
   go_wp2
   go_ret
   exact ⟨rfl, hB⟩
end Go.Proofs.YtoecndogaklngaaGreatDoor
