import Derived.Test.YtoecndogaklngaaDoorS0Db
import Derived.Test.YtoecndogaklngaaDoorKit2Db
import Derived.Test.YtoecndogaklngaaDoorQuot4Db
import Derived.Test.YtoecndogaklngaaDoorRegDb
set_option linter.unusedVariables false
set_option linter.unusedSimpArgs false
namespace Go.Proofs.YtoecndogaklngaaDoor
open Go.RowKit
def RetRat (w : World) (q : Rat) (e : Ending) (w' : World) : Prop :=
 ∃ a n c a2 n2 c2, e = .returned (.agg #[.bool (neg q.num), .slice a n c, .slice a2 n2 c2]) ∧ OwnAt w' w.heap.size a n c (digs q.num.natAbs) ∧ OwnAt w' w.heap.size a2 n2 c2 (digs q.den) ∧ Below w.heap.size w w'
theorem one05_any (w : World) : Calls Tryd.prog 44 #[] w (RetNat w 1) := by
 go_enter Tryd.func44, Tryd.ntmps44
 go_wp2
 go_ret
 exact ⟨_, _, _, rfl, lit1g w w.heap.size 1 1 rfl rfl (by decide), (Below.refl _ _).alloc (Nat.le_refl _) _⟩
theorem by05_any (a : Option Addr) (n c : Nat) (l : List Nat) (a2 : Option Addr) (n2 c2 : Nat) (l2 : List Nat) (w : World) (h : NatAt w a n c l) (h2 : NatAt w a2 n2 c2 l2) (hs : n ≤ 68719476736) (hs2 : n2 ≤ 68719476736) (hz : val l2 ≠ 0) :
 Calls Tryd.prog 66 #[.slice a n c, .slice a2 n2 c2] w (RetNat w (val l / val l2)) := by
 have HZ := Lib.hid hz
 clear hz
 go_enter Tryd.func66, Tryd.ntmps66
 go_wp2_with fail
 with_reducible refine (div_yes _ _ _ l _ _ _ l2 _ h h2 hs hs2 HZ.out).mono ?_
 rintro e w1 ⟨a1, n1, c1, a3, n3, c3, rfl, h1, h3, hb⟩
 go_wp2
 go_ret
 exact ⟨_, _, _, rfl, h1, hb⟩
set_option maxRecDepth 100000 in
set_option maxHeartbeats 4000000 in
theorem lowest_any (b : Bool) (a : Option Addr) (n c : Nat) (l : List Nat) (a2 : Option Addr) (n2 c2 : Nat) (l2 : List Nat) (w : World) (g1 : NatAt w a n c l) (g2 : NatAt w a2 n2 c2 l2) (hs : n ≤ 68719476736) (hs2 : n2 ≤ 68719476736) (hz : val l2 ≠ 0) :
 Calls Tryd.prog 49 #[.agg #[.bool b, .slice a n c], .slice a2 n2 c2] w (RetRat w (mkRat (sg b (val l)) (val l2))) := by
 obtain ⟨p1, p2⟩ := low_parts (b := b) (v := val l) hz
 have hg0 := gcd_ne (v := val l) hz
 have hgl : (digs (Nat.gcd (val l) (val l2))).length ≤ n2 := Nat.le_trans (digs_len_mono (Nat.gcd_le_right _ (Nat.pos_of_ne_zero hz))) g2.short
 obtain ⟨G, hG⟩ : ∃ G, Nat.gcd (val l) (val l2) = G := ⟨_, rfl⟩
 rw [hG] at p1 p2 hg0 hgl
 obtain ⟨Q, hQ⟩ : ∃ Q : Rat, mkRat (sg b (val l)) (val l2) = Q := ⟨_, rfl⟩
 rw [hQ] at p1 p2 ⊢
 have hg0 : val (digs G) ≠ 0 := by rw [val_digs]; exact hg0
 have q1 : sg b (val (digs (val l / val (digs G)))) = Q.num := by rw [val_digs, val_digs]; exact p1
 have q2 : digs (val l2 / val (digs G)) = digs Q.den := by rw [val_digs, p2]
 have hl1 : (digs (val l / val (digs G))).length ≤ n := Nat.le_trans (digs_len_mono (Nat.div_le_self _ _)) g1.short
 have HG := Lib.hid hG
 have HG0 := Lib.hid hg0
 have HGL := Lib.hid hgl
 have H1 := Lib.hid q1
 have H2 := Lib.hid q2
 have HL1 := Lib.hid hl1
 clear hG p1 p2 hg0 hgl q1 q2 hl1 hQ
 go_enter Tryd.func49, Tryd.ntmps49
 have hB := Below.refl w.heap.size w
 go_wp2_with fail
 obtain ⟨w1, hW, hz0, hb, q, f⟩ := box1g w (w.heap.size) (by omega) #[.bool b, .slice a n c] 29
 rw [hW]
 clear hW
 have g1 := g1.past hb
 have g2 := g2.past hb
 have hB := below_later hB hb
 clear hb
 have lb1 : w.heap.size < w1.heap.size := by omega
 have qb10 := q 0; have qb11 := q 1
 simp only [lgA, lgZ, lgS] at qb10 qb11
 clear q f
 obtain ⟨w2, hW, hz1, hb, q, f⟩ := box1g w1 (w.heap.size + 1) (by omega) #[.bool false, .slice none 0 0, .slice none 0 0] 31
 rw [hW]
 clear hW
 have g1 := g1.past hb
 have g2 := g2.past hb
 obtain ⟨qb10, qb11, lb1⟩ := bq2 hb lb1 qb10 qb11
 have hB := below_later hB hb
 clear hb
 have lr : w.heap.size + 1 < w2.heap.size := by omega
 have qr0 := q 0; have qr1 := q 1; have qr2 := q 2
 simp only [lgA, lgZ, lgS] at qr0 qr1 qr2
 have xr : BoxAt w2 (w.heap.size + 1) 3 := BoxAt.of q f rfl (by simp [notU_bool, notU_slice, notU_i64])
 clear q f
 clear hz0
 clear hz1
 with_reducible refine (gcd_any _ _ _ l _ _ _ l2 _ g1 g2 (by omega) (by omega)).mono ?_
 rintro e w3 ⟨ahG, nhG, chG, rfl, hG, hb⟩
 have hG := hG.mono hB.size
 have g1 := g1.past hb
 have g2 := g2.past hb
 obtain ⟨qb10, qb11, lb1⟩ := bq2 hb lb1 qb10 qb11
 have xr := xr.past hb lr
 obtain ⟨qr0, qr1, qr2, lr⟩ := bq3 hb lr qr0 qr1 qr2
 have hB := below_later hB hb
 clear hb
 rw [HG.out] at hG
 have hG := hG.mono (Nat.zero_le _)
 have nG : nhG ≤ n2 := by rw [← hG.len]; exact HGL.out
 go_wp2_with fail
 have szW := hB.size
 refine wp_region_inv (by kernel_rfl) rfl (by kernel_rfl) (fun A0 V0 dd aa ww => ∃ (y10 y11 y12 y13 y14 y15 y16 y17 y18 y19 y20 : Value), aa = puts A0 [(10, y10), (11, y11), (12, y12), (13, y13), (14, y14), (15, y15), (16, y16), (17, y17), (18, y18), (19, y19), (20, y20)] ∧ Below (w).heap.size (w) ww ∧ V0.heap.size ≤ ww.heap.size ∧ NatAt ww a n c l ∧ NatAt ww a2 n2 c2 l2 ∧ OwnAt ww 0 ahG nhG chG (digs G) ∧ Cells ww (w.heap.size) [.bool b, .slice a n c] ∧ BoxAt ww (w.heap.size + 1) 3 ∧ Shut (dd 11 = false → Cells ww (w.heap.size + 1) [.bool false, .slice none 0 0, .slice none 0 0]) ∧ Shut (dd 0 = true → y10 = .pointer (some ⟨w.heap.size, 0, none⟩)) ∧ Shut (dd 1 = true → y11 = .bool b) ∧ Shut (dd 2 = true → y12 = .pointer (some ⟨w.heap.size, 1, none⟩)) ∧ Shut (dd 3 = true → y13 = .slice a n c) ∧ Shut (dd 4 = true → y14 = .slice ahG nhG chG) ∧ Shut (dd 5 = true → NatV V0.heap.size (digs (val l / val (digs G))) y15 ww) ∧ Shut (dd 6 = true → CopyV V0.heap.size (neg Q.num) (digs Q.num.natAbs) y16 ww) ∧ Shut (dd 7 = true → y17 = .slice a2 n2 c2) ∧ Shut (dd 8 = true → y18 = .slice ahG nhG chG) ∧ Shut (dd 9 = true → NatV V0.heap.size (digs Q.den) y19 ww) ∧ Shut (dd 10 = true → y20 = bld [y16, y19]) ∧ Shut (dd 11 = true → CellsV (w.heap.size + 1) y20 ww) ∧ True) ?_ ?_ ?_
 · exact ⟨_, _, _, _, _, _, _, _, _, _, _, puts_self _ [10, 11, 12, 13, 14, 15, 16, 17, 18, 19, 20], hB.drew, Nat.le_refl _, g1.drew, g2.drew, hG.drew, (by intro k hk; simp at hk; rcases (by omega : k = 0 ∨ k = 1) with rfl | rfl <;> assumption), xr.drew, (fun _ => by intro k hk; simp at hk; rcases (by omega : k = 0 ∨ k = 1 ∨ k = 2) with rfl | rfl | rfl <;> assumption), fun h => (by cases h), fun h => (by cases h), fun h => (by cases h), fun h => (by cases h), fun h => (by cases h), fun h => (by cases h), fun h => (by cases h), fun h => (by cases h), fun h => (by cases h), fun h => (by cases h), fun h => (by cases h), fun h => (by cases h), trivial⟩
 · refine Steps.cons ?_ (Steps.cons ?_ (Steps.cons ?_ (Steps.cons ?_ (Steps.cons ?_ (Steps.cons ?_ (Steps.cons ?_ (Steps.cons ?_ (Steps.cons ?_ (Steps.cons ?_ (Steps.cons ?_ (Steps.cons ?_ (Steps.nil))))))))))))
   · intro dd aa ww K hc hun hn hI hK
     obtain ⟨y10, y11, y12, y13, y14, y15, y16, y17, y18, y19, y20, ea, hb, hsz, vg1, vg2, vhG, cb1, xr, pr, f0, f1, f2, f3, f4, f5, f6, f7, f8, f9, f10, f11, _⟩ := hI
     try simp [Region.binds] at hn
     subst ea
     simp only [puts, Act.put, lsA, lsZ, lsS]
     go_simp
     refine hK.out _ _ ?_
     exact ⟨.pointer (some ⟨w.heap.size, 0, none⟩), y11, y12, y13, y14, y15, y16, y17, y18, y19, y20, by simp only [puts, Act.put, lsA, lsZ, lsS], hb, hsz, vg1, vg2, vhG, cb1, xr, fun h => (pr.out (upd_off h)), fun _ => rfl, uo f1 rfl, uo f2 rfl, uo f3 rfl, uo f4 rfl, uo f5 rfl, uo f6 rfl, uo f7 rfl, uo f8 rfl, uo f9 rfl, uo f10 rfl, uo f11 rfl, trivial⟩
   · intro dd aa ww K hc hun hn hI hK
     obtain ⟨y10, y11, y12, y13, y14, y15, y16, y17, y18, y19, y20, ea, hb, hsz, vg1, vg2, vhG, cb1, xr, pr, f0, f1, f2, f3, f4, f5, f6, f7, f8, f9, f10, f11, _⟩ := hI
     try simp [Region.binds] at hn
     have ex := f0.out (by first | (simp [hn]; done) | exact rc hc hn | exact rc hc hn.1 | exact rc hc hn.2 | exact rc hc hn.2.1 | exact rc hc hn.2.2)
     subst ex
     have e0 := cb1 0 (by simp)
     simp only [lgZ, lgS] at e0
     subst ea
     simp only [puts, Act.put, lsA, lsZ, lsS]
     go_simp
     refine hK.out _ _ ?_
     exact ⟨.pointer (some ⟨w.heap.size, 0, none⟩), .bool b, y12, y13, y14, y15, y16, y17, y18, y19, y20, by simp only [puts, Act.put, lsA, lsZ, lsS], hb, hsz, vg1, vg2, vhG, cb1, xr, fun h => (pr.out (upd_off h)), fun h => rfl, fun _ => rfl, uo f2 rfl, uo f3 rfl, uo f4 rfl, uo f5 rfl, uo f6 rfl, uo f7 rfl, uo f8 rfl, uo f9 rfl, uo f10 rfl, uo f11 rfl, trivial⟩
   · intro dd aa ww K hc hun hn hI hK
     obtain ⟨y10, y11, y12, y13, y14, y15, y16, y17, y18, y19, y20, ea, hb, hsz, vg1, vg2, vhG, cb1, xr, pr, f0, f1, f2, f3, f4, f5, f6, f7, f8, f9, f10, f11, _⟩ := hI
     try simp [Region.binds] at hn
     subst ea
     simp only [puts, Act.put, lsA, lsZ, lsS]
     go_simp
     refine hK.out _ _ ?_
     exact ⟨y10, y11, .pointer (some ⟨w.heap.size, 1, none⟩), y13, y14, y15, y16, y17, y18, y19, y20, by simp only [puts, Act.put, lsA, lsZ, lsS], hb, hsz, vg1, vg2, vhG, cb1, xr, fun h => (pr.out (upd_off h)), uo f0 rfl, uo f1 rfl, fun _ => rfl, uo f3 rfl, uo f4 rfl, uo f5 rfl, uo f6 rfl, uo f7 rfl, uo f8 rfl, uo f9 rfl, uo f10 rfl, uo f11 rfl, trivial⟩
   · intro dd aa ww K hc hun hn hI hK
     obtain ⟨y10, y11, y12, y13, y14, y15, y16, y17, y18, y19, y20, ea, hb, hsz, vg1, vg2, vhG, cb1, xr, pr, f0, f1, f2, f3, f4, f5, f6, f7, f8, f9, f10, f11, _⟩ := hI
     try simp [Region.binds] at hn
     have ex := f2.out (by first | (simp [hn]; done) | exact rc hc hn | exact rc hc hn.1 | exact rc hc hn.2 | exact rc hc hn.2.1 | exact rc hc hn.2.2)
     subst ex
     have e1 := cb1 1 (by simp)
     simp only [lgZ, lgS] at e1
     subst ea
     simp only [puts, Act.put, lsA, lsZ, lsS]
     go_simp
     refine hK.out _ _ ?_
     exact ⟨y10, y11, .pointer (some ⟨w.heap.size, 1, none⟩), .slice a n c, y14, y15, y16, y17, y18, y19, y20, by simp only [puts, Act.put, lsA, lsZ, lsS], hb, hsz, vg1, vg2, vhG, cb1, xr, fun h => (pr.out (upd_off h)), uo f0 rfl, uo f1 rfl, fun h => rfl, fun _ => rfl, uo f4 rfl, uo f5 rfl, uo f6 rfl, uo f7 rfl, uo f8 rfl, uo f9 rfl, uo f10 rfl, uo f11 rfl, trivial⟩
   · intro dd aa ww K hc hun hn hI hK
     obtain ⟨y10, y11, y12, y13, y14, y15, y16, y17, y18, y19, y20, ea, hb, hsz, vg1, vg2, vhG, cb1, xr, pr, f0, f1, f2, f3, f4, f5, f6, f7, f8, f9, f10, f11, _⟩ := hI
     try simp [Region.binds] at hn
     subst ea
     simp only [puts, Act.put, lsA, lsZ, lsS]
     go_simp
     refine hK.out _ _ ?_
     exact ⟨y10, y11, y12, y13, .slice ahG nhG chG, y15, y16, y17, y18, y19, y20, by simp only [puts, Act.put, lsA, lsZ, lsS], hb, hsz, vg1, vg2, vhG, cb1, xr, fun h => (pr.out (upd_off h)), uo f0 rfl, uo f1 rfl, uo f2 rfl, uo f3 rfl, fun _ => rfl, uo f5 rfl, uo f6 rfl, uo f7 rfl, uo f8 rfl, uo f9 rfl, uo f10 rfl, uo f11 rfl, trivial⟩
   · intro dd aa ww K hc hun hn hI hK
     obtain ⟨y10, y11, y12, y13, y14, y15, y16, y17, y18, y19, y20, ea, hb, hsz, vg1, vg2, vhG, cb1, xr, pr, f0, f1, f2, f3, f4, f5, f6, f7, f8, f9, f10, f11, _⟩ := hI
     try simp [Region.binds] at hn
     have ex := f3.out (by first | (simp [hn]; done) | exact rc hc hn | exact rc hc hn.1 | exact rc hc hn.2 | exact rc hc hn.2.1 | exact rc hc hn.2.2)
     subst ex
     have ex := f4.out (by first | (simp [hn]; done) | exact rc hc hn | exact rc hc hn.1 | exact rc hc hn.2 | exact rc hc hn.2.1 | exact rc hc hn.2.2)
     subst ex
     subst ea
     simp only [puts, Act.put, lsA, lsZ, lsS]
     go_simp
     with_reducible refine (by05_any _ _ _ l _ _ _ (digs G) _ vg1 vhG.toNatAt (by omega) (by omega) HG0.out).mono ?_
     rintro e w1 ⟨ahQ, nhQ, chQ, rfl, hQ, h1⟩
     have nQ : nhQ ≤ n := by rw [← hQ.len]; exact HL1.out
     refine hK.out _ _ ?_
     exact ⟨y10, y11, y12, .slice a n c, .slice ahG nhG chG, .slice ahQ nhQ chQ, y16, y17, y18, y19, y20, by simp only [puts, Act.put, lsA, lsZ, lsS], below_later hb h1, Nat.le_trans hsz h1.size, vg1.past h1, vg2.past h1, vhG.past h1, cb1.past h1 (Nat.lt_of_lt_of_le lb1 hsz), xr.past h1 (Nat.lt_of_lt_of_le lr hsz), fun h => (pr.out (upd_off h)).past h1 (Nat.lt_of_lt_of_le lr hsz), uo f0 rfl, uo f1 rfl, uo f2 rfl, fun h => rfl, fun h => rfl, fun _ => ⟨_, _, _, rfl, hQ.mono hsz⟩, fun h => (f6.out (upd_of rfl h)).past h1, uo f7 rfl, uo f8 rfl, fun h => (f9.out (upd_of rfl h)).past h1, uo f10 rfl, fun h => (f11.out (upd_of rfl h)).past h1 (Nat.lt_of_lt_of_le lr hsz), trivial⟩
   · intro dd aa ww K hc hun hn hI hK
     obtain ⟨y10, y11, y12, y13, y14, y15, y16, y17, y18, y19, y20, ea, hb, hsz, vg1, vg2, vhG, cb1, xr, pr, f0, f1, f2, f3, f4, f5, f6, f7, f8, f9, f10, f11, _⟩ := hI
     try simp [Region.binds] at hn
     have ex := f1.out (by first | (simp [hn]; done) | exact rc hc hn | exact rc hc hn.1 | exact rc hc hn.2 | exact rc hc hn.2.1 | exact rc hc hn.2.2)
     subst ex
     obtain ⟨ahQ, nhQ, chQ, ex, hQ⟩ := f5.out (by first | (simp [hn]; done) | exact rc hc hn | exact rc hc hn.1 | exact rc hc hn.2 | exact rc hc hn.2.1 | exact rc hc hn.2.2)
     subst ex
     subst ea
     simp only [puts, Act.put, lsA, lsZ, lsS]
     go_simp
     with_reducible refine (make_any b _ _ _ (digs (val l / val (digs G))) _ hQ.toNatAt (by have := hQ.len; have := HL1.out; omega)).mono ?_
     rintro e w1 ⟨ahU, nhU, chU, rfl, hU, h1⟩
     rw [H1.out] at hU ⊢
     refine hK.out _ _ ?_
     exact ⟨y10, .bool b, y12, y13, y14, .slice ahQ nhQ chQ, .agg #[.bool (neg Q.num), .slice ahU nhU chU], y17, y18, y19, y20, by simp only [puts, Act.put, lsA, lsZ, lsS], below_later hb h1, Nat.le_trans hsz h1.size, vg1.past h1, vg2.past h1, vhG.past h1, cb1.past h1 (Nat.lt_of_lt_of_le lb1 hsz), xr.past h1 (Nat.lt_of_lt_of_le lr hsz), fun h => (pr.out (upd_off h)).past h1 (Nat.lt_of_lt_of_le lr hsz), uo f0 rfl, fun h => rfl, uo f2 rfl, uo f3 rfl, uo f4 rfl, fun h => (f5.out (upd_of rfl h)).past h1, fun _ => ⟨_, _, _, rfl, hU.mono hsz⟩, uo f7 rfl, uo f8 rfl, fun h => (f9.out (upd_of rfl h)).past h1, fun h => absurd (hc.reach (f := 8) (s := 10) (l := 6) (by kernel_rfl) (upd_of rfl h)) (by rw [hun]; decide), fun h => (f11.out (upd_of rfl h)).past h1 (Nat.lt_of_lt_of_le lr hsz), trivial⟩
   · intro dd aa ww K hc hun hn hI hK
     obtain ⟨y10, y11, y12, y13, y14, y15, y16, y17, y18, y19, y20, ea, hb, hsz, vg1, vg2, vhG, cb1, xr, pr, f0, f1, f2, f3, f4, f5, f6, f7, f8, f9, f10, f11, _⟩ := hI
     try simp [Region.binds] at hn
     subst ea
     simp only [puts, Act.put, lsA, lsZ, lsS]
     go_simp
     refine hK.out _ _ ?_
     exact ⟨y10, y11, y12, y13, y14, y15, y16, .slice a2 n2 c2, y18, y19, y20, by simp only [puts, Act.put, lsA, lsZ, lsS], hb, hsz, vg1, vg2, vhG, cb1, xr, fun h => (pr.out (upd_off h)), uo f0 rfl, uo f1 rfl, uo f2 rfl, uo f3 rfl, uo f4 rfl, uo f5 rfl, uo f6 rfl, fun _ => rfl, uo f8 rfl, uo f9 rfl, uo f10 rfl, uo f11 rfl, trivial⟩
   · intro dd aa ww K hc hun hn hI hK
     obtain ⟨y10, y11, y12, y13, y14, y15, y16, y17, y18, y19, y20, ea, hb, hsz, vg1, vg2, vhG, cb1, xr, pr, f0, f1, f2, f3, f4, f5, f6, f7, f8, f9, f10, f11, _⟩ := hI
     try simp [Region.binds] at hn
     subst ea
     simp only [puts, Act.put, lsA, lsZ, lsS]
     go_simp
     refine hK.out _ _ ?_
     exact ⟨y10, y11, y12, y13, y14, y15, y16, y17, .slice ahG nhG chG, y19, y20, by simp only [puts, Act.put, lsA, lsZ, lsS], hb, hsz, vg1, vg2, vhG, cb1, xr, fun h => (pr.out (upd_off h)), uo f0 rfl, uo f1 rfl, uo f2 rfl, uo f3 rfl, uo f4 rfl, uo f5 rfl, uo f6 rfl, uo f7 rfl, fun _ => rfl, uo f9 rfl, uo f10 rfl, uo f11 rfl, trivial⟩
   · intro dd aa ww K hc hun hn hI hK
     obtain ⟨y10, y11, y12, y13, y14, y15, y16, y17, y18, y19, y20, ea, hb, hsz, vg1, vg2, vhG, cb1, xr, pr, f0, f1, f2, f3, f4, f5, f6, f7, f8, f9, f10, f11, _⟩ := hI
     try simp [Region.binds] at hn
     have ex := f7.out (by first | (simp [hn]; done) | exact rc hc hn | exact rc hc hn.1 | exact rc hc hn.2 | exact rc hc hn.2.1 | exact rc hc hn.2.2)
     subst ex
     have ex := f8.out (by first | (simp [hn]; done) | exact rc hc hn | exact rc hc hn.1 | exact rc hc hn.2 | exact rc hc hn.2.1 | exact rc hc hn.2.2)
     subst ex
     subst ea
     simp only [puts, Act.put, lsA, lsZ, lsS]
     go_simp
     with_reducible refine (by05_any _ _ _ l2 _ _ _ (digs G) _ vg2 vhG.toNatAt (by omega) (by omega) HG0.out).mono ?_
     rintro e w1 ⟨ahD, nhD, chD, rfl, hD, h1⟩
     rw [H2.out] at hD
     refine hK.out _ _ ?_
     exact ⟨y10, y11, y12, y13, y14, y15, y16, .slice a2 n2 c2, .slice ahG nhG chG, .slice ahD nhD chD, y20, by simp only [puts, Act.put, lsA, lsZ, lsS], below_later hb h1, Nat.le_trans hsz h1.size, vg1.past h1, vg2.past h1, vhG.past h1, cb1.past h1 (Nat.lt_of_lt_of_le lb1 hsz), xr.past h1 (Nat.lt_of_lt_of_le lr hsz), fun h => (pr.out (upd_off h)).past h1 (Nat.lt_of_lt_of_le lr hsz), uo f0 rfl, uo f1 rfl, uo f2 rfl, uo f3 rfl, uo f4 rfl, fun h => (f5.out (upd_of rfl h)).past h1, fun h => (f6.out (upd_of rfl h)).past h1, fun h => rfl, fun h => rfl, fun _ => ⟨_, _, _, rfl, hD.mono hsz⟩, fun h => absurd (hc.reach (f := 8) (s := 10) (l := 9) (by kernel_rfl) (upd_of rfl h)) (by rw [hun]; decide), fun h => (f11.out (upd_of rfl h)).past h1 (Nat.lt_of_lt_of_le lr hsz), trivial⟩
   · intro dd aa ww K hc hun hn hI hK
     obtain ⟨y10, y11, y12, y13, y14, y15, y16, y17, y18, y19, y20, ea, hb, hsz, vg1, vg2, vhG, cb1, xr, pr, f0, f1, f2, f3, f4, f5, f6, f7, f8, f9, f10, f11, _⟩ := hI
     try simp [Region.binds] at hn
     obtain ⟨ahU, nhU, chU, ex, hU⟩ := f6.out (by first | (simp [hn]; done) | exact rc hc hn | exact rc hc hn.1 | exact rc hc hn.2 | exact rc hc hn.2.1 | exact rc hc hn.2.2)
     subst ex
     obtain ⟨ahD, nhD, chD, ex, hD⟩ := f9.out (by first | (simp [hn]; done) | exact rc hc hn | exact rc hc hn.1 | exact rc hc hn.2 | exact rc hc hn.2.1 | exact rc hc hn.2.2)
     subst ex
     subst ea
     simp only [puts, Act.put, lsA, lsZ, lsS]
     go_simp
     refine hK.out _ _ ?_
     exact ⟨y10, y11, y12, y13, y14, y15, .agg #[.bool (neg Q.num), .slice ahU nhU chU], y17, y18, .slice ahD nhD chD, .agg #[.bool (neg Q.num), .slice ahU nhU chU, .slice ahD nhD chD], by simp only [puts, Act.put, lsA, lsZ, lsS], hb, hsz, vg1, vg2, vhG, cb1, xr, fun h => (pr.out (upd_off h)), uo f0 rfl, uo f1 rfl, uo f2 rfl, uo f3 rfl, uo f4 rfl, uo f5 rfl, uo f6 rfl, uo f7 rfl, uo f8 rfl, uo f9 rfl, fun _ => rfl, fun h => absurd (hc.reach (f := 8) (s := 11) (l := 10) (by kernel_rfl) (upd_of rfl h)) (by rw [hun]; decide), trivial⟩
   · intro dd aa ww K hc hun hn hI hK
     obtain ⟨y10, y11, y12, y13, y14, y15, y16, y17, y18, y19, y20, ea, hb, hsz, vg1, vg2, vhG, cb1, xr, pr, f0, f1, f2, f3, f4, f5, f6, f7, f8, f9, f10, f11, _⟩ := hI
     try simp [Region.binds] at hn
     obtain ⟨ahU, nhU, chU, ex, hU⟩ := f6.out (by first | (simp [hn]; done) | exact rc hc hn | exact rc hc hn.1 | exact rc hc hn.2 | exact rc hc hn.2.1 | exact rc hc hn.2.2)
     subst ex
     obtain ⟨ahD, nhD, chD, ex, hD⟩ := f9.out (by first | (simp [hn]; done) | exact rc hc hn | exact rc hc hn.1 | exact rc hc hn.2 | exact rc hc hn.2.1 | exact rc hc hn.2.2)
     subst ex
     have ex : y20 = .agg #[.bool (neg Q.num), .slice ahU nhU chU, .slice ahD nhD chD] := f10.out (by first | (simp [hn]; done) | exact rc hc hn | exact rc hc hn.1 | exact rc hc hn.2 | exact rc hc hn.2.1 | exact rc hc hn.2.2)
     subst ex
     have x3 := xr
     obtain ⟨v0, v1, v2, z0, z1, z2, z3, z4, z5, _, _, _⟩ := x3.three
     have hv : ∀ v ∈ ([.bool (neg Q.num), .slice ahU nhU chU, .slice ahD nhD chD] : List Value), notU v := by simp [notU_bool, notU_slice, notU_i64]
     subst ea
     simp only [puts, Act.put, lsA, lsZ, lsS]
     go_simp
     refine hK.out _ _ ?_
     exact ⟨y10, y11, y12, y13, y14, y15, .agg #[.bool (neg Q.num), .slice ahU nhU chU], y17, y18, .slice ahD nhD chD, .agg #[.bool (neg Q.num), .slice ahU nhU chU, .slice ahD nhD chD], by simp only [puts, Act.put, lsA, lsZ, lsS], hb.trans (below_setCells _ _ (by omega) [.bool (neg Q.num), .slice ahU nhU chU, .slice ahD nhD chD] 0 _), (by simpa using hsz), NatAt.sets [.bool (neg Q.num), .slice ahU nhU chU, .slice ahD nhD chD] 0 _ vg1 x3 (by simp) hv, NatAt.sets [.bool (neg Q.num), .slice ahU nhU chU, .slice ahD nhD chD] 0 _ vg2 x3 (by simp) hv, OwnAt.sets [.bool (neg Q.num), .slice ahU nhU chU, .slice ahD nhD chD] 0 _ vhG x3 (by simp) hv, Cells.sets (by omega) [.bool (neg Q.num), .slice ahU nhU chU, .slice ahD nhD chD] 0 _ cb1, BoxAt.sets [.bool (neg Q.num), .slice ahU nhU chU, .slice ahD nhD chD] _ 0 _ xr hv, fun h => absurd h (by simp [upd]), uo f0 rfl, uo f1 rfl, uo f2 rfl, uo f3 rfl, uo f4 rfl, fun h => ((f5.out (upd_of rfl h)).setsOff lr [.bool (neg Q.num), .slice ahU nhU chU, .slice ahD nhD chD]), fun h => ((f6.out (upd_of rfl h)).setsOff lr [.bool (neg Q.num), .slice ahU nhU chU, .slice ahD nhD chD]), uo f7 rfl, uo f8 rfl, fun h => ((f9.out (upd_of rfl h)).setsOff lr [.bool (neg Q.num), .slice ahU nhU chU, .slice ahD nhD chD]), fun h => rfl, fun _ => ⟨[.bool (neg Q.num), .slice ahU nhU chU, .slice ahD nhD chD], rfl, Cells.new x3 [.bool (neg Q.num), .slice ahU nhU chU, .slice ahD nhD chD] (by simp)⟩, trivial⟩
 intro dd aa w4 hd hI
 obtain ⟨y10, y11, y12, y13, y14, y15, y16, y17, y18, y19, y20, ea, hb, hsz, vg1, vg2, vhG, cb1, xr, pr, f0, f1, f2, f3, f4, f5, f6, f7, f8, f9, f10, f11, _⟩ := hI
 have ex := f0.out (hd 0 (by simp))
 subst ex
 have ex := f1.out (hd 1 (by simp))
 subst ex
 have ex := f2.out (hd 2 (by simp))
 subst ex
 have ex := f3.out (hd 3 (by simp))
 subst ex
 have ex := f4.out (hd 4 (by simp))
 subst ex
 obtain ⟨ahQ, nhQ, chQ, ex, hQ⟩ := f5.out (hd 5 (by simp))
 subst ex
 obtain ⟨ahU, nhU, chU, ex, hU⟩ := f6.out (hd 6 (by simp))
 subst ex
 have ex := f7.out (hd 7 (by simp))
 subst ex
 have ex := f8.out (hd 8 (by simp))
 subst ex
 obtain ⟨ahD, nhD, chD, ex, hD⟩ := f9.out (hd 9 (by simp))
 subst ex
 have ex : y20 = .agg #[.bool (neg Q.num), .slice ahU nhU chU, .slice ahD nhD chD] := f10.out (hd 10 (by simp))
 subst ex
 obtain ⟨vs11, e, h11⟩ := f11.out (hd 11 (by simp))
 cases e
 have lr := Nat.lt_of_lt_of_le lr hsz
 have qr0 := h11 0 (by simp)
 simp only [lgZ, lgS] at qr0
 have qr1 := h11 1 (by simp)
 simp only [lgZ, lgS] at qr1
 have qr2 := h11 2 (by simp)
 simp only [lgZ, lgS] at qr2
 subst ea
 simp only [puts, Act.put, lsA, lsZ, lsS]
 have hQ := hQ.mono szW
 have hU := hU.mono szW
 have hD := hD.mono szW
 have g1 := vg1
 have g2 := vg2
 have hG := vhG
 have lb1 := Nat.lt_of_lt_of_le lb1 hsz
 have qb10 := cb1 0 (by simp)
 simp only [lgZ, lgS] at qb10
 have qb11 := cb1 1 (by simp)
 simp only [lgZ, lgS] at qb11
 clear cb1
 have hB := hb
 clear pr
 clear hb hd
 go_wp2
 refine bodyPost_ret (v := .agg #[.bool (neg Q.num), .slice ahU nhU chU, .slice ahD nhD chD]) ?_ rfl ⟨_, _, _, _, _, _, rfl, hU, hD, hB⟩
 simp [results, Tryd.f49, go_sem, qr0, qr1, qr2]
end Go.Proofs.YtoecndogaklngaaDoor
