import Derived.Test.YtlkoenpdmlbhlaaGreatS0Cm
import Derived.Test.YtlkoenpdmlbhlaaGreatB3Cm
set_option linter.unusedVariables false
set_option linter.unusedSimpArgs false
namespace Go.Proofs.YtlkoenpdmlbhlaaGreat
open Go.RowKit
theorem inv_parts2 {q : Rat} (h : q ≠ 0) : neg q.num = neg (q⁻¹).num ∧ q.den = (q⁻¹).num.natAbs ∧ q.num.natAbs = (q⁻¹).den := by
 have hn : q.num ≠ 0 := fun e => h (Rat.num_eq_zero.1 e)
 obtain ⟨h1, h2⟩ := inv_parts hn
 refine ⟨?_, ?_, h2⟩
 · rw [← h1, neg_sg]
   simp [q.den_pos]
 · rw [← h1, natAbs_sg]
theorem rlen_inv {q : Rat} (h : q ≠ 0) : rlen q⁻¹ = rlen q := by
 obtain ⟨_, h1, h2⟩ := inv_parts2 h
 unfold rlen
 rw [← h1, ← h2, Nat.max_comm]
theorem product05_rat (p q : Rat) (a : Option Addr) (n c : Nat) (a2 : Option Addr) (n2 c2 : Nat) (a3 : Option Addr) (n3 c3 : Nat) (a4 : Option Addr) (n4 c4 : Nat) (w : World) (h1 : RatAt w p a n c a2 n2 c2) (h2 : RatAt w q a3 n3 c3 a4 n4 c4) (h3 : rlen p ≤ 17179869184) (h4 : rlen q ≤ 17179869184) :
 Calls Tryz.prog 99 #[.agg #[.bool (neg p.num), .slice a n c, .slice a2 n2 c2], .agg #[.bool (neg q.num), .slice a3 n3 c3, .slice a4 n4 c4]] w (RetRat w (p * q)) := Does.out product05_does p q _ _ _ _ _ _ _ _ _ _ _ _ w h1 h2 h3 h4
theorem num_len0 {q : Rat} : (digs q.num.natAbs).length = 0 ↔ q = 0 := by
 rw [digs_len0, Int.natAbs_eq_zero, Rat.num_eq_zero]
set_option maxRecDepth 100000 in
set_option maxHeartbeats 8000000 in
theorem div05_rat (p q : Rat) (a1 : Option Addr) (n1 c1 : Nat) (a2 : Option Addr) (n2 c2 : Nat) (a3 : Option Addr) (n3 c3 : Nat) (a4 : Option Addr) (n4 c4 : Nat) (w : World) (g1 : NatAt w a1 n1 c1 (digs p.num.natAbs)) (g2 : NatAt w a2 n2 c2 (digs p.den)) (g3 : NatAt w a3 n3 c3 (digs q.num.natAbs)) (g4 : NatAt w a4 n4 c4 (digs q.den)) (hs1 : n1 ≤ 17179869184) (hs2 : n2 ≤ 17179869184) (hs3 : n3 ≤ 17179869184) (hs4 : n4 ≤ 17179869184) (hq : q ≠ 0):
 Calls Tryz.prog 60 #[.agg #[.bool (neg p.num), .slice a1 n1 c1, .slice a2 n2 c2], .agg #[.bool (neg q.num), .slice a3 n3 c3, .slice a4 n4 c4]] w (RetOk w (p / q)) := by
 have lp : rlen p ≤ 17179869184 := by unfold rlen; have := g1.len; have := g2.len; omega
 have lq : rlen q ≤ 17179869184 := by unfold rlen; have := g3.len; have := g4.len; omega
 have t3 : ((n3 : Int) == 0) = false := by rw [beq_eq_false_iff_ne]; intro h0; exact hq (num_len0.1 (by have := g3.len; omega))
 rw [Rat.div_def]
 obtain ⟨e1, e2, e5⟩ := inv_parts2 hq
 have e3 := chkR_canon q
 rw [← rlen_inv hq] at lq
 obtain ⟨m, hm⟩ : ∃ m, q⁻¹ = m := ⟨_, rfl⟩
 rw [hm] at e1 e2 e5 lq ⊢
 rw [e2] at g4 e3
 rw [e5] at g3 e3
 rw [e1] at e3 ⊢
 obtain ⟨R, hR⟩ : ∃ R, p * m = R := ⟨_, rfl⟩
 rw [hR]
 have HR := Lib.hid hR
 have E3 := Lib.hid e3
 have E4 := Lib.hid (chkR_canon p)
 have LP := Lib.hid lp
 have LQ := Lib.hid lq
 clear hR hm hq e1 e2 e3 e5 lp lq
 go_enter Tryz.func60, Tryz.ntmps60
 have hB := Below.refl w.heap.size w
 go_wp2_with fail
 obtain ⟨w1, hW, hz0, hb, q, f⟩ := box1g w (w.heap.size) (by omega) #[.bool (neg p.num), .slice a1 n1 c1, .slice a2 n2 c2] 27
 rw [hW]
 clear hW
 have g1 := g1.past hb
 have g2 := g2.past hb
 have g3 := g3.past hb
 have g4 := g4.past hb
 have hB := below_later hB hb
 clear hb
 have lx : w.heap.size < w1.heap.size := by omega
 have qx0 := q 0; have qx1 := q 1; have qx2 := q 2
 simp only [lgA, lgZ, lgS] at qx0 qx1 qx2
 clear q f
 obtain ⟨w2, hW, hz1, hb, q, f⟩ := box1g w1 (w.heap.size + 1) (by omega) #[.bool (neg m.num), .slice a3 n3 c3, .slice a4 n4 c4] 27
 rw [hW]
 clear hW
 have g1 := g1.past hb
 have g2 := g2.past hb
 have g3 := g3.past hb
 have g4 := g4.past hb
 obtain ⟨qx0, qx1, qx2, lx⟩ := bq3 hb lx qx0 qx1 qx2
 have hB := below_later hB hb
 clear hb
 have ly : w.heap.size + 1 < w2.heap.size := by omega
 have qy0 := q 0; have qy1 := q 1; have qy2 := q 2
 simp only [lgA, lgZ, lgS] at qy0 qy1 qy2
 clear q f
 obtain ⟨w3, hW, hz2, hb, q, f⟩ := box1g w2 (w.heap.size + 1 + 1) (by omega) #[.bool false, .slice none 0 0, .slice none 0 0] 27
 rw [hW]
 clear hW
 have g1 := g1.past hb
 have g2 := g2.past hb
 have g3 := g3.past hb
 have g4 := g4.past hb
 obtain ⟨qx0, qx1, qx2, lx⟩ := bq3 hb lx qx0 qx1 qx2
 obtain ⟨qy0, qy1, qy2, ly⟩ := bq3 hb ly qy0 qy1 qy2
 have hB := below_later hB hb
 clear hb
 have lr : w.heap.size + 1 + 1 < w3.heap.size := by omega
 have qr0 := q 0; have qr1 := q 1; have qr2 := q 2
 simp only [lgA, lgZ, lgS] at qr0 qr1 qr2
 have xr : BoxAt w3 (w.heap.size + 1 + 1) 3 := BoxAt.of q f rfl (by simp [notU_bool, notU_slice, notU_i64])
 clear q f
 clear hz0
 clear hz1
 clear hz2
 with_reducible refine (check05_any _ _ _ _ (digs p.num.natAbs) _ _ _ (digs p.den) _ g1 g2 (by omega) (by omega)).mono ?_
 rintro e w4 ⟨rfl, hb⟩
 have g1 := g1.past hb
 have g2 := g2.past hb
 have g3 := g3.past hb
 have g4 := g4.past hb
 obtain ⟨qx0, qx1, qx2, lx⟩ := bq3 hb lx qx0 qx1 qx2
 obtain ⟨qy0, qy1, qy2, ly⟩ := bq3 hb ly qy0 qy1 qy2
 have xr := xr.past hb lr
 obtain ⟨qr0, qr1, qr2, lr⟩ := bq3 hb lr qr0 qr1 qr2
 have hB := below_later hB hb
 clear hb
 rw [E4.out]
 go_wp2_with fail
 with_reducible refine (check05_any _ _ _ _ (digs m.den) _ _ _ (digs m.num.natAbs) _ g3 g4 (by omega) (by omega)).mono ?_
 rintro e w5 ⟨rfl, hb⟩
 have g1 := g1.past hb
 have g2 := g2.past hb
 have g3 := g3.past hb
 have g4 := g4.past hb
 obtain ⟨qx0, qx1, qx2, lx⟩ := bq3 hb lx qx0 qx1 qx2
 obtain ⟨qy0, qy1, qy2, ly⟩ := bq3 hb ly qy0 qy1 qy2
 have xr := xr.past hb lr
 obtain ⟨qr0, qr1, qr2, lr⟩ := bq3 hb lr qr0 qr1 qr2
 have hB := below_later hB hb
 clear hb
 rw [E3.out]
 go_wp2_with fail
 have szW := hB.size
 refine wp_region_inv (by kernel_rfl) rfl (by kernel_rfl) (fun A0 V0 dd aa ww => ∃ (y23 y24 y25 y26 y5 : Value), aa = puts A0 [(23, y23), (24, y24), (25, y25), (26, y26), (5, y5)] ∧ Below (w).heap.size (w) ww ∧ V0.heap.size ≤ ww.heap.size ∧ NatAt ww a1 n1 c1 (digs p.num.natAbs) ∧ NatAt ww a2 n2 c2 (digs p.den) ∧ NatAt ww a3 n3 c3 (digs m.den) ∧ NatAt ww a4 n4 c4 (digs m.num.natAbs) ∧ Cells ww (w.heap.size) [.bool (neg p.num), .slice a1 n1 c1, .slice a2 n2 c2] ∧ Cells ww (w.heap.size + 1) [.bool (neg m.num), .slice a3 n3 c3, .slice a4 n4 c4] ∧ BoxAt ww (w.heap.size + 1 + 1) 3 ∧ Shut (dd 4 = false → Cells ww (w.heap.size + 1 + 1) [.bool false, .slice none 0 0, .slice none 0 0]) ∧ Shut (dd 0 = true → y23 = .agg #[.bool (neg p.num), .slice a1 n1 c1, .slice a2 n2 c2]) ∧ Shut (dd 1 = true → y24 = .agg #[.bool (neg m.num), .slice a3 n3 c3, .slice a4 n4 c4]) ∧ Shut (dd 2 = true → y25 = .agg #[.bool (neg m.num), .slice a4 n4 c4, .slice a3 n3 c3]) ∧ Shut (dd 3 = true → RatV V0.heap.size (R) y26 ww) ∧ Shut (dd 4 = true → CellsV (w.heap.size + 1 + 1) y26 ww) ∧ Shut (dd 5 = true → y5 = .int .i64 0) ∧ True) ?_ ?_ ?_
 · exact ⟨_, _, _, _, _, puts_self _ [23, 24, 25, 26, 5], hB.drew, Nat.le_refl _, g1.drew, g2.drew, g3.drew, g4.drew, (by intro k hk; simp at hk; rcases (by omega : k = 0 ∨ k = 1 ∨ k = 2) with rfl | rfl | rfl <;> assumption), (by intro k hk; simp at hk; rcases (by omega : k = 0 ∨ k = 1 ∨ k = 2) with rfl | rfl | rfl <;> assumption), xr.drew, (fun _ => by intro k hk; simp at hk; rcases (by omega : k = 0 ∨ k = 1 ∨ k = 2) with rfl | rfl | rfl <;> assumption), fun h => (by cases h), fun h => (by cases h), fun h => (by cases h), fun h => (by cases h), fun h => (by cases h), fun h => (by cases h), trivial⟩
 · refine Steps.cons ?_ (Steps.cons ?_ (Steps.cons ?_ (Steps.cons ?_ (Steps.cons ?_ (Steps.cons ?_ (Steps.nil))))))
   · intro dd aa ww K hc hun hn hI hK
     obtain ⟨y23, y24, y25, y26, y5, ea, hb, hsz, vg1, vg2, vg3, vg4, cx, cy, xr, pr, f0, f1, f2, f3, f4, f5, _⟩ := hI
     try simp [Region.binds] at hn
     have e0 := cx 0 (by simp)
     simp only [lgZ, lgS] at e0
     have e1 := cx 1 (by simp)
     simp only [lgZ, lgS] at e1
     have e2 := cx 2 (by simp)
     simp only [lgZ, lgS] at e2
     subst ea
     simp only [puts, Act.put, lsA, lsZ, lsS]
     go_simp
     refine hK.out _ _ ?_
     exact ⟨.agg #[.bool (neg p.num), .slice a1 n1 c1, .slice a2 n2 c2], y24, y25, y26, y5, by simp only [puts, Act.put, lsA, lsZ, lsS], hb, hsz, vg1, vg2, vg3, vg4, cx, cy, xr, fun h => (pr.out (upd_off h)), fun _ => rfl, uo f1 rfl, uo f2 rfl, uo f3 rfl, uo f4 rfl, uo f5 rfl, trivial⟩
   · intro dd aa ww K hc hun hn hI hK
     obtain ⟨y23, y24, y25, y26, y5, ea, hb, hsz, vg1, vg2, vg3, vg4, cx, cy, xr, pr, f0, f1, f2, f3, f4, f5, _⟩ := hI
     try simp [Region.binds] at hn
     have e0 := cy 0 (by simp)
     simp only [lgZ, lgS] at e0
     have e1 := cy 1 (by simp)
     simp only [lgZ, lgS] at e1
     have e2 := cy 2 (by simp)
     simp only [lgZ, lgS] at e2
     subst ea
     simp only [puts, Act.put, lsA, lsZ, lsS]
     go_simp
     refine hK.out _ _ ?_
     exact ⟨y23, .agg #[.bool (neg m.num), .slice a3 n3 c3, .slice a4 n4 c4], y25, y26, y5, by simp only [puts, Act.put, lsA, lsZ, lsS], hb, hsz, vg1, vg2, vg3, vg4, cx, cy, xr, fun h => (pr.out (upd_off h)), uo f0 rfl, fun _ => rfl, uo f2 rfl, uo f3 rfl, uo f4 rfl, uo f5 rfl, trivial⟩
   · intro dd aa ww K hc hun hn hI hK
     obtain ⟨y23, y24, y25, y26, y5, ea, hb, hsz, vg1, vg2, vg3, vg4, cx, cy, xr, pr, f0, f1, f2, f3, f4, f5, _⟩ := hI
     try simp [Region.binds] at hn
     have ex := f1.out (by first | (simp [hn]; done) | exact rc hc hn | exact rc hc hn.1 | exact rc hc hn.2 | exact rc hc hn.2.1 | exact rc hc hn.2.2)
     subst ex
     subst ea
     simp only [puts, Act.put, lsA, lsZ, lsS]
     go_simp
     with_reducible refine (over_any _ _ _ _ _ _ _ _).mono ?_
     rintro e w1 ⟨rfl, h1⟩
     refine hK.out _ _ ?_
     exact ⟨y23, .agg #[.bool (neg m.num), .slice a3 n3 c3, .slice a4 n4 c4], .agg #[.bool (neg m.num), .slice a4 n4 c4, .slice a3 n3 c3], y26, y5, by simp only [puts, Act.put, lsA, lsZ, lsS], below_later hb h1, Nat.le_trans hsz h1.size, vg1.past h1, vg2.past h1, vg3.past h1, vg4.past h1, cx.past h1 (Nat.lt_of_lt_of_le lx hsz), cy.past h1 (Nat.lt_of_lt_of_le ly hsz), xr.past h1 (Nat.lt_of_lt_of_le lr hsz), fun h => (pr.out (upd_off h)).past h1 (Nat.lt_of_lt_of_le lr hsz), uo f0 rfl, fun h => rfl, fun _ => rfl, fun h => (f3.out (upd_of rfl h)).past h1, fun h => (f4.out (upd_of rfl h)).past h1 (Nat.lt_of_lt_of_le lr hsz), uo f5 rfl, trivial⟩
   · intro dd aa ww K hc hun hn hI hK
     obtain ⟨y23, y24, y25, y26, y5, ea, hb, hsz, vg1, vg2, vg3, vg4, cx, cy, xr, pr, f0, f1, f2, f3, f4, f5, _⟩ := hI
     try simp [Region.binds] at hn
     have ex := f0.out (by first | (simp [hn]; done) | exact rc hc hn | exact rc hc hn.1 | exact rc hc hn.2 | exact rc hc hn.2.1 | exact rc hc hn.2.2)
     subst ex
     have ex := f2.out (by first | (simp [hn]; done) | exact rc hc hn | exact rc hc hn.1 | exact rc hc hn.2 | exact rc hc hn.2.1 | exact rc hc hn.2.2)
     subst ex
     subst ea
     simp only [puts, Act.put, lsA, lsZ, lsS]
     go_simp
     with_reducible refine (product05_rat p m _ _ _ _ _ _ _ _ _ _ _ _ _ ⟨vg1, vg2⟩ ⟨vg4, vg3⟩ LP.out LQ.out).mono ?_
     rintro e w1 ⟨ahAU, nhAU, chAU, ahAD, nhAD, chAD, rfl, hAU, hAD, h1⟩
     rw [HR.out] at hAU hAD ⊢
     refine hK.out _ _ ?_
     exact ⟨.agg #[.bool (neg p.num), .slice a1 n1 c1, .slice a2 n2 c2], y24, .agg #[.bool (neg m.num), .slice a4 n4 c4, .slice a3 n3 c3], .agg #[.bool (neg (R).num), .slice ahAU nhAU chAU, .slice ahAD nhAD chAD], y5, by simp only [puts, Act.put, lsA, lsZ, lsS], below_later hb h1, Nat.le_trans hsz h1.size, vg1.past h1, vg2.past h1, vg3.past h1, vg4.past h1, cx.past h1 (Nat.lt_of_lt_of_le lx hsz), cy.past h1 (Nat.lt_of_lt_of_le ly hsz), xr.past h1 (Nat.lt_of_lt_of_le lr hsz), fun h => (pr.out (upd_off h)).past h1 (Nat.lt_of_lt_of_le lr hsz), fun h => rfl, uo f1 rfl, fun h => rfl, fun _ => ⟨_, _, _, _, _, _, rfl, hAU.mono hsz, hAD.mono hsz⟩, fun h => absurd (hc.reach (f := 8) (s := 4) (l := 3) (by kernel_rfl) (upd_of rfl h)) (by rw [hun]; decide), uo f5 rfl, trivial⟩
   · intro dd aa ww K hc hun hn hI hK
     obtain ⟨y23, y24, y25, y26, y5, ea, hb, hsz, vg1, vg2, vg3, vg4, cx, cy, xr, pr, f0, f1, f2, f3, f4, f5, _⟩ := hI
     try simp [Region.binds] at hn
     obtain ⟨ahAU, nhAU, chAU, ahAD, nhAD, chAD, ex, hAU, hAD⟩ := f3.out (by first | (simp [hn]; done) | exact rc hc hn | exact rc hc hn.1 | exact rc hc hn.2 | exact rc hc hn.2.1 | exact rc hc hn.2.2)
     subst ex
     have x3 := xr
     obtain ⟨v0, v1, v2, z0, z1, z2, z3, z4, z5, _, _, _⟩ := x3.three
     have hv : ∀ v ∈ ([.bool (neg (R).num), .slice ahAU nhAU chAU, .slice ahAD nhAD chAD] : List Value), notU v := by simp [notU_bool, notU_slice, notU_i64]
     subst ea
     simp only [puts, Act.put, lsA, lsZ, lsS]
     go_simp
     refine hK.out _ _ ?_
     exact ⟨y23, y24, y25, .agg #[.bool (neg (R).num), .slice ahAU nhAU chAU, .slice ahAD nhAD chAD], y5, by simp only [puts, Act.put, lsA, lsZ, lsS], hb.trans (below_setCells _ _ (by omega) [.bool (neg (R).num), .slice ahAU nhAU chAU, .slice ahAD nhAD chAD] 0 _), (by simpa using hsz), NatAt.sets [.bool (neg (R).num), .slice ahAU nhAU chAU, .slice ahAD nhAD chAD] 0 _ vg1 x3 (by simp) hv, NatAt.sets [.bool (neg (R).num), .slice ahAU nhAU chAU, .slice ahAD nhAD chAD] 0 _ vg2 x3 (by simp) hv, NatAt.sets [.bool (neg (R).num), .slice ahAU nhAU chAU, .slice ahAD nhAD chAD] 0 _ vg3 x3 (by simp) hv, NatAt.sets [.bool (neg (R).num), .slice ahAU nhAU chAU, .slice ahAD nhAD chAD] 0 _ vg4 x3 (by simp) hv, Cells.sets (by omega) [.bool (neg (R).num), .slice ahAU nhAU chAU, .slice ahAD nhAD chAD] 0 _ cx, Cells.sets (by omega) [.bool (neg (R).num), .slice ahAU nhAU chAU, .slice ahAD nhAD chAD] 0 _ cy, BoxAt.sets [.bool (neg (R).num), .slice ahAU nhAU chAU, .slice ahAD nhAD chAD] _ 0 _ xr hv, fun h => absurd h (by simp [upd]), uo f0 rfl, uo f1 rfl, uo f2 rfl, fun h => ((f3.out (upd_of rfl h)).setsOff lr [.bool (neg (R).num), .slice ahAU nhAU chAU, .slice ahAD nhAD chAD]), fun _ => ⟨[.bool (neg (R).num), .slice ahAU nhAU chAU, .slice ahAD nhAD chAD], rfl, Cells.new x3 [.bool (neg (R).num), .slice ahAU nhAU chAU, .slice ahAD nhAD chAD] (by simp)⟩, uo f5 rfl, trivial⟩
   · intro dd aa ww K hc hun hn hI hK
     obtain ⟨y23, y24, y25, y26, y5, ea, hb, hsz, vg1, vg2, vg3, vg4, cx, cy, xr, pr, f0, f1, f2, f3, f4, f5, _⟩ := hI
     try simp [Region.binds] at hn
     subst ea
     simp only [puts, Act.put, lsA, lsZ, lsS]
     go_simp
     refine hK.out _ _ ?_
     exact ⟨y23, y24, y25, y26, .int .i64 0, by simp only [puts, Act.put, lsA, lsZ, lsS], hb, hsz, vg1, vg2, vg3, vg4, cx, cy, xr, fun h => (pr.out (upd_off h)), uo f0 rfl, uo f1 rfl, uo f2 rfl, uo f3 rfl, uo f4 rfl, fun _ => rfl, trivial⟩
 intro dd aa w6 hd hI
 obtain ⟨y23, y24, y25, y26, y5, ea, hb, hsz, vg1, vg2, vg3, vg4, cx, cy, xr, pr, f0, f1, f2, f3, f4, f5, _⟩ := hI
 have ex := f0.out (hd 0 (by simp))
 subst ex
 have ex := f1.out (hd 1 (by simp))
 subst ex
 have ex := f2.out (hd 2 (by simp))
 subst ex
 obtain ⟨ahAU, nhAU, chAU, ahAD, nhAD, chAD, ex, hAU, hAD⟩ := f3.out (hd 3 (by simp))
 subst ex
 obtain ⟨vs4, e, h4⟩ := f4.out (hd 4 (by simp))
 cases e
 have ex := f5.out (hd 5 (by simp))
 subst ex
 have lr := Nat.lt_of_lt_of_le lr hsz
 have qr0 := h4 0 (by simp)
 simp only [lgZ, lgS] at qr0
 have qr1 := h4 1 (by simp)
 simp only [lgZ, lgS] at qr1
 have qr2 := h4 2 (by simp)
 simp only [lgZ, lgS] at qr2
 subst ea
 simp only [puts, Act.put, lsA, lsZ, lsS]
 have hAU := hAU.mono szW
 have hAD := hAD.mono szW
 have g1 := vg1
 have g2 := vg2
 have g3 := vg3
 have g4 := vg4
 have lx := Nat.lt_of_lt_of_le lx hsz
 have qx0 := cx 0 (by simp)
 simp only [lgZ, lgS] at qx0
 have qx1 := cx 1 (by simp)
 simp only [lgZ, lgS] at qx1
 have qx2 := cx 2 (by simp)
 simp only [lgZ, lgS] at qx2
 clear cx
 have ly := Nat.lt_of_lt_of_le ly hsz
 have qy0 := cy 0 (by simp)
 simp only [lgZ, lgS] at qy0
 have qy1 := cy 1 (by simp)
 simp only [lgZ, lgS] at qy1
 have qy2 := cy 2 (by simp)
 simp only [lgZ, lgS] at qy2
 clear cy
 have hB := hb
 clear pr
 clear hb hd
 go_wp2
 refine bodyPost_ret (v := .tuple #[.agg #[.bool (neg (R).num), .slice ahAU nhAU chAU, .slice ahAD nhAD chAD], .int .i64 0]) ?_ rfl ⟨_, _, _, _, _, _, rfl, hAU, hAD, hB⟩
 simp [results, Tryz.f60, go_sem, qr0, qr1, qr2]
end Go.Proofs.YtlkoenpdmlbhlaaGreat
