import Derived.Test.YtlkoenpdmlbhlaaGreatS0Sm
import Derived.Test.YtlkoenpdmlbhlaaGreatRatio16Sm
set_option linter.unusedVariables false
set_option linter.unusedSimpArgs false
namespace Go.Proofs.YtlkoenpdmlbhlaaGreat
open Go.RowKit
theorem digs_first {D : Nat} (h : D ≠ 0) : ∃ x l, digs D = x :: l ∧ x % 2 = D % 2 := by
 obtain ⟨x, l, e⟩ : ∃ x l, digs D = x :: l := by
  cases e : digs D with
  | nil => exact absurd (by rw [← val_digs D, e]; rfl) h
  | cons x l => exact ⟨x, l, rfl⟩
 refine ⟨x, l, e, ?_⟩
 have hv := val_digs D
 rw [e] at hv
 have : val (x :: l) = x + 18446744073709551616 * val l := rfl
 omega
set_option maxRecDepth 100000 in
set_option maxHeartbeats 4000000 in
theorem rround05_bad (b1 : Bool) (a1 : Option Addr) (n1 c1 : Nat) (a2 : Option Addr) (n2 c2 : Nat) (l1 l2 : List Nat) (w : World) (g1 : NatAt w a1 n1 c1 l1) (g2 : NatAt w a2 n2 c2 l2) (hs1 : n1 ≤ 40000) (hs2 : n2 ≤ 40000) (h : ¬ chk3 (b1, l1, l2) = 0) :
 Calls Tryz.prog 76 #[.agg #[.bool b1, .slice a1 n1 c1, .slice a2 n2 c2]] w (RetWho w (.error 6)) := by
 have gk : ∀ i, i < 1 → ((rawF [(b1, l1, l2)]) i).2.1.length ≤ 200000 ∧ ((rawF [(b1, l1, l2)]) i).2.2.length ≤ 200000 := fun i hi => by
  have f1 := g1.len; have f2 := g2.len
  match i, hi with
  | 0, _ => exact ⟨(show (l1).length ≤ 200000 by omega), (show (l2).length ≤ 200000 by omega)⟩
 have GK := Lib.hid gk
 have hb : allR (rawF [(b1, l1, l2)]) 1 = false := by rw [allR1]; exact decide_eq_false h
 have GB := Lib.hid hb
 clear gk hb
 go_enter Tryz.func76, Tryz.ntmps76
 have hB := Below.refl w.heap.size w
 go_wp2_with fail
 obtain ⟨w1, hW, hz0, hb, q, f⟩ := box1g w (w.heap.size) (by omega) #[.bool (b1), .slice a1 n1 c1, .slice a2 n2 c2] 27
 rw [hW]
 clear hW
 have g1 := g1.past hb
 have g2 := g2.past hb
 have hB := below_later hB hb
 clear hb
 have lx : w.heap.size < w1.heap.size := by omega
 have qx0 := q 0; have qx1 := q 1; have qx2 := q 2
 simp only [lgA, lgZ, lgS] at qx0 qx1 qx2
 clear q f
 obtain ⟨w2, hW, hz1, hb, q, f⟩ := box1g w1 (w.heap.size + 1) (by omega) #[.bool false, .slice none 0 0] 25
 rw [hW]
 clear hW
 have g1 := g1.past hb
 have g2 := g2.past hb
 obtain ⟨qx0, qx1, qx2, lx⟩ := bq3 hb lx qx0 qx1 qx2
 have hB := below_later hB hb
 clear hb
 have lr : w.heap.size + 1 < w2.heap.size := by omega
 have qr0 := q 0; have qr1 := q 1
 simp only [lgA, lgZ, lgS] at qr0 qr1
 have xr : BoxAt w2 (w.heap.size + 1) 2 := BoxAt.of q f rfl (by simp [notU_bool, notU_slice, notU_i64])
 clear q f
 obtain ⟨w3, hW, hz2, hb, q, f⟩ := box1g w2 (w.heap.size + 1 + 1) (by omega) #[.bool (b1), .slice a1 n1 c1, .slice a2 n2 c2] 27
 rw [hW]
 clear hW
 have g1 := g1.past hb
 have g2 := g2.past hb
 obtain ⟨qx0, qx1, qx2, lx⟩ := bq3 hb lx qx0 qx1 qx2
 have xr := xr.past hb lr
 obtain ⟨qr0, qr1, lr⟩ := bq2 hb lr qr0 qr1
 have hB := below_later hB hb
 clear hb
 have ls : w.heap.size + 1 + 1 < w3.heap.size := by omega
 have qs0 := q 0; have qs1 := q 1; have qs2 := q 2
 simp only [lgA, lgZ, lgS] at qs0 qs1 qs2
 clear q f
 clear hz0
 clear hz1
 clear hz2
 with_reducible refine (rfine05_any _ _ _ _ _ (RatsAt.raw1 (x := (b1, l1, l2)) ls qs0 qs1 qs2 g1 g2) GK.out).mono ?_
 rintro e w4 ⟨rfl, hb⟩
 have g1 := g1.past hb
 have g2 := g2.past hb
 obtain ⟨qx0, qx1, qx2, lx⟩ := bq3 hb lx qx0 qx1 qx2
 have xr := xr.past hb lr
 obtain ⟨qr0, qr1, lr⟩ := bq2 hb lr qr0 qr1
 obtain ⟨qs0, qs1, qs2, ls⟩ := bq3 hb ls qs0 qs1 qs2
 have hB := below_later hB hb
 clear hb
 rw [GB.out]
 have zf0 := xr.f 0 (by decide)
 have zf1 := xr.f 1 (by decide)
 go_wp2
 obtain ⟨w5, hW, hO, qN0, qN1, xN⟩ := store2 xr (.bool false) (.slice none 0 0) (Go.Proofs.YtlkoenpdmlbhlaaGreat.nu rfl) (Go.Proofs.YtlkoenpdmlbhlaaGreat.nu rfl)
 try rw [hW]
 clear hW
 have qx0 := (hO.cell (b2 := w.heap.size) (k := 0) (by omega)).trans qx0
 have qx1 := (hO.cell (b2 := w.heap.size) (k := 1) (by omega)).trans qx1
 have qx2 := (hO.cell (b2 := w.heap.size) (k := 2) (by omega)).trans qx2
 have lx : w.heap.size < w5.heap.size := by rw [hO.size]; exact lx
 have lr : w.heap.size + 1 < w5.heap.size := by rw [hO.size]; exact lr
 have qr0 := qN0
 have qr1 := qN1
 have xr := xN
 have hB := hO.below (by omega) hB
 clear hO qN0 qN1 xN zf0 zf1
 refine bodyPost_ret (v := .tuple #[.agg #[.bool false, .slice none 0 0], .int .i64 6]) ?_ rfl ⟨_, _, _, rfl, OwnAt.nil _ _, hB⟩
 simp [results, Tryz.f76, go_sem, qr0, qr1]
set_option maxRecDepth 100000 in
set_option maxHeartbeats 16000000 in
theorem rround05_rat (q : Rat) (a1 : Option Addr) (n1 c1 : Nat) (a2 : Option Addr) (n2 c2 : Nat) (w : World) (g1 : NatAt w a1 n1 c1 (digs q.num.natAbs)) (g2 : NatAt w a2 n2 c2 (digs q.den)) (hs1 : n1 ≤ 40000) (hs2 : n2 ≤ 40000) :
 Calls Tryz.prog 76 #[.agg #[.bool (neg q.num), .slice a1 n1 c1, .slice a2 n2 c2]] w (RetWho w (.ok (rndR q))) := by
 have gk : ∀ i, i < 1 → ((rawF [((neg q.num), (digs q.num.natAbs), (digs q.den))]) i).2.1.length ≤ 200000 ∧ ((rawF [((neg q.num), (digs q.num.natAbs), (digs q.den))]) i).2.2.length ≤ 200000 := fun i hi => by
  have f1 := g1.len; have f2 := g2.len
  match i, hi with
  | 0, _ => exact ⟨(show (digs q.num.natAbs).length ≤ 200000 by omega), (show (digs q.den).length ≤ 200000 by omega)⟩
 have GK := Lib.hid gk
 have hb : allR (rawF [((neg q.num), (digs q.num.natAbs), (digs q.den))]) 1 = true := by rw [allR1]; exact decide_eq_true (chk3_parts q)
 have GB := Lib.hid hb
 clear gk hb
 have hkey := round_key q.num.natAbs q.den
 have hle : rndN q.num.natAbs q.den ≤ q.num.natAbs / q.den + 1 := by rcases hkey with ⟨_, h⟩ | ⟨_, _, h⟩ | ⟨_, _, h⟩ | ⟨_, h⟩ <;> omega
 have e1 : val (digs q.num.natAbs) / val (digs q.den) = q.num.natAbs / q.den := by rw [val_digs, val_digs]
 have e2 : val (digs q.num.natAbs) % val (digs q.den) = q.num.natAbs % q.den := by rw [val_digs, val_digs]
 have e3 : val (digs (q.num.natAbs % q.den)) + val (digs (q.num.natAbs % q.den)) = 2 * (q.num.natAbs % q.den) := by rw [val_digs]; omega
 have e5 : sg (neg q.num) (val (digs (rndN q.num.natAbs q.den))) = rndR q := by rw [val_digs]; rfl
 have e6 : val (digs (q.num.natAbs / q.den)) + val (digs 1) = q.num.natAbs / q.den + 1 := by rw [val_digs, val_digs]
 have hz : val (digs q.den) ≠ 0 := by rw [val_digs]; exact q.den_nz
 have l1 : (digs (q.num.natAbs / q.den)).length ≤ n1 := Nat.le_trans (digs_len_mono (Nat.div_le_self _ _)) (by rw [← g1.len]; exact Nat.le_refl _)
 have l2 : (digs (q.num.natAbs % q.den)).length ≤ n1 := Nat.le_trans (digs_len_mono (Nat.mod_le _ _)) (by rw [← g1.len]; exact Nat.le_refl _)
 have l3 : (digs (rndN q.num.natAbs q.den)).length ≤ n1 + 2 := by have h1 := digs_len_mono hle; have h2 := digs_len_add (q.num.natAbs / q.den) 1; have e : (digs 1).length = 1 := rfl; omega
 obtain ⟨c, hc⟩ : ∃ c, cmpI (2 * (q.num.natAbs % q.den)) q.den = c := ⟨_, rfl⟩
 rw [hc] at hkey
 have e4 : cmpI (val (digs (2 * (q.num.natAbs % q.den)))) (val (digs q.den)) = c := by rw [val_digs, val_digs]; exact hc
 clear hc hle
 generalize rndN q.num.natAbs q.den = S at *
 generalize rndR q = Z at *
 generalize q.num.natAbs / q.den = D at *
 generalize q.num.natAbs % q.den = M at *
 have E1 := Lib.hid e1
 have E2 := Lib.hid e2
 have E3 := Lib.hid e3
 have E4 := Lib.hid e4
 have E5 := Lib.hid e5
 have E6 := Lib.hid e6
 have HZ := Lib.hid hz
 have L1 := Lib.hid l1
 have L2 := Lib.hid l2
 have L3 := Lib.hid l3
 have KEY := Lib.hid hkey
 clear e1 e2 e3 e4 e5 e6 hz l1 l2 l3 hkey
 go_enter Tryz.func76, Tryz.ntmps76
 have hB := Below.refl w.heap.size w
 go_wp2_with fail
 obtain ⟨w1, hW, hz0, hb, q, f⟩ := box1g w (w.heap.size) (by omega) #[.bool (neg q.num), .slice a1 n1 c1, .slice a2 n2 c2] 27
 rw [hW]
 clear hW
 have g1 := g1.past hb
 have g2 := g2.past hb
 have hB := below_later hB hb
 clear hb
 have lx : w.heap.size < w1.heap.size := by omega
 have qx0 := q 0; have qx1 := q 1; have qx2 := q 2
 simp only [lgA, lgZ, lgS] at qx0 qx1 qx2
 clear q f
 obtain ⟨w2, hW, hz1, hb, q, f⟩ := box1g w1 (w.heap.size + 1) (by omega) #[.bool false, .slice none 0 0] 25
 rw [hW]
 clear hW
 have g1 := g1.past hb
 have g2 := g2.past hb
 obtain ⟨qx0, qx1, qx2, lx⟩ := bq3 hb lx qx0 qx1 qx2
 have hB := below_later hB hb
 clear hb
 have lr : w.heap.size + 1 < w2.heap.size := by omega
 have qr0 := q 0; have qr1 := q 1
 simp only [lgA, lgZ, lgS] at qr0 qr1
 have xr : BoxAt w2 (w.heap.size + 1) 2 := BoxAt.of q f rfl (by simp [notU_bool, notU_slice, notU_i64])
 clear q f
 obtain ⟨w3, hW, hz2, hb, q, f⟩ := box1g w2 (w.heap.size + 1 + 1) (by omega) #[.bool (neg q.num), .slice a1 n1 c1, .slice a2 n2 c2] 27
 rw [hW]
 clear hW
 have g1 := g1.past hb
 have g2 := g2.past hb
 obtain ⟨qx0, qx1, qx2, lx⟩ := bq3 hb lx qx0 qx1 qx2
 have xr := xr.past hb lr
 obtain ⟨qr0, qr1, lr⟩ := bq2 hb lr qr0 qr1
 have hB := below_later hB hb
 clear hb
 have ls : w.heap.size + 1 + 1 < w3.heap.size := by omega
 have qs0 := q 0; have qs1 := q 1; have qs2 := q 2
 simp only [lgA, lgZ, lgS] at qs0 qs1 qs2
 clear q f
 clear hz0
 clear hz1
 clear hz2
 with_reducible refine (rfine05_any _ _ _ _ _ (RatsAt.raw1 (x := ((neg q.num), (digs q.num.natAbs), (digs q.den))) ls qs0 qs1 qs2 g1 g2) GK.out).mono ?_
 rintro e w4 ⟨rfl, hb⟩
 have g1 := g1.past hb
 have g2 := g2.past hb
 obtain ⟨qx0, qx1, qx2, lx⟩ := bq3 hb lx qx0 qx1 qx2
 have xr := xr.past hb lr
 obtain ⟨qr0, qr1, lr⟩ := bq2 hb lr qr0 qr1
 obtain ⟨qs0, qs1, qs2, ls⟩ := bq3 hb ls qs0 qs1 qs2
 have hB := below_later hB hb
 clear hb
 rw [GB.out]
 go_wp2_with fail
 with_reducible refine (rdiv_yes _ _ _ (digs q.num.natAbs) _ _ _ (digs q.den) _ g1 g2 (by omega) (by omega) HZ.out).mono ?_
 rintro e w5 ⟨ahQ, nhQ, chQ, ahL, nhL, chL, rfl, hQ, hL, hb⟩
 have hQ := hQ.mono hB.size
 have hL := hL.mono hB.size
 have g1 := g1.past hb
 have g2 := g2.past hb
 obtain ⟨qx0, qx1, qx2, lx⟩ := bq3 hb lx qx0 qx1 qx2
 have xr := xr.past hb lr
 obtain ⟨qr0, qr1, lr⟩ := bq2 hb lr qr0 qr1
 have hB := below_later hB hb
 clear hb
 rw [E1.out] at hQ
 rw [E2.out] at hL
 have bQ : nhQ ≤ n1 := by rw [← hQ.len]; exact L1.out
 have bL : nhL ≤ n1 := by rw [← hL.len]; exact L2.out
 go_wp2_with fail
 have szW := hB.size
 refine wp_region_inv (by kernel_rfl) rfl (by kernel_rfl) (fun A0 V0 dd aa ww => ∃ (y23 y24 y25 y26 y27 y28 y7 : Value), aa = puts A0 [(23, y23), (24, y24), (25, y25), (26, y26), (27, y27), (28, y28), (7, y7)] ∧ Below V0.heap.size V0 ww ∧ Shut (dd 0 = true → y23 = .slice ahL nhL chL) ∧ Shut (dd 1 = true → y24 = .slice ahL nhL chL) ∧ Shut (dd 2 = true → NatV V0.heap.size (digs (2 * M)) y25 ww) ∧ Shut (dd 3 = true → y26 = .pointer (some ⟨w.heap.size, 2, none⟩)) ∧ Shut (dd 4 = true → y27 = .slice a2 n2 c2) ∧ Shut (dd 5 = true → y28 = .int .i64 c) ∧ Shut (dd 6 = true → y7 = y28) ∧ True) ?_ ?_ ?_
 · exact ⟨_, _, _, _, _, _, _, puts_self _ [23, 24, 25, 26, 27, 28, 7], (Below.refl _ _).drew, fun h => (by cases h), fun h => (by cases h), fun h => (by cases h), fun h => (by cases h), fun h => (by cases h), fun h => (by cases h), fun h => (by cases h), trivial⟩
 · refine Steps.cons ?_ (Steps.cons ?_ (Steps.cons ?_ (Steps.cons ?_ (Steps.cons ?_ (Steps.cons ?_ (Steps.cons ?_ (Steps.nil)))))))
   · intro dd aa ww K hc hun hn hI hK
     obtain ⟨y23, y24, y25, y26, y27, y28, y7, ea, hb, f0, f1, f2, f3, f4, f5, f6, _⟩ := hI
     try simp [Region.binds] at hn
     subst ea
     simp only [puts, Act.put, lsA, lsZ, lsS]
     go_simp
     refine hK.out _ _ ?_
     exact ⟨.slice ahL nhL chL, y24, y25, y26, y27, y28, y7, by simp only [puts, Act.put, lsA, lsZ, lsS], hb, fun _ => rfl, uo f1 rfl, uo f2 rfl, uo f3 rfl, uo f4 rfl, uo f5 rfl, uo f6 rfl, trivial⟩
   · intro dd aa ww K hc hun hn hI hK
     obtain ⟨y23, y24, y25, y26, y27, y28, y7, ea, hb, f0, f1, f2, f3, f4, f5, f6, _⟩ := hI
     try simp [Region.binds] at hn
     subst ea
     simp only [puts, Act.put, lsA, lsZ, lsS]
     go_simp
     refine hK.out _ _ ?_
     exact ⟨y23, .slice ahL nhL chL, y25, y26, y27, y28, y7, by simp only [puts, Act.put, lsA, lsZ, lsS], hb, uo f0 rfl, fun _ => rfl, uo f2 rfl, uo f3 rfl, uo f4 rfl, uo f5 rfl, uo f6 rfl, trivial⟩
   · intro dd aa ww K hc hun hn hI hK
     obtain ⟨y23, y24, y25, y26, y27, y28, y7, ea, hb, f0, f1, f2, f3, f4, f5, f6, _⟩ := hI
     try simp [Region.binds] at hn
     have ex := f0.out (by first | (simp [hn]; done) | exact rc hc hn | exact rc hc hn.1 | exact rc hc hn.2 | exact rc hc hn.2.1 | exact rc hc hn.2.2)
     subst ex
     have ex := f1.out (by first | (simp [hn]; done) | exact rc hc hn | exact rc hc hn.1 | exact rc hc hn.2 | exact rc hc hn.2.1 | exact rc hc hn.2.2)
     subst ex
     subst ea
     simp only [puts, Act.put, lsA, lsZ, lsS]
     go_simp
     with_reducible refine (radd_any _ _ _ (digs M) _ _ _ (digs M) _ (hL.past hb).toNatAt (hL.past hb).toNatAt (by omega) (by omega)).mono ?_
     rintro e w1 ⟨ahT, nhT, chT, rfl, hT, h1⟩
     rw [E3.out] at hT
     refine hK.out _ _ ?_
     exact ⟨.slice ahL nhL chL, .slice ahL nhL chL, .slice ahT nhT chT, y26, y27, y28, y7, by simp only [puts, Act.put, lsA, lsZ, lsS], below_later hb h1, fun h => rfl, fun h => rfl, fun _ => ⟨_, _, _, rfl, hT.mono hb.size⟩, uo f3 rfl, uo f4 rfl, uo f5 rfl, uo f6 rfl, trivial⟩
   · intro dd aa ww K hc hun hn hI hK
     obtain ⟨y23, y24, y25, y26, y27, y28, y7, ea, hb, f0, f1, f2, f3, f4, f5, f6, _⟩ := hI
     try simp [Region.binds] at hn
     subst ea
     simp only [puts, Act.put, lsA, lsZ, lsS]
     go_simp
     refine hK.out _ _ ?_
     exact ⟨y23, y24, y25, .pointer (some ⟨w.heap.size, 2, none⟩), y27, y28, y7, by simp only [puts, Act.put, lsA, lsZ, lsS], hb, uo f0 rfl, uo f1 rfl, uo f2 rfl, fun _ => rfl, uo f4 rfl, uo f5 rfl, uo f6 rfl, trivial⟩
   · intro dd aa ww K hc hun hn hI hK
     obtain ⟨y23, y24, y25, y26, y27, y28, y7, ea, hb, f0, f1, f2, f3, f4, f5, f6, _⟩ := hI
     try simp [Region.binds] at hn
     have ex := f3.out (by first | (simp [hn]; done) | exact rc hc hn | exact rc hc hn.1 | exact rc hc hn.2 | exact rc hc hn.2.1 | exact rc hc hn.2.2)
     subst ex
     have e2 := (hb.cell (p := ⟨w.heap.size, 2, none⟩) lx).trans qx2
     subst ea
     simp only [puts, Act.put, lsA, lsZ, lsS]
     go_simp
     refine hK.out _ _ ?_
     exact ⟨y23, y24, y25, .pointer (some ⟨w.heap.size, 2, none⟩), .slice a2 n2 c2, y28, y7, by simp only [puts, Act.put, lsA, lsZ, lsS], hb, uo f0 rfl, uo f1 rfl, uo f2 rfl, fun h => rfl, fun _ => rfl, uo f5 rfl, uo f6 rfl, trivial⟩
   · intro dd aa ww K hc hun hn hI hK
     obtain ⟨y23, y24, y25, y26, y27, y28, y7, ea, hb, f0, f1, f2, f3, f4, f5, f6, _⟩ := hI
     try simp [Region.binds] at hn
     obtain ⟨ahT, nhT, chT, ex, hT⟩ := f2.out (by first | (simp [hn]; done) | exact rc hc hn | exact rc hc hn.1 | exact rc hc hn.2 | exact rc hc hn.2.1 | exact rc hc hn.2.2)
     subst ex
     have ex := f4.out (by first | (simp [hn]; done) | exact rc hc hn | exact rc hc hn.1 | exact rc hc hn.2 | exact rc hc hn.2.1 | exact rc hc hn.2.2)
     subst ex
     subst ea
     simp only [puts, Act.put, lsA, lsZ, lsS]
     go_simp
     with_reducible refine (rcmp_c (l := digs (2 * M)) (l2 := digs q.den) hT.toNatAt (g2.past hb)).mono ?_
     rintro e w1 ⟨rfl, h1⟩
     rw [E4.out]
     refine hK.out _ _ ?_
     exact ⟨y23, y24, .slice ahT nhT chT, y26, .slice a2 n2 c2, .int .i64 c, y7, by simp only [puts, Act.put, lsA, lsZ, lsS], below_later hb h1, uo f0 rfl, uo f1 rfl, fun h => (f2.out (upd_of rfl h)).past h1, uo f3 rfl, fun h => rfl, fun _ => rfl, fun h => absurd (hc.reach (f := 8) (s := 6) (l := 5) (by kernel_rfl) (upd_of rfl h)) (by rw [hun]; decide), trivial⟩
   · intro dd aa ww K hc hun hn hI hK
     obtain ⟨y23, y24, y25, y26, y27, y28, y7, ea, hb, f0, f1, f2, f3, f4, f5, f6, _⟩ := hI
     try simp [Region.binds] at hn
     have ex := f5.out (by first | (simp [hn]; done) | exact rc hc hn | exact rc hc hn.1 | exact rc hc hn.2 | exact rc hc hn.2.1 | exact rc hc hn.2.2)
     subst ex
     subst ea
     simp only [puts, Act.put, lsA, lsZ, lsS]
     go_simp
     refine hK.out _ _ ?_
     exact ⟨y23, y24, y25, y26, y27, .int .i64 c, .int .i64 c, by simp only [puts, Act.put, lsA, lsZ, lsS], hb, uo f0 rfl, uo f1 rfl, uo f2 rfl, uo f3 rfl, uo f4 rfl, fun h => rfl, fun _ => rfl, trivial⟩
 intro dd aa w6 hd hI
 obtain ⟨y23, y24, y25, y26, y27, y28, y7, ea, hb, f0, f1, f2, f3, f4, f5, f6, _⟩ := hI
 have ex := f0.out (hd 0 (by simp))
 subst ex
 have ex := f1.out (hd 1 (by simp))
 subst ex
 obtain ⟨ahT, nhT, chT, ex, hT⟩ := f2.out (hd 2 (by simp))
 subst ex
 have ex := f3.out (hd 3 (by simp))
 subst ex
 have ex := f4.out (hd 4 (by simp))
 subst ex
 have ex := f5.out (hd 5 (by simp))
 subst ex
 have ex : y7 = .int .i64 c := f6.out (hd 6 (by simp))
 subst ex
 subst ea
 simp only [puts, Act.put, lsA, lsZ, lsS]
 have hT := hT.mono szW
 have g1 := g1.past hb
 have g2 := g2.past hb
 have hQ := hQ.past hb
 have hL := hL.past hb
 obtain ⟨qx0, qx1, qx2, lx⟩ := bq3 hb lx qx0 qx1 qx2
 have xr := xr.past hb lr
 obtain ⟨qr0, qr1, lr⟩ := bq2 hb lr qr0 qr1
 have hB := below_later hB hb
 clear hb hd
 have hkey := KEY.out
 replace hkey : (c = 1 ∧ D + 1 = S) ∨ (c = 0 ∧ D % 2 = 1 ∧ D ≠ 0 ∧ D + 1 = S) ∨ (c = 0 ∧ D % 2 = 0 ∧ D ≠ 0 ∧ D = S) ∨ (c = 0 ∧ D = 0 ∧ D = S) ∨ (c = -1 ∧ D = S) := by
  by_cases h0 : D = 0
  · rcases hkey with h | ⟨_, h, _⟩ | ⟨h, _, h2⟩ | h
    · exact .inl h
    · omega
    · exact .inr (.inr (.inr (.inl ⟨h, h0, h2⟩)))
    · exact .inr (.inr (.inr (.inr h)))
  · rcases hkey with h | ⟨h, h2, h3⟩ | ⟨h, h2, h3⟩ | h
    · exact .inl h
    · exact .inr (.inl ⟨h, h2, h0, h3⟩)
    · exact .inr (.inr (.inl ⟨h, h2, h0, h3⟩))
    · exact .inr (.inr (.inr (.inr h)))
 rcases hkey with ⟨rfl, hs⟩ | ⟨rfl, ho, hd0, hs⟩ | ⟨rfl, ho, hd0, hs⟩ | ⟨rfl, hd0, hs⟩ | ⟨rfl, hs⟩
 · have HS := Lib.hid hs
   clear hs
   go_wp2_with fail
   with_reducible refine (rone05_any _).mono ?_
   rintro e w7 ⟨ahO, nhO, chO, rfl, hO, hb⟩
   have hO := hO.mono hB.size
   have g1 := g1.past hb
   have g2 := g2.past hb
   have hQ := hQ.past hb
   obtain ⟨qx0, qx1, qx2, lx⟩ := bq3 hb lx qx0 qx1 qx2
   have xr := xr.past hb lr
   obtain ⟨qr0, qr1, lr⟩ := bq2 hb lr qr0 qr1
   have hB := below_later hB hb
   clear hb
   have bO : nhO ≤ 1 := by rw [← hO.len]; exact Nat.le_refl _
   go_wp2_with fail
   with_reducible refine (radd_any _ _ _ (digs D) _ _ _ (digs 1) _ hQ.toNatAt hO.toNatAt (by omega) (by omega)).mono ?_
   rintro e w8 ⟨ahS, nhS, chS, rfl, hS, hb⟩
   have hS := hS.mono hB.size
   have g1 := g1.past hb
   have g2 := g2.past hb
   have hQ := hQ.past hb
   have hO := hO.past hb
   obtain ⟨qx0, qx1, qx2, lx⟩ := bq3 hb lx qx0 qx1 qx2
   have xr := xr.past hb lr
   obtain ⟨qr0, qr1, lr⟩ := bq2 hb lr qr0 qr1
   have hB := below_later hB hb
   clear hb
   rw [E6.out, HS.out] at hS
   have bS : nhS ≤ n1 + 2 := by rw [← hS.len]; exact L3.out
   go_wp2_with fail
   with_reducible refine (rsmake_any (neg q.num) _ _ _ (digs S) _ hS.toNatAt (by omega)).mono ?_
   rintro e w9 ⟨ahA, nhA, chA, rfl, hA, hb⟩
   have hA := hA.mono hB.size
   have g1 := g1.past hb
   have g2 := g2.past hb
   have hS := hS.past hb
   obtain ⟨qx0, qx1, qx2, lx⟩ := bq3 hb lx qx0 qx1 qx2
   have xr := xr.past hb lr
   obtain ⟨qr0, qr1, lr⟩ := bq2 hb lr qr0 qr1
   have hB := below_later hB hb
   clear hb
   rw [E5.out] at hA ⊢
   have zf0 := xr.f 0 (by decide)
   have zf1 := xr.f 1 (by decide)
   go_wp2
   obtain ⟨w10, hW, hO, qN0, qN1, xN⟩ := store2 xr (.bool (neg Z)) (.slice ahA nhA chA) (Go.Proofs.YtlkoenpdmlbhlaaGreat.nu rfl) (Go.Proofs.YtlkoenpdmlbhlaaGreat.nu rfl)
   try rw [hW]
   clear hW
   have hA := hO.own hA
   have qx0 := (hO.cell (b2 := w.heap.size) (k := 0) (by omega)).trans qx0
   have qx1 := (hO.cell (b2 := w.heap.size) (k := 1) (by omega)).trans qx1
   have qx2 := (hO.cell (b2 := w.heap.size) (k := 2) (by omega)).trans qx2
   have lx : w.heap.size < w10.heap.size := by rw [hO.size]; exact lx
   have lr : w.heap.size + 1 < w10.heap.size := by rw [hO.size]; exact lr
   have qr0 := qN0
   have qr1 := qN1
   have xr := xN
   have hB := hO.below (by omega) hB
   clear hO qN0 qN1 xN zf0 zf1
   refine bodyPost_ret (v := .tuple #[.agg #[.bool (neg Z), .slice ahA nhA chA], .int .i64 0]) ?_ rfl ⟨_, _, _, rfl, hA, hB⟩
   simp [results, Tryz.f76, go_sem, qr0, qr1]
 · have HS := Lib.hid hs
   clear hs
   obtain ⟨x0, xs, ex, hx2⟩ := digs_first hd0
   rw [ho] at hx2
   have E7 := Lib.hid ex
   clear ex ho hd0
   have hp1 : 0 < nhQ := by rw [← hQ.len, E7.out]; exact Nat.succ_pos _
   obtain ⟨bz, oz, rfl, hqc⟩ := hQ.cell.resolve_left (by omega)
   have hq1 := hqc 0 hp1
   rw [E7.out] at hq1
   simp only [Nat.add_zero] at hq1
   have hq0 : w6.cell? ⟨bz, oz, none⟩ = some (.int .u64 (x0 : Int)) := hq1
   clear hq1
   have tm4 : ((x0 : Int) % 2 == 1) = true := by rw [beq_iff_eq]; omega
   clear hqc
   go_wp2_with fail
   with_reducible refine (rone05_any _).mono ?_
   rintro e w7 ⟨ahO, nhO, chO, rfl, hO, hb⟩
   have hO := hO.mono hB.size
   have g1 := g1.past hb
   have g2 := g2.past hb
   have hQ := hQ.past hb
   obtain ⟨qx0, qx1, qx2, lx⟩ := bq3 hb lx qx0 qx1 qx2
   have xr := xr.past hb lr
   obtain ⟨qr0, qr1, lr⟩ := bq2 hb lr qr0 qr1
   have hB := below_later hB hb
   clear hb
   have bO : nhO ≤ 1 := by rw [← hO.len]; exact Nat.le_refl _
   go_wp2_with fail
   with_reducible refine (radd_any _ _ _ (digs D) _ _ _ (digs 1) _ hQ.toNatAt hO.toNatAt (by omega) (by omega)).mono ?_
   rintro e w8 ⟨ahS, nhS, chS, rfl, hS, hb⟩
   have hS := hS.mono hB.size
   have g1 := g1.past hb
   have g2 := g2.past hb
   have hQ := hQ.past hb
   have hO := hO.past hb
   obtain ⟨qx0, qx1, qx2, lx⟩ := bq3 hb lx qx0 qx1 qx2
   have xr := xr.past hb lr
   obtain ⟨qr0, qr1, lr⟩ := bq2 hb lr qr0 qr1
   have hB := below_later hB hb
   clear hb
   rw [E6.out, HS.out] at hS
   have bS : nhS ≤ n1 + 2 := by rw [← hS.len]; exact L3.out
   go_wp2_with fail
   with_reducible refine (rsmake_any (neg q.num) _ _ _ (digs S) _ hS.toNatAt (by omega)).mono ?_
   rintro e w9 ⟨ahA, nhA, chA, rfl, hA, hb⟩
   have hA := hA.mono hB.size
   have g1 := g1.past hb
   have g2 := g2.past hb
   have hS := hS.past hb
   obtain ⟨qx0, qx1, qx2, lx⟩ := bq3 hb lx qx0 qx1 qx2
   have xr := xr.past hb lr
   obtain ⟨qr0, qr1, lr⟩ := bq2 hb lr qr0 qr1
   have hB := below_later hB hb
   clear hb
   rw [E5.out] at hA ⊢
   have zf0 := xr.f 0 (by decide)
   have zf1 := xr.f 1 (by decide)
   go_wp2
   obtain ⟨w10, hW, hO, qN0, qN1, xN⟩ := store2 xr (.bool (neg Z)) (.slice ahA nhA chA) (Go.Proofs.YtlkoenpdmlbhlaaGreat.nu rfl) (Go.Proofs.YtlkoenpdmlbhlaaGreat.nu rfl)
   try rw [hW]
   clear hW
   have hA := hO.own hA
   have qx0 := (hO.cell (b2 := w.heap.size) (k := 0) (by omega)).trans qx0
   have qx1 := (hO.cell (b2 := w.heap.size) (k := 1) (by omega)).trans qx1
   have qx2 := (hO.cell (b2 := w.heap.size) (k := 2) (by omega)).trans qx2
   have lx : w.heap.size < w10.heap.size := by rw [hO.size]; exact lx
   have lr : w.heap.size + 1 < w10.heap.size := by rw [hO.size]; exact lr
   have qr0 := qN0
   have qr1 := qN1
   have xr := xN
   have hB := hO.below (by omega) hB
   clear hO qN0 qN1 xN zf0 zf1
   refine bodyPost_ret (v := .tuple #[.agg #[.bool (neg Z), .slice ahA nhA chA], .int .i64 0]) ?_ rfl ⟨_, _, _, rfl, hA, hB⟩
   simp [results, Tryz.f76, go_sem, qr0, qr1]
 · have HS := Lib.hid hs
   clear hs
   obtain ⟨x0, xs, ex, hx2⟩ := digs_first hd0
   rw [ho] at hx2
   have E7 := Lib.hid ex
   clear ex ho hd0
   have hp1 : 0 < nhQ := by rw [← hQ.len, E7.out]; exact Nat.succ_pos _
   obtain ⟨bz, oz, rfl, hqc⟩ := hQ.cell.resolve_left (by omega)
   have hq1 := hqc 0 hp1
   rw [E7.out] at hq1
   simp only [Nat.add_zero] at hq1
   have hq0 : w6.cell? ⟨bz, oz, none⟩ = some (.int .u64 (x0 : Int)) := hq1
   clear hq1
   have tm4 : ((x0 : Int) % 2 == 1) = false := by rw [beq_eq_false_iff_ne]; omega
   clear hqc
   have eS : digs D = digs S := by rw [HS.out]
   rw [eS] at hQ
   go_wp2_with fail
   with_reducible refine (rsmake_any (neg q.num) _ _ _ (digs S) _ hQ.toNatAt (by omega)).mono ?_
   rintro e w7 ⟨ahA, nhA, chA, rfl, hA, hb⟩
   have hA := hA.mono hB.size
   have g1 := g1.past hb
   have g2 := g2.past hb
   have hQ := hQ.past hb
   obtain ⟨qx0, qx1, qx2, lx⟩ := bq3 hb lx qx0 qx1 qx2
   have xr := xr.past hb lr
   obtain ⟨qr0, qr1, lr⟩ := bq2 hb lr qr0 qr1
   have hB := below_later hB hb
   clear hb
   rw [E5.out] at hA ⊢
   have zf0 := xr.f 0 (by decide)
   have zf1 := xr.f 1 (by decide)
   go_wp2
   obtain ⟨w8, hW, hO, qN0, qN1, xN⟩ := store2 xr (.bool (neg Z)) (.slice ahA nhA chA) (Go.Proofs.YtlkoenpdmlbhlaaGreat.nu rfl) (Go.Proofs.YtlkoenpdmlbhlaaGreat.nu rfl)
   try rw [hW]
   clear hW
   have hA := hO.own hA
   have qx0 := (hO.cell (b2 := w.heap.size) (k := 0) (by omega)).trans qx0
   have qx1 := (hO.cell (b2 := w.heap.size) (k := 1) (by omega)).trans qx1
   have qx2 := (hO.cell (b2 := w.heap.size) (k := 2) (by omega)).trans qx2
   have lx : w.heap.size < w8.heap.size := by rw [hO.size]; exact lx
   have lr : w.heap.size + 1 < w8.heap.size := by rw [hO.size]; exact lr
   have qr0 := qN0
   have qr1 := qN1
   have xr := xN
   have hB := hO.below (by omega) hB
   clear hO qN0 qN1 xN zf0 zf1
   refine bodyPost_ret (v := .tuple #[.agg #[.bool (neg Z), .slice ahA nhA chA], .int .i64 0]) ?_ rfl ⟨_, _, _, rfl, hA, hB⟩
   simp [results, Tryz.f76, go_sem, qr0, qr1]
 · have HS := Lib.hid hs
   subst hd0
   obtain rfl : nhQ = 0 := hQ.len.symm
   clear hs
   have eS : digs 0 = digs S := by rw [HS.out]
   rw [eS] at hQ
   go_wp2_with fail
   with_reducible refine (rsmake_any (neg q.num) _ _ _ (digs S) _ hQ.toNatAt (by omega)).mono ?_
   rintro e w7 ⟨ahA, nhA, chA, rfl, hA, hb⟩
   have hA := hA.mono hB.size
   have g1 := g1.past hb
   have g2 := g2.past hb
   have hQ := hQ.past hb
   obtain ⟨qx0, qx1, qx2, lx⟩ := bq3 hb lx qx0 qx1 qx2
   have xr := xr.past hb lr
   obtain ⟨qr0, qr1, lr⟩ := bq2 hb lr qr0 qr1
   have hB := below_later hB hb
   clear hb
   rw [E5.out] at hA ⊢
   have zf0 := xr.f 0 (by decide)
   have zf1 := xr.f 1 (by decide)
   go_wp2
   obtain ⟨w8, hW, hO, qN0, qN1, xN⟩ := store2 xr (.bool (neg Z)) (.slice ahA nhA chA) (Go.Proofs.YtlkoenpdmlbhlaaGreat.nu rfl) (Go.Proofs.YtlkoenpdmlbhlaaGreat.nu rfl)
   try rw [hW]
   clear hW
   have hA := hO.own hA
   have qx0 := (hO.cell (b2 := w.heap.size) (k := 0) (by omega)).trans qx0
   have qx1 := (hO.cell (b2 := w.heap.size) (k := 1) (by omega)).trans qx1
   have qx2 := (hO.cell (b2 := w.heap.size) (k := 2) (by omega)).trans qx2
   have lx : w.heap.size < w8.heap.size := by rw [hO.size]; exact lx
   have lr : w.heap.size + 1 < w8.heap.size := by rw [hO.size]; exact lr
   have qr0 := qN0
   have qr1 := qN1
   have xr := xN
   have hB := hO.below (by omega) hB
   clear hO qN0 qN1 xN zf0 zf1
   refine bodyPost_ret (v := .tuple #[.agg #[.bool (neg Z), .slice ahA nhA chA], .int .i64 0]) ?_ rfl ⟨_, _, _, rfl, hA, hB⟩
   simp [results, Tryz.f76, go_sem, qr0, qr1]
 · have HS := Lib.hid hs
   clear hs
   have eS : digs D = digs S := by rw [HS.out]
   rw [eS] at hQ
   go_wp2_with fail
   with_reducible refine (rsmake_any (neg q.num) _ _ _ (digs S) _ hQ.toNatAt (by omega)).mono ?_
   rintro e w7 ⟨ahA, nhA, chA, rfl, hA, hb⟩
   have hA := hA.mono hB.size
   have g1 := g1.past hb
   have g2 := g2.past hb
   have hQ := hQ.past hb
   obtain ⟨qx0, qx1, qx2, lx⟩ := bq3 hb lx qx0 qx1 qx2
   have xr := xr.past hb lr
   obtain ⟨qr0, qr1, lr⟩ := bq2 hb lr qr0 qr1
   have hB := below_later hB hb
   clear hb
   rw [E5.out] at hA ⊢
   have zf0 := xr.f 0 (by decide)
   have zf1 := xr.f 1 (by decide)
   go_wp2
   obtain ⟨w8, hW, hO, qN0, qN1, xN⟩ := store2 xr (.bool (neg Z)) (.slice ahA nhA chA) (Go.Proofs.YtlkoenpdmlbhlaaGreat.nu rfl) (Go.Proofs.YtlkoenpdmlbhlaaGreat.nu rfl)
   try rw [hW]
   clear hW
   have hA := hO.own hA
   have qx0 := (hO.cell (b2 := w.heap.size) (k := 0) (by omega)).trans qx0
   have qx1 := (hO.cell (b2 := w.heap.size) (k := 1) (by omega)).trans qx1
   have qx2 := (hO.cell (b2 := w.heap.size) (k := 2) (by omega)).trans qx2
   have lx : w.heap.size < w8.heap.size := by rw [hO.size]; exact lx
   have lr : w.heap.size + 1 < w8.heap.size := by rw [hO.size]; exact lr
   have qr0 := qN0
   have qr1 := qN1
   have xr := xN
   have hB := hO.below (by omega) hB
   clear hO qN0 qN1 xN zf0 zf1
   refine bodyPost_ret (v := .tuple #[.agg #[.bool (neg Z), .slice ahA nhA chA], .int .i64 0]) ?_ rfl ⟨_, _, _, rfl, hA, hB⟩
   simp [results, Tryz.f76, go_sem, qr0, qr1]
theorem rround05_any (b1 : Bool) (a1 : Option Addr) (n1 c1 : Nat) (a2 : Option Addr) (n2 c2 : Nat) (l1 l2 : List Nat) (w : World) (g1 : NatAt w a1 n1 c1 l1) (g2 : NatAt w a2 n2 c2 l2) (hs1 : n1 ≤ 40000) (hs2 : n2 ≤ 40000) :
 Calls Tryz.prog 76 #[.agg #[.bool b1, .slice a1 n1 c1, .slice a2 n2 c2]] w (RetWho w (roundA (b1, l1, l2))) := by
 by_cases h : chkR b1 l1 l2 = 0
 · obtain ⟨q, rfl, rfl, rfl⟩ := chkR_rat g1.dig g2.dig h
   have e := roundA_rat q
   unfold partsOf at e
   rw [e]
   exact rround05_rat q _ _ _ _ _ _ w g1 g2 hs1 hs2
 · have e : roundA (b1, l1, l2) = .error 6 := if_neg h
   rw [e]
   exact rround05_bad b1 _ _ _ _ _ _ l1 l2 w g1 g2 hs1 hs2 h
end Go.Proofs.YtlkoenpdmlbhlaaGreat
