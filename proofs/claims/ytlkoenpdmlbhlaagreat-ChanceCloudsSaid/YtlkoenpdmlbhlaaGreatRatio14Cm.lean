import Derived.Test.YtlkoenpdmlbhlaaGreatS0Cm
import Derived.Test.YtlkoenpdmlbhlaaGreatRatio13Cm
import Derived.Test.YtlkoenpdmlbhlaaGreatRawCm
import Derived.Test.YtlkoenpdmlbhlaaGreatA9Cm
set_option linter.unusedVariables false
set_option linter.unusedSimpArgs false
namespace Go.Proofs.YtlkoenpdmlbhlaaGreat
open Go.RowKit
def CopyW (B : Nat) (b : Bool) (l : List Nat) (r : Value) (y : Value) (w : World) : Prop := ∃ a n c, y = .agg #[.bool b, .slice a n c, r] ∧ OwnAt w B a n c l
theorem CopyW.past {w w' : World} {B : Nat} {b : Bool} {l : List Nat} {r y : Value} (h : CopyW B b l r y w) (hb : Below w.heap.size w w') : CopyW B b l r y w' := by
 obtain ⟨a, n, c, e, h⟩ := h; exact ⟨a, n, c, e, h.later hb (Nat.le_refl _)⟩
theorem CopyW.setsOff {w : World} {B b2 : Nat} {b : Bool} {l : List Nat} {r y : Value} (h : CopyW B b l r y w) (hb : b2 < B) (vs : List Value) : CopyW B b l r y (w.setCells b2 0 vs) := by
 obtain ⟨a, n, c, e, h⟩ := h; exact ⟨a, n, c, e, OwnAt.setsOff hb vs 0 w h⟩
theorem inv_sg {q : Rat} (hq : q ≠ 0) : sg (neg q.num) (val (digs q.den)) = (q⁻¹).num := by
 rw [val_digs]
 exact (inv_parts (fun e => hq (Rat.num_eq_zero.1 e))).1
set_option maxRecDepth 100000 in
set_option maxHeartbeats 4000000 in
theorem rfine05_any (ar : Option Addr) (nr cr : Nat) (f : Nat → Bool × List Nat × List Nat) (w : World) (gr : RatsAt w ar nr cr f) (hk : ∀ i, i < nr → (f i).2.1.length ≤ 200000 ∧ (f i).2.2.length ≤ 200000) :
 Calls Tryz.prog 92 #[.slice ar nr cr] w (RetVal w (.bool (allR f nr))) := by
 have hcr := gr.cle
 have hnr := gr.le
 have hm : nr ≤ 9223372036854775807 := by unfold maxLen at hcr; omega
 go_enter Tryz.func92, Tryz.ntmps92
 have hB := Below.refl w.heap.size w
 go_wp2_with fail
 go_loopw [3] (fun i wr => ∃ (k : Nat), k ≤ nr ∧ i = .int .i64 ((k : Nat) : Int) ∧ Hid (∀ j, j < k → chk3 (f j) = 0) ∧ Below w.heap.size w wr) (fun i _ => nr - (intOf i).toNat)
 case atStart => exact ⟨0, Nat.zero_le _, rfl, Lib.hid (fun j hj => by omega), hB⟩
 case round =>
  obtain ⟨k, hkk, rfl, HK, hB⟩ := hrel
  by_cases hlt : k < nr
  · rcases gr.cell with h0 | ⟨b, o, rfl, hbl, hc⟩
    · omega
    obtain ⟨a5, n5, c5, a6, n6, c6, q1, q2, q3, h5, h6⟩ := hc k (by omega)
    have q1 := (hB.cell (p := ⟨b, _, none⟩) hbl).trans q1
    have q2 := (hB.cell (p := ⟨b, _, none⟩) hbl).trans q2
    have q3 := (hB.cell (p := ⟨b, _, none⟩) hbl).trans q3
    have h5 := h5.past hB
    have h6 := h6.past hB
    clear hc gr
    have b5 : n5 ≤ 200000 := by have := (hk k hlt).1; have := h5.len; omega
    have b6 : n6 ≤ 200000 := by have := (hk k hlt).2; have := h6.len; omega
    clear hk
    by_cases hz : chk3 (f k) = 0
    · have HZ := Lib.hid (show chkR (f k).1 (f k).2.1 (f k).2.2 = 0 from hz)
      clear hz
      go_wp2_with fail
      with_reducible refine (rcheck05_any (f k).1 _ _ _ (f k).2.1 _ _ _ (f k).2.2 _ h5 h6 b5 b6).mono ?_
      rintro e w1 ⟨rfl, hb⟩
      have h5 := h5.past hb
      have h6 := h6.past hb
      have hB := below_later hB hb
      clear hb
      rw [HZ.out]
      go_wp2
      go_roundw
      case rel => exact ⟨k + 1, by omega, by go_num, Lib.hid (fun j hj => by
       by_cases hjk : j = k
       · subst hjk; exact HZ.out
       · exact HK.out j (by omega)), hB⟩
      case measure => simp [intOf]; omega
    · have HZ := Lib.hid (show chkR (f k).1 (f k).2.1 (f k).2.2 = 6 from chkR_no hz)
      have EE := Lib.hid (allR_not hlt hz)
      clear hz
      go_wp2_with fail
      with_reducible refine (rcheck05_any (f k).1 _ _ _ (f k).2.1 _ _ _ (f k).2.2 _ h5 h6 b5 b6).mono ?_
      rintro e w1 ⟨rfl, hb⟩
      have h5 := h5.past hb
      have h6 := h6.past hb
      have hB := below_later hB hb
      clear hb
      rw [HZ.out]
      go_wp2
      go_ret
      exact ⟨by rw [EE.out]; rfl, hB⟩
  · obtain rfl : k = nr := by omega
    have EE := Lib.hid (allR_iff.2 HK.out)
    clear gr
    go_wp2
    go_ret
    exact ⟨by rw [EE.out]; rfl, hB⟩
set_option maxRecDepth 100000 in
set_option maxHeartbeats 4000000 in
theorem rturned05_rat (q m : Rat) (e1 : sg (neg q.num) (val (digs q.den)) = m.num) (a1 : Option Addr) (n1 c1 : Nat) (a2 : Option Addr) (n2 c2 : Nat) (w : World) (g1 : NatAt w a1 n1 c1 (digs q.num.natAbs)) (g2 : NatAt w a2 n2 c2 (digs q.den)) (hs : n2 ≤ 200000) :
 Calls Tryz.prog 107 #[.agg #[.bool (neg q.num), .slice a1 n1 c1, .slice a2 n2 c2]] w fun e w' => ∃ a n c, e = .returned (.agg #[.bool (neg m.num), .slice a n c, .slice a1 n1 c1]) ∧ OwnAt w' w.heap.size a n c (digs m.num.natAbs) ∧ Below w.heap.size w w' := by
 have E1 := Lib.hid e1
 clear e1
 go_enter Tryz.func107, Tryz.ntmps107
 have hB := Below.refl w.heap.size w
 go_wp2_with fail
 obtain ⟨w1, hW, hz0, hb, q, f⟩ := box1g w (w.heap.size) (by omega) #[.bool (neg q.num), .slice a1 n1 c1, .slice a2 n2 c2] 27
 rw [hW]
 clear hW
 have g1 := g1.past hb
 have g2 := g2.past hb
 have hB := below_later hB hb
 clear hb
 have lx : w.heap.size < w1.heap.size := by omega
 have qx0 := q 0; have qx1 := q 1; have qx2 := q 2
 simp only [lgA, lgZ, lgS] at qx0 qx1 qx2
 clear q f
 obtain ⟨w2, hW, hz1, hb, q, f⟩ := box1g w1 (w.heap.size + 1) (by omega) #[.bool false, .slice none 0 0, .slice none 0 0] 27
 rw [hW]
 clear hW
 have g1 := g1.past hb
 have g2 := g2.past hb
 obtain ⟨qx0, qx1, qx2, lx⟩ := bq3 hb lx qx0 qx1 qx2
 have hB := below_later hB hb
 clear hb
 have lr : w.heap.size + 1 < w2.heap.size := by omega
 have qr0 := q 0; have qr1 := q 1; have qr2 := q 2
 simp only [lgA, lgZ, lgS] at qr0 qr1 qr2
 have xr : BoxAt w2 (w.heap.size + 1) 3 := BoxAt.of q f rfl (by simp [notU_bool, notU_slice, notU_i64])
 clear q f
 clear hz0
 clear hz1
 have szW := hB.size
 refine wp_region_inv (by kernel_rfl) rfl (by kernel_rfl) (fun A0 V0 dd aa ww => ∃ (y3 y4 y5 y6 y7 y8 y9 y10 y11 y12 : Value), aa = puts A0 [(3, y3), (4, y4), (5, y5), (6, y6), (7, y7), (8, y8), (9, y9), (10, y10), (11, y11), (12, y12)] ∧ Below (w).heap.size (w) ww ∧ V0.heap.size ≤ ww.heap.size ∧ NatAt ww a1 n1 c1 (digs q.num.natAbs) ∧ NatAt ww a2 n2 c2 (digs q.den) ∧ Cells ww (w.heap.size) [.bool (neg q.num), .slice a1 n1 c1, .slice a2 n2 c2] ∧ BoxAt ww (w.heap.size + 1) 3 ∧ Shut (dd 10 = false → Cells ww (w.heap.size + 1) [.bool false, .slice none 0 0, .slice none 0 0]) ∧ Shut (dd 0 = true → y3 = .pointer (some ⟨w.heap.size, 0, none⟩)) ∧ Shut (dd 1 = true → y4 = .pointer (some ⟨w.heap.size, 0, none⟩)) ∧ Shut (dd 2 = true → y5 = .bool (neg q.num)) ∧ Shut (dd 3 = true → y6 = .pointer (some ⟨w.heap.size, 2, none⟩)) ∧ Shut (dd 4 = true → y7 = .slice a2 n2 c2) ∧ Shut (dd 5 = true → CopyV V0.heap.size (neg m.num) (digs m.num.natAbs) y8 ww) ∧ Shut (dd 6 = true → y9 = .pointer (some ⟨w.heap.size, 0, none⟩)) ∧ Shut (dd 7 = true → y10 = .pointer (some ⟨w.heap.size, 1, none⟩)) ∧ Shut (dd 8 = true → y11 = .slice a1 n1 c1) ∧ Shut (dd 9 = true → y12 = bld [y8, y11]) ∧ Shut (dd 10 = true → CellsV (w.heap.size + 1) y12 ww) ∧ True) ?_ ?_ ?_
 · exact ⟨_, _, _, _, _, _, _, _, _, _, puts_self _ [3, 4, 5, 6, 7, 8, 9, 10, 11, 12], hB.drew, Nat.le_refl _, g1.drew, g2.drew, (by intro k hk; simp at hk; rcases (by omega : k = 0 ∨ k = 1 ∨ k = 2) with rfl | rfl | rfl <;> assumption), xr.drew, (fun _ => by intro k hk; simp at hk; rcases (by omega : k = 0 ∨ k = 1 ∨ k = 2) with rfl | rfl | rfl <;> assumption), fun h => (by cases h), fun h => (by cases h), fun h => (by cases h), fun h => (by cases h), fun h => (by cases h), fun h => (by cases h), fun h => (by cases h), fun h => (by cases h), fun h => (by cases h), fun h => (by cases h), fun h => (by cases h), trivial⟩
 · refine Steps.cons ?_ (Steps.cons ?_ (Steps.cons ?_ (Steps.cons ?_ (Steps.cons ?_ (Steps.cons ?_ (Steps.cons ?_ (Steps.cons ?_ (Steps.cons ?_ (Steps.cons ?_ (Steps.cons ?_ (Steps.nil)))))))))))
   · intro dd aa ww K hc hun hn hI hK
     obtain ⟨y3, y4, y5, y6, y7, y8, y9, y10, y11, y12, ea, hb, hsz, vg1, vg2, cx, xr, pr, f0, f1, f2, f3, f4, f5, f6, f7, f8, f9, f10, _⟩ := hI
     try simp [Region.binds] at hn
     subst ea
     simp only [puts, Act.put, lsA, lsZ, lsS]
     go_simp
     refine hK.out _ _ ?_
     exact ⟨.pointer (some ⟨w.heap.size, 0, none⟩), y4, y5, y6, y7, y8, y9, y10, y11, y12, by simp only [puts, Act.put, lsA, lsZ, lsS], hb, hsz, vg1, vg2, cx, xr, fun h => (pr.out (upd_off h)), fun _ => rfl, uo f1 rfl, uo f2 rfl, uo f3 rfl, uo f4 rfl, uo f5 rfl, uo f6 rfl, uo f7 rfl, uo f8 rfl, uo f9 rfl, uo f10 rfl, trivial⟩
   · intro dd aa ww K hc hun hn hI hK
     obtain ⟨y3, y4, y5, y6, y7, y8, y9, y10, y11, y12, ea, hb, hsz, vg1, vg2, cx, xr, pr, f0, f1, f2, f3, f4, f5, f6, f7, f8, f9, f10, _⟩ := hI
     try simp [Region.binds] at hn
     have ex := f0.out (by first | (simp [hn]; done) | exact rc hc hn | exact rc hc hn.1 | exact rc hc hn.2 | exact rc hc hn.2.1 | exact rc hc hn.2.2)
     subst ex
     subst ea
     simp only [puts, Act.put, lsA, lsZ, lsS]
     go_simp
     refine hK.out _ _ ?_
     exact ⟨.pointer (some ⟨w.heap.size, 0, none⟩), .pointer (some ⟨w.heap.size, 0, none⟩), y5, y6, y7, y8, y9, y10, y11, y12, by simp only [puts, Act.put, lsA, lsZ, lsS], hb, hsz, vg1, vg2, cx, xr, fun h => (pr.out (upd_off h)), fun h => rfl, fun _ => rfl, uo f2 rfl, uo f3 rfl, uo f4 rfl, uo f5 rfl, uo f6 rfl, uo f7 rfl, uo f8 rfl, uo f9 rfl, uo f10 rfl, trivial⟩
   · intro dd aa ww K hc hun hn hI hK
     obtain ⟨y3, y4, y5, y6, y7, y8, y9, y10, y11, y12, ea, hb, hsz, vg1, vg2, cx, xr, pr, f0, f1, f2, f3, f4, f5, f6, f7, f8, f9, f10, _⟩ := hI
     try simp [Region.binds] at hn
     have ex := f1.out (by first | (simp [hn]; done) | exact rc hc hn | exact rc hc hn.1 | exact rc hc hn.2 | exact rc hc hn.2.1 | exact rc hc hn.2.2)
     subst ex
     have e0 := cx 0 (by simp)
     simp only [lgZ, lgS] at e0
     subst ea
     simp only [puts, Act.put, lsA, lsZ, lsS]
     go_simp
     refine hK.out _ _ ?_
     exact ⟨y3, .pointer (some ⟨w.heap.size, 0, none⟩), .bool (neg q.num), y6, y7, y8, y9, y10, y11, y12, by simp only [puts, Act.put, lsA, lsZ, lsS], hb, hsz, vg1, vg2, cx, xr, fun h => (pr.out (upd_off h)), uo f0 rfl, fun h => rfl, fun _ => rfl, uo f3 rfl, uo f4 rfl, uo f5 rfl, uo f6 rfl, uo f7 rfl, uo f8 rfl, uo f9 rfl, uo f10 rfl, trivial⟩
   · intro dd aa ww K hc hun hn hI hK
     obtain ⟨y3, y4, y5, y6, y7, y8, y9, y10, y11, y12, ea, hb, hsz, vg1, vg2, cx, xr, pr, f0, f1, f2, f3, f4, f5, f6, f7, f8, f9, f10, _⟩ := hI
     try simp [Region.binds] at hn
     subst ea
     simp only [puts, Act.put, lsA, lsZ, lsS]
     go_simp
     refine hK.out _ _ ?_
     exact ⟨y3, y4, y5, .pointer (some ⟨w.heap.size, 2, none⟩), y7, y8, y9, y10, y11, y12, by simp only [puts, Act.put, lsA, lsZ, lsS], hb, hsz, vg1, vg2, cx, xr, fun h => (pr.out (upd_off h)), uo f0 rfl, uo f1 rfl, uo f2 rfl, fun _ => rfl, uo f4 rfl, uo f5 rfl, uo f6 rfl, uo f7 rfl, uo f8 rfl, uo f9 rfl, uo f10 rfl, trivial⟩
   · intro dd aa ww K hc hun hn hI hK
     obtain ⟨y3, y4, y5, y6, y7, y8, y9, y10, y11, y12, ea, hb, hsz, vg1, vg2, cx, xr, pr, f0, f1, f2, f3, f4, f5, f6, f7, f8, f9, f10, _⟩ := hI
     try simp [Region.binds] at hn
     have ex := f3.out (by first | (simp [hn]; done) | exact rc hc hn | exact rc hc hn.1 | exact rc hc hn.2 | exact rc hc hn.2.1 | exact rc hc hn.2.2)
     subst ex
     have e2 := cx 2 (by simp)
     simp only [lgZ, lgS] at e2
     subst ea
     simp only [puts, Act.put, lsA, lsZ, lsS]
     go_simp
     refine hK.out _ _ ?_
     exact ⟨y3, y4, y5, .pointer (some ⟨w.heap.size, 2, none⟩), .slice a2 n2 c2, y8, y9, y10, y11, y12, by simp only [puts, Act.put, lsA, lsZ, lsS], hb, hsz, vg1, vg2, cx, xr, fun h => (pr.out (upd_off h)), uo f0 rfl, uo f1 rfl, uo f2 rfl, fun h => rfl, fun _ => rfl, uo f5 rfl, uo f6 rfl, uo f7 rfl, uo f8 rfl, uo f9 rfl, uo f10 rfl, trivial⟩
   · intro dd aa ww K hc hun hn hI hK
     obtain ⟨y3, y4, y5, y6, y7, y8, y9, y10, y11, y12, ea, hb, hsz, vg1, vg2, cx, xr, pr, f0, f1, f2, f3, f4, f5, f6, f7, f8, f9, f10, _⟩ := hI
     try simp [Region.binds] at hn
     have ex := f2.out (by first | (simp [hn]; done) | exact rc hc hn | exact rc hc hn.1 | exact rc hc hn.2 | exact rc hc hn.2.1 | exact rc hc hn.2.2)
     subst ex
     have ex := f4.out (by first | (simp [hn]; done) | exact rc hc hn | exact rc hc hn.1 | exact rc hc hn.2 | exact rc hc hn.2.1 | exact rc hc hn.2.2)
     subst ex
     subst ea
     simp only [puts, Act.put, lsA, lsZ, lsS]
     go_simp
     with_reducible refine (rsmake_any (neg q.num) _ _ _ (digs q.den) _ vg2 (by omega)).mono ?_
     rintro e w1 ⟨ahA, nhA, chA, rfl, hA, h1⟩
     rw [E1.out] at hA ⊢
     refine hK.out _ _ ?_
     exact ⟨y3, y4, .bool (neg q.num), y6, .slice a2 n2 c2, .agg #[.bool (neg m.num), .slice ahA nhA chA], y9, y10, y11, y12, by simp only [puts, Act.put, lsA, lsZ, lsS], below_later hb h1, Nat.le_trans hsz h1.size, vg1.past h1, vg2.past h1, cx.past h1 (Nat.lt_of_lt_of_le lx hsz), xr.past h1 (Nat.lt_of_lt_of_le lr hsz), fun h => (pr.out (upd_off h)).past h1 (Nat.lt_of_lt_of_le lr hsz), uo f0 rfl, uo f1 rfl, fun h => rfl, uo f3 rfl, fun h => rfl, fun _ => ⟨_, _, _, rfl, hA.mono hsz⟩, uo f6 rfl, uo f7 rfl, uo f8 rfl, fun h => absurd (hc.reach (f := 8) (s := 9) (l := 5) (by kernel_rfl) (upd_of rfl h)) (by rw [hun]; decide), fun h => (f10.out (upd_of rfl h)).past h1 (Nat.lt_of_lt_of_le lr hsz), trivial⟩
   · intro dd aa ww K hc hun hn hI hK
     obtain ⟨y3, y4, y5, y6, y7, y8, y9, y10, y11, y12, ea, hb, hsz, vg1, vg2, cx, xr, pr, f0, f1, f2, f3, f4, f5, f6, f7, f8, f9, f10, _⟩ := hI
     try simp [Region.binds] at hn
     subst ea
     simp only [puts, Act.put, lsA, lsZ, lsS]
     go_simp
     refine hK.out _ _ ?_
     exact ⟨y3, y4, y5, y6, y7, y8, .pointer (some ⟨w.heap.size, 0, none⟩), y10, y11, y12, by simp only [puts, Act.put, lsA, lsZ, lsS], hb, hsz, vg1, vg2, cx, xr, fun h => (pr.out (upd_off h)), uo f0 rfl, uo f1 rfl, uo f2 rfl, uo f3 rfl, uo f4 rfl, uo f5 rfl, fun _ => rfl, uo f7 rfl, uo f8 rfl, uo f9 rfl, uo f10 rfl, trivial⟩
   · intro dd aa ww K hc hun hn hI hK
     obtain ⟨y3, y4, y5, y6, y7, y8, y9, y10, y11, y12, ea, hb, hsz, vg1, vg2, cx, xr, pr, f0, f1, f2, f3, f4, f5, f6, f7, f8, f9, f10, _⟩ := hI
     try simp [Region.binds] at hn
     have ex := f6.out (by first | (simp [hn]; done) | exact rc hc hn | exact rc hc hn.1 | exact rc hc hn.2 | exact rc hc hn.2.1 | exact rc hc hn.2.2)
     subst ex
     subst ea
     simp only [puts, Act.put, lsA, lsZ, lsS]
     go_simp
     refine hK.out _ _ ?_
     exact ⟨y3, y4, y5, y6, y7, y8, .pointer (some ⟨w.heap.size, 0, none⟩), .pointer (some ⟨w.heap.size, 1, none⟩), y11, y12, by simp only [puts, Act.put, lsA, lsZ, lsS], hb, hsz, vg1, vg2, cx, xr, fun h => (pr.out (upd_off h)), uo f0 rfl, uo f1 rfl, uo f2 rfl, uo f3 rfl, uo f4 rfl, uo f5 rfl, fun h => rfl, fun _ => rfl, uo f8 rfl, uo f9 rfl, uo f10 rfl, trivial⟩
   · intro dd aa ww K hc hun hn hI hK
     obtain ⟨y3, y4, y5, y6, y7, y8, y9, y10, y11, y12, ea, hb, hsz, vg1, vg2, cx, xr, pr, f0, f1, f2, f3, f4, f5, f6, f7, f8, f9, f10, _⟩ := hI
     try simp [Region.binds] at hn
     have ex := f7.out (by first | (simp [hn]; done) | exact rc hc hn | exact rc hc hn.1 | exact rc hc hn.2 | exact rc hc hn.2.1 | exact rc hc hn.2.2)
     subst ex
     have e1 := cx 1 (by simp)
     simp only [lgZ, lgS] at e1
     subst ea
     simp only [puts, Act.put, lsA, lsZ, lsS]
     go_simp
     refine hK.out _ _ ?_
     exact ⟨y3, y4, y5, y6, y7, y8, y9, .pointer (some ⟨w.heap.size, 1, none⟩), .slice a1 n1 c1, y12, by simp only [puts, Act.put, lsA, lsZ, lsS], hb, hsz, vg1, vg2, cx, xr, fun h => (pr.out (upd_off h)), uo f0 rfl, uo f1 rfl, uo f2 rfl, uo f3 rfl, uo f4 rfl, uo f5 rfl, uo f6 rfl, fun h => rfl, fun _ => rfl, fun h => absurd (hc.reach (f := 8) (s := 9) (l := 8) (by kernel_rfl) (upd_of rfl h)) (by rw [hun]; decide), uo f10 rfl, trivial⟩
   · intro dd aa ww K hc hun hn hI hK
     obtain ⟨y3, y4, y5, y6, y7, y8, y9, y10, y11, y12, ea, hb, hsz, vg1, vg2, cx, xr, pr, f0, f1, f2, f3, f4, f5, f6, f7, f8, f9, f10, _⟩ := hI
     try simp [Region.binds] at hn
     obtain ⟨ahA, nhA, chA, ex, hA⟩ := f5.out (by first | (simp [hn]; done) | exact rc hc hn | exact rc hc hn.1 | exact rc hc hn.2 | exact rc hc hn.2.1 | exact rc hc hn.2.2)
     subst ex
     have ex := f8.out (by first | (simp [hn]; done) | exact rc hc hn | exact rc hc hn.1 | exact rc hc hn.2 | exact rc hc hn.2.1 | exact rc hc hn.2.2)
     subst ex
     subst ea
     simp only [puts, Act.put, lsA, lsZ, lsS]
     go_simp
     refine hK.out _ _ ?_
     exact ⟨y3, y4, y5, y6, y7, .agg #[.bool (neg m.num), .slice ahA nhA chA], y9, y10, .slice a1 n1 c1, .agg #[.bool (neg m.num), .slice ahA nhA chA, .slice a1 n1 c1], by simp only [puts, Act.put, lsA, lsZ, lsS], hb, hsz, vg1, vg2, cx, xr, fun h => (pr.out (upd_off h)), uo f0 rfl, uo f1 rfl, uo f2 rfl, uo f3 rfl, uo f4 rfl, uo f5 rfl, uo f6 rfl, uo f7 rfl, fun h => rfl, fun _ => rfl, fun h => absurd (hc.reach (f := 8) (s := 10) (l := 9) (by kernel_rfl) (upd_of rfl h)) (by rw [hun]; decide), trivial⟩
   · intro dd aa ww K hc hun hn hI hK
     obtain ⟨y3, y4, y5, y6, y7, y8, y9, y10, y11, y12, ea, hb, hsz, vg1, vg2, cx, xr, pr, f0, f1, f2, f3, f4, f5, f6, f7, f8, f9, f10, _⟩ := hI
     try simp [Region.binds] at hn
     obtain ⟨ahA, nhA, chA, ex, hA⟩ := f5.out (by first | (simp [hn]; done) | exact rc hc hn | exact rc hc hn.1 | exact rc hc hn.2 | exact rc hc hn.2.1 | exact rc hc hn.2.2)
     subst ex
     have ex := f8.out (by first | (simp [hn]; done) | exact rc hc hn | exact rc hc hn.1 | exact rc hc hn.2 | exact rc hc hn.2.1 | exact rc hc hn.2.2)
     subst ex
     have ex : y12 = .agg #[.bool (neg m.num), .slice ahA nhA chA, .slice a1 n1 c1] := f9.out (by first | (simp [hn]; done) | exact rc hc hn | exact rc hc hn.1 | exact rc hc hn.2 | exact rc hc hn.2.1 | exact rc hc hn.2.2)
     subst ex
     have x3 := xr
     obtain ⟨v0, v1, v2, z0, z1, z2, z3, z4, z5, _, _, _⟩ := x3.three
     have hv : ∀ v ∈ ([.bool (neg m.num), .slice ahA nhA chA, .slice a1 n1 c1] : List Value), notU v := by simp [notU_bool, notU_slice, notU_i64]
     subst ea
     simp only [puts, Act.put, lsA, lsZ, lsS]
     go_simp
     refine hK.out _ _ ?_
     exact ⟨y3, y4, y5, y6, y7, .agg #[.bool (neg m.num), .slice ahA nhA chA], y9, y10, .slice a1 n1 c1, .agg #[.bool (neg m.num), .slice ahA nhA chA, .slice a1 n1 c1], by simp only [puts, Act.put, lsA, lsZ, lsS], hb.trans (below_setCells _ _ (by omega) [.bool (neg m.num), .slice ahA nhA chA, .slice a1 n1 c1] 0 _), (by simpa using hsz), NatAt.sets [.bool (neg m.num), .slice ahA nhA chA, .slice a1 n1 c1] 0 _ vg1 x3 (by simp) hv, NatAt.sets [.bool (neg m.num), .slice ahA nhA chA, .slice a1 n1 c1] 0 _ vg2 x3 (by simp) hv, Cells.sets (by omega) [.bool (neg m.num), .slice ahA nhA chA, .slice a1 n1 c1] 0 _ cx, BoxAt.sets [.bool (neg m.num), .slice ahA nhA chA, .slice a1 n1 c1] _ 0 _ xr hv, fun h => absurd h (by simp [upd]), uo f0 rfl, uo f1 rfl, uo f2 rfl, uo f3 rfl, uo f4 rfl, fun h => ((f5.out (upd_of rfl h)).setsOff lr [.bool (neg m.num), .slice ahA nhA chA, .slice a1 n1 c1]), uo f6 rfl, uo f7 rfl, fun h => rfl, fun h => rfl, fun _ => ⟨[.bool (neg m.num), .slice ahA nhA chA, .slice a1 n1 c1], rfl, Cells.new x3 [.bool (neg m.num), .slice ahA nhA chA, .slice a1 n1 c1] (by simp)⟩, trivial⟩
 intro dd aa w3 hd hI
 obtain ⟨y3, y4, y5, y6, y7, y8, y9, y10, y11, y12, ea, hb, hsz, vg1, vg2, cx, xr, pr, f0, f1, f2, f3, f4, f5, f6, f7, f8, f9, f10, _⟩ := hI
 have ex := f0.out (hd 0 (by simp))
 subst ex
 have ex := f1.out (hd 1 (by simp))
 subst ex
 have ex := f2.out (hd 2 (by simp))
 subst ex
 have ex := f3.out (hd 3 (by simp))
 subst ex
 have ex := f4.out (hd 4 (by simp))
 subst ex
 obtain ⟨ahA, nhA, chA, ex, hA⟩ := f5.out (hd 5 (by simp))
 subst ex
 have ex := f6.out (hd 6 (by simp))
 subst ex
 have ex := f7.out (hd 7 (by simp))
 subst ex
 have ex := f8.out (hd 8 (by simp))
 subst ex
 have ex : y12 = .agg #[.bool (neg m.num), .slice ahA nhA chA, .slice a1 n1 c1] := f9.out (hd 9 (by simp))
 subst ex
 obtain ⟨vs10, e, h10⟩ := f10.out (hd 10 (by simp))
 cases e
 have lr := Nat.lt_of_lt_of_le lr hsz
 have qr0 := h10 0 (by simp)
 simp only [lgZ, lgS] at qr0
 have qr1 := h10 1 (by simp)
 simp only [lgZ, lgS] at qr1
 have qr2 := h10 2 (by simp)
 simp only [lgZ, lgS] at qr2
 subst ea
 simp only [puts, Act.put, lsA, lsZ, lsS]
 have hA := hA.mono szW
 have g1 := vg1
 have g2 := vg2
 have lx := Nat.lt_of_lt_of_le lx hsz
 have qx0 := cx 0 (by simp)
 simp only [lgZ, lgS] at qx0
 have qx1 := cx 1 (by simp)
 simp only [lgZ, lgS] at qx1
 have qx2 := cx 2 (by simp)
 simp only [lgZ, lgS] at qx2
 clear cx
 have hB := hb
 clear pr
 clear hb hd
 go_wp2
 refine bodyPost_ret (v := .agg #[.bool (neg m.num), .slice ahA nhA chA, .slice a1 n1 c1]) ?_ rfl ⟨_, _, _, rfl, hA, hB⟩
 simp [results, Tryz.f107, go_sem, qr0, qr1, qr2]
set_option maxRecDepth 100000 in
set_option maxHeartbeats 8000000 in
theorem rdiv05_rat (p q : Rat) (a1 : Option Addr) (n1 c1 : Nat) (a2 : Option Addr) (n2 c2 : Nat) (a3 : Option Addr) (n3 c3 : Nat) (a4 : Option Addr) (n4 c4 : Nat) (w : World) (g1 : NatAt w a1 n1 c1 (digs p.num.natAbs)) (g2 : NatAt w a2 n2 c2 (digs p.den)) (g3 : NatAt w a3 n3 c3 (digs q.num.natAbs)) (g4 : NatAt w a4 n4 c4 (digs q.den)) (hs1 : n1 ≤ 40000) (hs2 : n2 ≤ 40000) (hs3 : n3 ≤ 40000) (hs4 : n4 ≤ 40000) (hq : q ≠ 0) :
 Calls Tryz.prog 63 #[.agg #[.bool (neg p.num), .slice a1 n1 c1, .slice a2 n2 c2], .agg #[.bool (neg q.num), .slice a3 n3 c3, .slice a4 n4 c4]] w (RetOk w (p / q)) := by
 have gk : ∀ i, i < 2 → ((rawF [((neg p.num), (digs p.num.natAbs), (digs p.den)), ((neg q.num), (digs q.num.natAbs), (digs q.den))]) i).2.1.length ≤ 200000 ∧ ((rawF [((neg p.num), (digs p.num.natAbs), (digs p.den)), ((neg q.num), (digs q.num.natAbs), (digs q.den))]) i).2.2.length ≤ 200000 := fun i hi => by
  have f1 := g1.len; have f2 := g2.len; have f3 := g3.len; have f4 := g4.len
  match i, hi with
  | 0, _ => exact ⟨(show ((digs p.num.natAbs)).length ≤ 200000 by omega), (show ((digs p.den)).length ≤ 200000 by omega)⟩
  | 1, _ => exact ⟨(show ((digs q.num.natAbs)).length ≤ 200000 by omega), (show ((digs q.den)).length ≤ 200000 by omega)⟩
 have GK := Lib.hid gk
 clear gk
 have hb : allR (rawF [((neg p.num), (digs p.num.natAbs), (digs p.den)), ((neg q.num), (digs q.num.natAbs), (digs q.den))]) 2 = true := by rw [allR2]; rw [Bool.and_eq_true, decide_eq_true_iff, decide_eq_true_iff]; exact ⟨chk3_parts p, chk3_parts q⟩
 have GB := Lib.hid hb
 clear hb
 have lp : rlen p ≤ 40000 := by unfold rlen; have := g1.len; have := g2.len; omega
 have lq : rlen q ≤ 40000 := by unfold rlen; have := g3.len; have := g4.len; omega
 have t3 : ((n3 : Int) == 0) = false := by rw [beq_eq_false_iff_ne]; intro h0; exact hq (num_len0.1 (by have := g3.len; omega))
 rw [Rat.div_def]
 rw [← rlen_inv hq] at lq
 have e5 := (inv_parts2 hq).2.2
 have g5 := g3
 rw [e5] at g5
 have hE := inv_sg hq
 obtain ⟨m, hm⟩ : ∃ m, q⁻¹ = m := ⟨_, rfl⟩
 rw [hm] at lq g5 hE ⊢
 obtain ⟨R, hR⟩ : ∃ R, p * m = R := ⟨_, rfl⟩
 rw [hR]
 have HR := Lib.hid hR
 have HE := Lib.hid hE
 have LP := Lib.hid lp
 have LQ := Lib.hid lq
 clear hR hq e5 lp lq hm hE
 go_enter Tryz.func63, Tryz.ntmps63
 have hB := Below.refl w.heap.size w
 go_wp2_with fail
 obtain ⟨w1, hW, hz0, hb, q, f⟩ := box1g w (w.heap.size) (by omega) #[.bool (neg p.num), .slice a1 n1 c1, .slice a2 n2 c2] 27
 rw [hW]
 clear hW
 have g1 := g1.past hb
 have g2 := g2.past hb
 have g3 := g3.past hb
 have g4 := g4.past hb
 have g5 := g5.past hb
 have hB := below_later hB hb
 clear hb
 have lx : w.heap.size < w1.heap.size := by omega
 have qx0 := q 0; have qx1 := q 1; have qx2 := q 2
 simp only [lgA, lgZ, lgS] at qx0 qx1 qx2
 clear q f
 obtain ⟨w2, hW, hz1, hb, q, f⟩ := box1g w1 (w.heap.size + 1) (by omega) #[.bool (neg q.num), .slice a3 n3 c3, .slice a4 n4 c4] 27
 rw [hW]
 clear hW
 have g1 := g1.past hb
 have g2 := g2.past hb
 have g3 := g3.past hb
 have g4 := g4.past hb
 have g5 := g5.past hb
 obtain ⟨qx0, qx1, qx2, lx⟩ := bq3 hb lx qx0 qx1 qx2
 have hB := below_later hB hb
 clear hb
 have ly : w.heap.size + 1 < w2.heap.size := by omega
 have qy0 := q 0; have qy1 := q 1; have qy2 := q 2
 simp only [lgA, lgZ, lgS] at qy0 qy1 qy2
 clear q f
 obtain ⟨w3, hW, hz2, hb, q, f⟩ := box1g w2 (w.heap.size + 1 + 1) (by omega) #[.bool false, .slice none 0 0, .slice none 0 0] 27
 rw [hW]
 clear hW
 have g1 := g1.past hb
 have g2 := g2.past hb
 have g3 := g3.past hb
 have g4 := g4.past hb
 have g5 := g5.past hb
 obtain ⟨qx0, qx1, qx2, lx⟩ := bq3 hb lx qx0 qx1 qx2
 obtain ⟨qy0, qy1, qy2, ly⟩ := bq3 hb ly qy0 qy1 qy2
 have hB := below_later hB hb
 clear hb
 have lr : w.heap.size + 1 + 1 < w3.heap.size := by omega
 have qr0 := q 0; have qr1 := q 1; have qr2 := q 2
 simp only [lgA, lgZ, lgS] at qr0 qr1 qr2
 have xr : BoxAt w3 (w.heap.size + 1 + 1) 3 := BoxAt.of q f rfl (by simp [notU_bool, notU_slice, notU_i64])
 clear q f
 obtain ⟨w4, hW, hz3, hb, q, f⟩ := box1g w3 (w.heap.size + 1 + 1 + 1) (by omega) #[.bool (neg p.num), .slice a1 n1 c1, .slice a2 n2 c2, .bool (neg q.num), .slice a3 n3 c3, .slice a4 n4 c4] 27
 rw [hW]
 clear hW
 have g1 := g1.past hb
 have g2 := g2.past hb
 have g3 := g3.past hb
 have g4 := g4.past hb
 have g5 := g5.past hb
 obtain ⟨qx0, qx1, qx2, lx⟩ := bq3 hb lx qx0 qx1 qx2
 obtain ⟨qy0, qy1, qy2, ly⟩ := bq3 hb ly qy0 qy1 qy2
 have xr := xr.past hb lr
 obtain ⟨qr0, qr1, qr2, lr⟩ := bq3 hb lr qr0 qr1 qr2
 have hB := below_later hB hb
 clear hb
 have ls : w.heap.size + 1 + 1 + 1 < w4.heap.size := by omega
 have qs0 := q 0; have qs1 := q 1; have qs2 := q 2; have qs3 := q 3; have qs4 := q 4; have qs5 := q 5
 simp only [lgA, lgZ, lgS] at qs0 qs1 qs2 qs3 qs4 qs5
 clear q f
 clear hz0
 clear hz1
 clear hz2
 clear hz3
 with_reducible refine (rfine05_any _ _ _ _ _ (RatsAt.raw2 (x := ((neg p.num), (digs p.num.natAbs), (digs p.den))) (y := ((neg q.num), (digs q.num.natAbs), (digs q.den))) ls qs0 qs1 qs2 qs3 qs4 qs5 g1 g2 g3 g4) GK.out).mono ?_
 rintro e w5 ⟨rfl, hb⟩
 have g1 := g1.past hb
 have g2 := g2.past hb
 have g3 := g3.past hb
 have g4 := g4.past hb
 have g5 := g5.past hb
 obtain ⟨qx0, qx1, qx2, lx⟩ := bq3 hb lx qx0 qx1 qx2
 obtain ⟨qy0, qy1, qy2, ly⟩ := bq3 hb ly qy0 qy1 qy2
 have xr := xr.past hb lr
 obtain ⟨qr0, qr1, qr2, lr⟩ := bq3 hb lr qr0 qr1 qr2
 have qs0 := bq hb ls qs0; have qs1 := bq hb ls qs1; have qs2 := bq hb ls qs2; have qs3 := bq hb ls qs3; have qs4 := bq hb ls qs4; have qs5 := bq hb ls qs5
 have ls := bl hb ls
 have hB := below_later hB hb
 clear hb
 rw [GB.out]
 go_wp2_with fail
 have szW := hB.size
 refine wp_region_inv (by kernel_rfl) rfl (by kernel_rfl) (fun A0 V0 dd aa ww => ∃ (y20 y21 y22 y23 y5 : Value), aa = puts A0 [(20, y20), (21, y21), (22, y22), (23, y23), (5, y5)] ∧ Below (w).heap.size (w) ww ∧ V0.heap.size ≤ ww.heap.size ∧ NatAt ww a1 n1 c1 (digs p.num.natAbs) ∧ NatAt ww a2 n2 c2 (digs p.den) ∧ NatAt ww a3 n3 c3 (digs q.num.natAbs) ∧ NatAt ww a4 n4 c4 (digs q.den) ∧ NatAt ww a3 n3 c3 (digs m.den) ∧ Cells ww (w.heap.size) [.bool (neg p.num), .slice a1 n1 c1, .slice a2 n2 c2] ∧ Cells ww (w.heap.size + 1) [.bool (neg q.num), .slice a3 n3 c3, .slice a4 n4 c4] ∧ BoxAt ww (w.heap.size + 1 + 1) 3 ∧ Shut (dd 4 = false → Cells ww (w.heap.size + 1 + 1) [.bool false, .slice none 0 0, .slice none 0 0]) ∧ Shut (dd 0 = true → y20 = .agg #[.bool (neg p.num), .slice a1 n1 c1, .slice a2 n2 c2]) ∧ Shut (dd 1 = true → y21 = .agg #[.bool (neg q.num), .slice a3 n3 c3, .slice a4 n4 c4]) ∧ Shut (dd 2 = true → CopyW V0.heap.size (neg m.num) (digs m.num.natAbs) (.slice a3 n3 c3) y22 ww) ∧ Shut (dd 3 = true → RatV V0.heap.size (R) y23 ww) ∧ Shut (dd 4 = true → CellsV (w.heap.size + 1 + 1) y23 ww) ∧ Shut (dd 5 = true → y5 = .int .i64 0) ∧ True) ?_ ?_ ?_
 · exact ⟨_, _, _, _, _, puts_self _ [20, 21, 22, 23, 5], hB.drew, Nat.le_refl _, g1.drew, g2.drew, g3.drew, g4.drew, g5.drew, (by intro k hk; simp at hk; rcases (by omega : k = 0 ∨ k = 1 ∨ k = 2) with rfl | rfl | rfl <;> assumption), (by intro k hk; simp at hk; rcases (by omega : k = 0 ∨ k = 1 ∨ k = 2) with rfl | rfl | rfl <;> assumption), xr.drew, (fun _ => by intro k hk; simp at hk; rcases (by omega : k = 0 ∨ k = 1 ∨ k = 2) with rfl | rfl | rfl <;> assumption), fun h => (by cases h), fun h => (by cases h), fun h => (by cases h), fun h => (by cases h), fun h => (by cases h), fun h => (by cases h), trivial⟩
 · refine Steps.cons ?_ (Steps.cons ?_ (Steps.cons ?_ (Steps.cons ?_ (Steps.cons ?_ (Steps.cons ?_ (Steps.nil))))))
   · intro dd aa ww K hc hun hn hI hK
     obtain ⟨y20, y21, y22, y23, y5, ea, hb, hsz, vg1, vg2, vg3, vg4, vg5, cx, cy, xr, pr, f0, f1, f2, f3, f4, f5, _⟩ := hI
     try simp [Region.binds] at hn
     have e0 := cx 0 (by simp)
     simp only [lgZ, lgS] at e0
     have e1 := cx 1 (by simp)
     simp only [lgZ, lgS] at e1
     have e2 := cx 2 (by simp)
     simp only [lgZ, lgS] at e2
     subst ea
     simp only [puts, Act.put, lsA, lsZ, lsS]
     go_simp
     refine hK.out _ _ ?_
     exact ⟨.agg #[.bool (neg p.num), .slice a1 n1 c1, .slice a2 n2 c2], y21, y22, y23, y5, by simp only [puts, Act.put, lsA, lsZ, lsS], hb, hsz, vg1, vg2, vg3, vg4, vg5, cx, cy, xr, fun h => (pr.out (upd_off h)), fun _ => rfl, uo f1 rfl, uo f2 rfl, uo f3 rfl, uo f4 rfl, uo f5 rfl, trivial⟩
   · intro dd aa ww K hc hun hn hI hK
     obtain ⟨y20, y21, y22, y23, y5, ea, hb, hsz, vg1, vg2, vg3, vg4, vg5, cx, cy, xr, pr, f0, f1, f2, f3, f4, f5, _⟩ := hI
     try simp [Region.binds] at hn
     have e0 := cy 0 (by simp)
     simp only [lgZ, lgS] at e0
     have e1 := cy 1 (by simp)
     simp only [lgZ, lgS] at e1
     have e2 := cy 2 (by simp)
     simp only [lgZ, lgS] at e2
     subst ea
     simp only [puts, Act.put, lsA, lsZ, lsS]
     go_simp
     refine hK.out _ _ ?_
     exact ⟨y20, .agg #[.bool (neg q.num), .slice a3 n3 c3, .slice a4 n4 c4], y22, y23, y5, by simp only [puts, Act.put, lsA, lsZ, lsS], hb, hsz, vg1, vg2, vg3, vg4, vg5, cx, cy, xr, fun h => (pr.out (upd_off h)), uo f0 rfl, fun _ => rfl, uo f2 rfl, uo f3 rfl, uo f4 rfl, uo f5 rfl, trivial⟩
   · intro dd aa ww K hc hun hn hI hK
     obtain ⟨y20, y21, y22, y23, y5, ea, hb, hsz, vg1, vg2, vg3, vg4, vg5, cx, cy, xr, pr, f0, f1, f2, f3, f4, f5, _⟩ := hI
     try simp [Region.binds] at hn
     have ex := f1.out (by first | (simp [hn]; done) | exact rc hc hn | exact rc hc hn.1 | exact rc hc hn.2 | exact rc hc hn.2.1 | exact rc hc hn.2.2)
     subst ex
     subst ea
     simp only [puts, Act.put, lsA, lsZ, lsS]
     go_simp
     with_reducible refine (rturned05_rat q m HE.out _ _ _ _ _ _ _ vg3 vg4 (by omega)).mono ?_
     rintro e w1 ⟨ahM, nhM, chM, rfl, hM, h1⟩
     refine hK.out _ _ ?_
     exact ⟨y20, .agg #[.bool (neg q.num), .slice a3 n3 c3, .slice a4 n4 c4], .agg #[.bool (neg m.num), .slice ahM nhM chM, .slice a3 n3 c3], y23, y5, by simp only [puts, Act.put, lsA, lsZ, lsS], below_later hb h1, Nat.le_trans hsz h1.size, vg1.past h1, vg2.past h1, vg3.past h1, vg4.past h1, vg5.past h1, cx.past h1 (Nat.lt_of_lt_of_le lx hsz), cy.past h1 (Nat.lt_of_lt_of_le ly hsz), xr.past h1 (Nat.lt_of_lt_of_le lr hsz), fun h => (pr.out (upd_off h)).past h1 (Nat.lt_of_lt_of_le lr hsz), uo f0 rfl, fun h => rfl, fun _ => ⟨_, _, _, rfl, hM.mono hsz⟩, fun h => (f3.out (upd_of rfl h)).past h1, fun h => (f4.out (upd_of rfl h)).past h1 (Nat.lt_of_lt_of_le lr hsz), uo f5 rfl, trivial⟩
   · intro dd aa ww K hc hun hn hI hK
     obtain ⟨y20, y21, y22, y23, y5, ea, hb, hsz, vg1, vg2, vg3, vg4, vg5, cx, cy, xr, pr, f0, f1, f2, f3, f4, f5, _⟩ := hI
     try simp [Region.binds] at hn
     have ex := f0.out (by first | (simp [hn]; done) | exact rc hc hn | exact rc hc hn.1 | exact rc hc hn.2 | exact rc hc hn.2.1 | exact rc hc hn.2.2)
     subst ex
     obtain ⟨ahM, nhM, chM, ex, hM⟩ := f2.out (by first | (simp [hn]; done) | exact rc hc hn | exact rc hc hn.1 | exact rc hc hn.2 | exact rc hc hn.2.1 | exact rc hc hn.2.2)
     subst ex
     subst ea
     simp only [puts, Act.put, lsA, lsZ, lsS]
     go_simp
     with_reducible refine (rproduct05_rat p m _ _ _ _ _ _ _ _ _ _ _ _ _ vg1 vg2 hM.toNatAt vg5 LP.out LQ.out).mono ?_
     rintro e w1 ⟨ahAU, nhAU, chAU, ahAD, nhAD, chAD, rfl, hAU, hAD, h1⟩
     rw [HR.out] at hAU hAD ⊢
     refine hK.out _ _ ?_
     exact ⟨.agg #[.bool (neg p.num), .slice a1 n1 c1, .slice a2 n2 c2], y21, .agg #[.bool (neg m.num), .slice ahM nhM chM, .slice a3 n3 c3], .agg #[.bool (neg (R).num), .slice ahAU nhAU chAU, .slice ahAD nhAD chAD], y5, by simp only [puts, Act.put, lsA, lsZ, lsS], below_later hb h1, Nat.le_trans hsz h1.size, vg1.past h1, vg2.past h1, vg3.past h1, vg4.past h1, vg5.past h1, cx.past h1 (Nat.lt_of_lt_of_le lx hsz), cy.past h1 (Nat.lt_of_lt_of_le ly hsz), xr.past h1 (Nat.lt_of_lt_of_le lr hsz), fun h => (pr.out (upd_off h)).past h1 (Nat.lt_of_lt_of_le lr hsz), fun h => rfl, uo f1 rfl, fun h => (f2.out (upd_of rfl h)).past h1, fun _ => ⟨_, _, _, _, _, _, rfl, hAU.mono hsz, hAD.mono hsz⟩, fun h => absurd (hc.reach (f := 8) (s := 4) (l := 3) (by kernel_rfl) (upd_of rfl h)) (by rw [hun]; decide), uo f5 rfl, trivial⟩
   · intro dd aa ww K hc hun hn hI hK
     obtain ⟨y20, y21, y22, y23, y5, ea, hb, hsz, vg1, vg2, vg3, vg4, vg5, cx, cy, xr, pr, f0, f1, f2, f3, f4, f5, _⟩ := hI
     try simp [Region.binds] at hn
     obtain ⟨ahAU, nhAU, chAU, ahAD, nhAD, chAD, ex, hAU, hAD⟩ := f3.out (by first | (simp [hn]; done) | exact rc hc hn | exact rc hc hn.1 | exact rc hc hn.2 | exact rc hc hn.2.1 | exact rc hc hn.2.2)
     subst ex
     have x3 := xr
     obtain ⟨v0, v1, v2, z0, z1, z2, z3, z4, z5, _, _, _⟩ := x3.three
     have hv : ∀ v ∈ ([.bool (neg (R).num), .slice ahAU nhAU chAU, .slice ahAD nhAD chAD] : List Value), notU v := by simp [notU_bool, notU_slice, notU_i64]
     subst ea
     simp only [puts, Act.put, lsA, lsZ, lsS]
     go_simp
     refine hK.out _ _ ?_
     exact ⟨y20, y21, y22, .agg #[.bool (neg (R).num), .slice ahAU nhAU chAU, .slice ahAD nhAD chAD], y5, by simp only [puts, Act.put, lsA, lsZ, lsS], hb.trans (below_setCells _ _ (by omega) [.bool (neg (R).num), .slice ahAU nhAU chAU, .slice ahAD nhAD chAD] 0 _), (by simpa using hsz), NatAt.sets [.bool (neg (R).num), .slice ahAU nhAU chAU, .slice ahAD nhAD chAD] 0 _ vg1 x3 (by simp) hv, NatAt.sets [.bool (neg (R).num), .slice ahAU nhAU chAU, .slice ahAD nhAD chAD] 0 _ vg2 x3 (by simp) hv, NatAt.sets [.bool (neg (R).num), .slice ahAU nhAU chAU, .slice ahAD nhAD chAD] 0 _ vg3 x3 (by simp) hv, NatAt.sets [.bool (neg (R).num), .slice ahAU nhAU chAU, .slice ahAD nhAD chAD] 0 _ vg4 x3 (by simp) hv, NatAt.sets [.bool (neg (R).num), .slice ahAU nhAU chAU, .slice ahAD nhAD chAD] 0 _ vg5 x3 (by simp) hv, Cells.sets (by omega) [.bool (neg (R).num), .slice ahAU nhAU chAU, .slice ahAD nhAD chAD] 0 _ cx, Cells.sets (by omega) [.bool (neg (R).num), .slice ahAU nhAU chAU, .slice ahAD nhAD chAD] 0 _ cy, BoxAt.sets [.bool (neg (R).num), .slice ahAU nhAU chAU, .slice ahAD nhAD chAD] _ 0 _ xr hv, fun h => absurd h (by simp [upd]), uo f0 rfl, uo f1 rfl, fun h => ((f2.out (upd_of rfl h)).setsOff lr [.bool (neg (R).num), .slice ahAU nhAU chAU, .slice ahAD nhAD chAD]), fun h => ((f3.out (upd_of rfl h)).setsOff lr [.bool (neg (R).num), .slice ahAU nhAU chAU, .slice ahAD nhAD chAD]), fun _ => ⟨[.bool (neg (R).num), .slice ahAU nhAU chAU, .slice ahAD nhAD chAD], rfl, Cells.new x3 [.bool (neg (R).num), .slice ahAU nhAU chAU, .slice ahAD nhAD chAD] (by simp)⟩, uo f5 rfl, trivial⟩
   · intro dd aa ww K hc hun hn hI hK
     obtain ⟨y20, y21, y22, y23, y5, ea, hb, hsz, vg1, vg2, vg3, vg4, vg5, cx, cy, xr, pr, f0, f1, f2, f3, f4, f5, _⟩ := hI
     try simp [Region.binds] at hn
     subst ea
     simp only [puts, Act.put, lsA, lsZ, lsS]
     go_simp
     refine hK.out _ _ ?_
     exact ⟨y20, y21, y22, y23, .int .i64 0, by simp only [puts, Act.put, lsA, lsZ, lsS], hb, hsz, vg1, vg2, vg3, vg4, vg5, cx, cy, xr, fun h => (pr.out (upd_off h)), uo f0 rfl, uo f1 rfl, uo f2 rfl, uo f3 rfl, uo f4 rfl, fun _ => rfl, trivial⟩
 intro dd aa w6 hd hI
 obtain ⟨y20, y21, y22, y23, y5, ea, hb, hsz, vg1, vg2, vg3, vg4, vg5, cx, cy, xr, pr, f0, f1, f2, f3, f4, f5, _⟩ := hI
 have ex := f0.out (hd 0 (by simp))
 subst ex
 have ex := f1.out (hd 1 (by simp))
 subst ex
 obtain ⟨ahM, nhM, chM, ex, hM⟩ := f2.out (hd 2 (by simp))
 subst ex
 obtain ⟨ahAU, nhAU, chAU, ahAD, nhAD, chAD, ex, hAU, hAD⟩ := f3.out (hd 3 (by simp))
 subst ex
 obtain ⟨vs4, e, h4⟩ := f4.out (hd 4 (by simp))
 cases e
 have ex := f5.out (hd 5 (by simp))
 subst ex
 have lr := Nat.lt_of_lt_of_le lr hsz
 have qr0 := h4 0 (by simp)
 simp only [lgZ, lgS] at qr0
 have qr1 := h4 1 (by simp)
 simp only [lgZ, lgS] at qr1
 have qr2 := h4 2 (by simp)
 simp only [lgZ, lgS] at qr2
 subst ea
 simp only [puts, Act.put, lsA, lsZ, lsS]
 have hM := hM.mono szW
 have hAU := hAU.mono szW
 have hAD := hAD.mono szW
 have g1 := vg1
 have g2 := vg2
 have g3 := vg3
 have g4 := vg4
 have g5 := vg5
 have lx := Nat.lt_of_lt_of_le lx hsz
 have qx0 := cx 0 (by simp)
 simp only [lgZ, lgS] at qx0
 have qx1 := cx 1 (by simp)
 simp only [lgZ, lgS] at qx1
 have qx2 := cx 2 (by simp)
 simp only [lgZ, lgS] at qx2
 clear cx
 have ly := Nat.lt_of_lt_of_le ly hsz
 have qy0 := cy 0 (by simp)
 simp only [lgZ, lgS] at qy0
 have qy1 := cy 1 (by simp)
 simp only [lgZ, lgS] at qy1
 have qy2 := cy 2 (by simp)
 simp only [lgZ, lgS] at qy2
 clear cy
 have hB := hb
 clear pr
 clear hb hd
 go_wp2
 refine bodyPost_ret (v := .tuple #[.agg #[.bool (neg R.num), .slice ahAU nhAU chAU, .slice ahAD nhAD chAD], .int .i64 0]) ?_ rfl ⟨_, _, _, _, _, _, rfl, hAU, hAD, hB⟩
 simp [results, Tryz.f63, go_sem, qr0, qr1, qr2]
end Go.Proofs.YtlkoenpdmlbhlaaGreat
