/- several texts as one: Ratio4, Ratio5. -/
import Derived.Test.YtlkoenpdmlbhlaaB1

/- ratio, fourth part: sum, product. -/
set_option linter.unusedVariables false
set_option linter.unusedSimpArgs false
namespace Go.Proofs.Ytlkoenpdmlbhlaa
open Go.RowKit

theorem whole05_any (a : Option Addr) (n c : Nat) (w : World) :
    Calls Try.prog 83 #[.slice a n c] w (RetVal w (.agg #[.bool false, .slice a n c])) := by
  go_enter Try.func83, Try.ntmps83
  have hB := Below.refl w.heap.size w
  go_wp2
  refine bodyPost_ret (v := .agg #[.bool false, .slice a n c]) ?_ rfl ⟨rfl, ?_⟩
  · simp [results, Try.f83, go_sem]
  · exact ((Below.refl _ _).alloc (Nat.le_refl _) _)

set_option maxRecDepth 100000 in
set_option maxHeartbeats 8000000 in
theorem sum05_any (b : Bool) (a : Option Addr) (n c : Nat) (l : List Nat) (a2 : Option Addr) (n2 c2 : Nat) (l2 : List Nat) (b3 : Bool) (a3 : Option Addr) (n3 c3 : Nat) (l3 : List Nat) (a4 : Option Addr) (n4 c4 : Nat) (l4 : List Nat) (w : World) (g1 : NatAt w a n c l) (g2 : NatAt w a2 n2 c2 l2) (g3 : NatAt w a3 n3 c3 l3) (g4 : NatAt w a4 n4 c4 l4) (hs : n ≤ 17179869184) (hs2 : n2 ≤ 17179869184) (hs3 : n3 ≤ 17179869184) (hs4 : n4 ≤ 17179869184) (hz : val l2 ≠ 0) (hz4 : val l4 ≠ 0) :
    Calls Try.prog 54 #[.agg #[.bool b, .slice a n c, .slice a2 n2 c2], .agg #[.bool b3, .slice a3 n3 c3, .slice a4 n4 c4]] w (RetRat w (mkRat ((sg b (val l) * (val l4 : Int)) + (sg b3 (val l3) * (val l2 : Int))) (val l2 * val l4))) := by
  obtain ⟨X, hX⟩ : ∃ X, sg b (val l) * (val l4 : Int) = X := ⟨_, rfl⟩
  obtain ⟨Y, hY⟩ : ∃ Y, sg b3 (val l3) * (val l2 : Int) = Y := ⟨_, rfl⟩
  have e1 : sg b (val l) * sg false (val l4) = X := hX
  have e2 : sg b3 (val l3) * sg false (val l2) = Y := hY
  have e3 : sg (neg X) (val (digs X.natAbs)) + sg (neg Y) (val (digs Y.natAbs)) = X + Y := by rw [sg_canon, sg_canon]
  have e4 : sg (neg (X + Y)) (val (digs (X + Y).natAbs)) = X + Y := sg_canon _
  have e5 : val (digs (val l2 * val l4)) = val l2 * val l4 := val_digs _
  have z5 : val (digs (val l2 * val l4)) ≠ 0 := by rw [e5]; exact Nat.mul_ne_zero hz hz4
  have lX : (digs X.natAbs).length ≤ 34359738368 := by
    rw [← hX, Int.natAbs_mul, natAbs_sg]; simp only [Int.natAbs_natCast]
    have := g1.short; have := g4.short; have := digs_len_prod (val l) (val l4); omega
  have lY : (digs Y.natAbs).length ≤ 34359738368 := by
    rw [← hY, Int.natAbs_mul, natAbs_sg]; simp only [Int.natAbs_natCast]
    have := g3.short; have := g2.short; have := digs_len_prod (val l3) (val l2); omega
  have lZ : (digs (X + Y).natAbs).length ≤ 34359738369 := by
    have h1 := digs_len_mono (Int.natAbs_add_le X Y)
    have h2 := digs_len_add X.natAbs Y.natAbs
    omega
  have l5 : (digs (val l2 * val l4)).length ≤ 34359738368 := by
    have := g2.short; have := g4.short; have := digs_len_prod (val l2) (val l4); omega
  rw [hX, hY]
  have E1 := Lib.hid e1
  have E2 := Lib.hid e2
  have E3 := Lib.hid e3
  have E4 := Lib.hid e4
  have E5 := Lib.hid e5
  have Z5 := Lib.hid z5
  have LX := Lib.hid lX
  have LY := Lib.hid lY
  have LZ := Lib.hid lZ
  have L5 := Lib.hid l5
  clear hz hz4 e1 e2 e3 e4 e5 z5 lX lY lZ l5 hX hY
  go_enter Try.func54, Try.ntmps54
  have hB := Below.refl w.heap.size w
  go_wp2_with fail
  obtain ⟨w1, hW, hz0, hb, q, f⟩ := box1g w (w.heap.size) (by omega) #[.bool b, .slice a n c, .slice a2 n2 c2] 36
  rw [hW]
  clear hW
  have g1 := g1.past hb
  have g2 := g2.past hb
  have g3 := g3.past hb
  have g4 := g4.past hb
  have hB := below_later hB hb
  clear hb
  have lx : w.heap.size < w1.heap.size := by omega
  have qx0 := q 0; have qx1 := q 1; have qx2 := q 2
  simp only [List.getElem?_toArray, List.getElem?_cons_zero, List.getElem?_cons_succ] at qx0 qx1 qx2
  clear q f
  obtain ⟨w2, hW, hz1, hb, q, f⟩ := box1g w1 (w.heap.size + 1) (by omega) #[.bool b3, .slice a3 n3 c3, .slice a4 n4 c4] 36
  rw [hW]
  clear hW
  have g1 := g1.past hb
  have g2 := g2.past hb
  have g3 := g3.past hb
  have g4 := g4.past hb
  have qx0 := bq hb lx qx0; have qx1 := bq hb lx qx1; have qx2 := bq hb lx qx2
  have lx := bl hb lx
  have hB := below_later hB hb
  clear hb
  have ly : w.heap.size + 1 < w2.heap.size := by omega
  have qy0 := q 0; have qy1 := q 1; have qy2 := q 2
  simp only [List.getElem?_toArray, List.getElem?_cons_zero, List.getElem?_cons_succ] at qy0 qy1 qy2
  clear q f
  obtain ⟨w3, hW, hz2, hb, q, f⟩ := box1g w2 (w.heap.size + 1 + 1) (by omega) #[.bool false, .slice none 0 0, .slice none 0 0] 36
  rw [hW]
  clear hW
  have g1 := g1.past hb
  have g2 := g2.past hb
  have g3 := g3.past hb
  have g4 := g4.past hb
  have qx0 := bq hb lx qx0; have qx1 := bq hb lx qx1; have qx2 := bq hb lx qx2
  have lx := bl hb lx
  have qy0 := bq hb ly qy0; have qy1 := bq hb ly qy1; have qy2 := bq hb ly qy2
  have ly := bl hb ly
  have hB := below_later hB hb
  clear hb
  have lr : w.heap.size + 1 + 1 < w3.heap.size := by omega
  have qr0 := q 0; have qr1 := q 1; have qr2 := q 2
  simp only [List.getElem?_toArray, List.getElem?_cons_zero, List.getElem?_cons_succ] at qr0 qr1 qr2
  have xr : BoxAt w3 (w.heap.size + 1 + 1) 3 := BoxAt.of q f rfl (by simp [notU_bool, notU_slice, notU_i64])
  clear q f
  clear hz0
  clear hz1
  clear hz2
  have szW := hB.size
  refine wp_region_inv (by kernel_rfl) rfl (by kernel_rfl) (fun A0 V0 dd aa ww => ∃ (blk : Nat → Nat) (y7 y8 y9 y10 y11 y12 y13 y14 y15 y16 y17 y18 y19 y20 y21 y6 : Value), aa = puts A0 [(7, y7), (8, y8), (9, y9), (10, y10), (11, y11), (12, y12), (13, y13), (14, y14), (15, y15), (16, y16), (17, y17), (18, y18), (19, y19), (20, y20), (21, y21), (6, y6)] ∧ Below V0.heap.size V0 ww ∧ Boxes [(15, 2)] V0.heap.size dd blk ww ∧ Shut (dd 0 = true → y7 = .pointer (some ⟨w.heap.size, 0, none⟩)) ∧ Shut (dd 1 = true → y8 = .agg #[.bool b, .slice a n c]) ∧ Shut (dd 2 = true → y9 = .func (Fn.func 83) #[] #[]) ∧ Shut (dd 3 = true → y10 = .pointer (some ⟨w.heap.size + 1, 2, none⟩)) ∧ Shut (dd 4 = true → y11 = .slice a4 n4 c4) ∧ Shut (dd 5 = true → y12 = .agg #[.bool false, .slice a4 n4 c4]) ∧ Shut (dd 6 = true → CopyV V0.heap.size (neg X) (digs X.natAbs) y13 ww) ∧ Shut (dd 7 = true → y14 = .pointer (some ⟨w.heap.size + 1, 0, none⟩)) ∧ Shut (dd 8 = true → y15 = .agg #[.bool b3, .slice a3 n3 c3]) ∧ Shut (dd 9 = true → y16 = .func (Fn.func 83) #[] #[]) ∧ Shut (dd 10 = true → y17 = .pointer (some ⟨w.heap.size, 2, none⟩)) ∧ Shut (dd 11 = true → y18 = .slice a2 n2 c2) ∧ Shut (dd 12 = true → y19 = .agg #[.bool false, .slice a2 n2 c2]) ∧ Shut (dd 13 = true → CopyV V0.heap.size (neg Y) (digs Y.natAbs) y20 ww) ∧ Shut (dd 14 = true → CopyV V0.heap.size (neg (X + Y)) (digs (X + Y).natAbs) y21 ww) ∧ Shut (dd 15 = true → y6 = .pointer (some ⟨blk 15, 0, none⟩)) ∧ Shut (dd 16 = true → HoldsV dd 15 14 (blk 15) y21 ww) ∧ True) ?_ ?_ ?_
  · exact ⟨fun _ => 0, _, _, _, _, _, _, _, _, _, _, _, _, _, _, _, _, puts_self _ [7, 8, 9, 10, 11, 12, 13, 14, 15, 16, 17, 18, 19, 20, 21, 6], (Below.refl _ _).drew, Boxes.none _ _ _ _, fun h => (by cases h), fun h => (by cases h), fun h => (by cases h), fun h => (by cases h), fun h => (by cases h), fun h => (by cases h), fun h => (by cases h), fun h => (by cases h), fun h => (by cases h), fun h => (by cases h), fun h => (by cases h), fun h => (by cases h), fun h => (by cases h), fun h => (by cases h), fun h => (by cases h), fun h => (by cases h), fun h => (by cases h), trivial⟩
  · refine Steps.cons ?_ (Steps.cons ?_ (Steps.cons ?_ (Steps.cons ?_ (Steps.cons ?_ (Steps.cons ?_ (Steps.cons ?_ (Steps.cons ?_ (Steps.cons ?_ (Steps.cons ?_ (Steps.cons ?_ (Steps.cons ?_ (Steps.cons ?_ (Steps.cons ?_ (Steps.cons ?_ (Steps.cons ?_ (Steps.cons ?_ (Steps.nil)))))))))))))))))
    · intro dd aa ww K hc hun hn hI hK
      obtain ⟨blk, y7, y8, y9, y10, y11, y12, y13, y14, y15, y16, y17, y18, y19, y20, y21, y6, ea, hb, hX, f0, f1, f2, f3, f4, f5, f6, f7, f8, f9, f10, f11, f12, f13, f14, f15, f16, _⟩ := hI
      try simp [Region.binds] at hn
      subst ea
      simp only [puts, Act.put, List.setIfInBounds_toArray, List.set_cons_zero, List.set_cons_succ]
      go_simp
      refine hK.out _ _ ?_
      exact ⟨blk, .pointer (some ⟨w.heap.size, 0, none⟩), y8, y9, y10, y11, y12, y13, y14, y15, y16, y17, y18, y19, y20, y21, y6, by simp only [puts, Act.put, List.setIfInBounds_toArray, List.set_cons_zero, List.set_cons_succ], hb, hX.same 0 rfl, fun _ => rfl, fun h => (f1.out (upd_of rfl h)), fun h => (f2.out (upd_of rfl h)), fun h => (f3.out (upd_of rfl h)), fun h => (f4.out (upd_of rfl h)), fun h => (f5.out (upd_of rfl h)), fun h => (f6.out (upd_of rfl h)), fun h => (f7.out (upd_of rfl h)), fun h => (f8.out (upd_of rfl h)), fun h => (f9.out (upd_of rfl h)), fun h => (f10.out (upd_of rfl h)), fun h => (f11.out (upd_of rfl h)), fun h => (f12.out (upd_of rfl h)), fun h => (f13.out (upd_of rfl h)), fun h => (f14.out (upd_of rfl h)), fun h => (f15.out (upd_of rfl h)), fun h => (f16.out (upd_of rfl h)).same 0, trivial⟩
    · intro dd aa ww K hc hun hn hI hK
      obtain ⟨blk, y7, y8, y9, y10, y11, y12, y13, y14, y15, y16, y17, y18, y19, y20, y21, y6, ea, hb, hX, f0, f1, f2, f3, f4, f5, f6, f7, f8, f9, f10, f11, f12, f13, f14, f15, f16, _⟩ := hI
      try simp [Region.binds] at hn
      have ex := f0.out (by first | (simp [hn]; done) | exact hc.reach (f := 8) (by decide +kernel) hn | exact hc.reach (f := 8) (by decide +kernel) hn.1 | exact hc.reach (f := 8) (by decide +kernel) hn.2 | exact hc.reach (f := 8) (by decide +kernel) hn.2.1 | exact hc.reach (f := 8) (by decide +kernel) hn.2.2)
      subst ex
      have e0 := (hb.cell (p := ⟨w.heap.size, 0, none⟩) lx).trans qx0
      have e1 := (hb.cell (p := ⟨w.heap.size, 1, none⟩) lx).trans qx1
      subst ea
      simp only [puts, Act.put, List.setIfInBounds_toArray, List.set_cons_zero, List.set_cons_succ]
      go_simp
      refine hK.out _ _ ?_
      exact ⟨blk, .pointer (some ⟨w.heap.size, 0, none⟩), .agg #[.bool b, .slice a n c], y9, y10, y11, y12, y13, y14, y15, y16, y17, y18, y19, y20, y21, y6, by simp only [puts, Act.put, List.setIfInBounds_toArray, List.set_cons_zero, List.set_cons_succ], hb, hX.same 1 rfl, fun h => rfl, fun _ => rfl, fun h => (f2.out (upd_of rfl h)), fun h => (f3.out (upd_of rfl h)), fun h => (f4.out (upd_of rfl h)), fun h => (f5.out (upd_of rfl h)), fun h => (f6.out (upd_of rfl h)), fun h => (f7.out (upd_of rfl h)), fun h => (f8.out (upd_of rfl h)), fun h => (f9.out (upd_of rfl h)), fun h => (f10.out (upd_of rfl h)), fun h => (f11.out (upd_of rfl h)), fun h => (f12.out (upd_of rfl h)), fun h => (f13.out (upd_of rfl h)), fun h => (f14.out (upd_of rfl h)), fun h => (f15.out (upd_of rfl h)), fun h => (f16.out (upd_of rfl h)).same 1, trivial⟩
    · intro dd aa ww K hc hun hn hI hK
      obtain ⟨blk, y7, y8, y9, y10, y11, y12, y13, y14, y15, y16, y17, y18, y19, y20, y21, y6, ea, hb, hX, f0, f1, f2, f3, f4, f5, f6, f7, f8, f9, f10, f11, f12, f13, f14, f15, f16, _⟩ := hI
      try simp [Region.binds] at hn
      subst ea
      simp only [puts, Act.put, List.setIfInBounds_toArray, List.set_cons_zero, List.set_cons_succ]
      go_simp
      refine hK.out _ _ ?_
      exact ⟨blk, y7, y8, .func (Fn.func 83) #[] #[], y10, y11, y12, y13, y14, y15, y16, y17, y18, y19, y20, y21, y6, by simp only [puts, Act.put, List.setIfInBounds_toArray, List.set_cons_zero, List.set_cons_succ], hb, hX.same 2 rfl, fun h => (f0.out (upd_of rfl h)), fun h => (f1.out (upd_of rfl h)), fun _ => rfl, fun h => (f3.out (upd_of rfl h)), fun h => (f4.out (upd_of rfl h)), fun h => (f5.out (upd_of rfl h)), fun h => (f6.out (upd_of rfl h)), fun h => (f7.out (upd_of rfl h)), fun h => (f8.out (upd_of rfl h)), fun h => (f9.out (upd_of rfl h)), fun h => (f10.out (upd_of rfl h)), fun h => (f11.out (upd_of rfl h)), fun h => (f12.out (upd_of rfl h)), fun h => (f13.out (upd_of rfl h)), fun h => (f14.out (upd_of rfl h)), fun h => (f15.out (upd_of rfl h)), fun h => (f16.out (upd_of rfl h)).same 2, trivial⟩
    · intro dd aa ww K hc hun hn hI hK
      obtain ⟨blk, y7, y8, y9, y10, y11, y12, y13, y14, y15, y16, y17, y18, y19, y20, y21, y6, ea, hb, hX, f0, f1, f2, f3, f4, f5, f6, f7, f8, f9, f10, f11, f12, f13, f14, f15, f16, _⟩ := hI
      try simp [Region.binds] at hn
      subst ea
      simp only [puts, Act.put, List.setIfInBounds_toArray, List.set_cons_zero, List.set_cons_succ]
      go_simp
      refine hK.out _ _ ?_
      exact ⟨blk, y7, y8, y9, .pointer (some ⟨w.heap.size + 1, 2, none⟩), y11, y12, y13, y14, y15, y16, y17, y18, y19, y20, y21, y6, by simp only [puts, Act.put, List.setIfInBounds_toArray, List.set_cons_zero, List.set_cons_succ], hb, hX.same 3 rfl, fun h => (f0.out (upd_of rfl h)), fun h => (f1.out (upd_of rfl h)), fun h => (f2.out (upd_of rfl h)), fun _ => rfl, fun h => (f4.out (upd_of rfl h)), fun h => (f5.out (upd_of rfl h)), fun h => (f6.out (upd_of rfl h)), fun h => (f7.out (upd_of rfl h)), fun h => (f8.out (upd_of rfl h)), fun h => (f9.out (upd_of rfl h)), fun h => (f10.out (upd_of rfl h)), fun h => (f11.out (upd_of rfl h)), fun h => (f12.out (upd_of rfl h)), fun h => (f13.out (upd_of rfl h)), fun h => (f14.out (upd_of rfl h)), fun h => (f15.out (upd_of rfl h)), fun h => (f16.out (upd_of rfl h)).same 3, trivial⟩
    · intro dd aa ww K hc hun hn hI hK
      obtain ⟨blk, y7, y8, y9, y10, y11, y12, y13, y14, y15, y16, y17, y18, y19, y20, y21, y6, ea, hb, hX, f0, f1, f2, f3, f4, f5, f6, f7, f8, f9, f10, f11, f12, f13, f14, f15, f16, _⟩ := hI
      try simp [Region.binds] at hn
      have ex := f3.out (by first | (simp [hn]; done) | exact hc.reach (f := 8) (by decide +kernel) hn | exact hc.reach (f := 8) (by decide +kernel) hn.1 | exact hc.reach (f := 8) (by decide +kernel) hn.2 | exact hc.reach (f := 8) (by decide +kernel) hn.2.1 | exact hc.reach (f := 8) (by decide +kernel) hn.2.2)
      subst ex
      have e2 := (hb.cell (p := ⟨w.heap.size + 1, 2, none⟩) ly).trans qy2
      subst ea
      simp only [puts, Act.put, List.setIfInBounds_toArray, List.set_cons_zero, List.set_cons_succ]
      go_simp
      refine hK.out _ _ ?_
      exact ⟨blk, y7, y8, y9, .pointer (some ⟨w.heap.size + 1, 2, none⟩), .slice a4 n4 c4, y12, y13, y14, y15, y16, y17, y18, y19, y20, y21, y6, by simp only [puts, Act.put, List.setIfInBounds_toArray, List.set_cons_zero, List.set_cons_succ], hb, hX.same 4 rfl, fun h => (f0.out (upd_of rfl h)), fun h => (f1.out (upd_of rfl h)), fun h => (f2.out (upd_of rfl h)), fun h => rfl, fun _ => rfl, fun h => (f5.out (upd_of rfl h)), fun h => (f6.out (upd_of rfl h)), fun h => (f7.out (upd_of rfl h)), fun h => (f8.out (upd_of rfl h)), fun h => (f9.out (upd_of rfl h)), fun h => (f10.out (upd_of rfl h)), fun h => (f11.out (upd_of rfl h)), fun h => (f12.out (upd_of rfl h)), fun h => (f13.out (upd_of rfl h)), fun h => (f14.out (upd_of rfl h)), fun h => (f15.out (upd_of rfl h)), fun h => (f16.out (upd_of rfl h)).same 4, trivial⟩
    · intro dd aa ww K hc hun hn hI hK
      obtain ⟨blk, y7, y8, y9, y10, y11, y12, y13, y14, y15, y16, y17, y18, y19, y20, y21, y6, ea, hb, hX, f0, f1, f2, f3, f4, f5, f6, f7, f8, f9, f10, f11, f12, f13, f14, f15, f16, _⟩ := hI
      try simp [Region.binds] at hn
      have ex := f2.out (by first | (simp [hn]; done) | exact hc.reach (f := 8) (by decide +kernel) hn | exact hc.reach (f := 8) (by decide +kernel) hn.1 | exact hc.reach (f := 8) (by decide +kernel) hn.2 | exact hc.reach (f := 8) (by decide +kernel) hn.2.1 | exact hc.reach (f := 8) (by decide +kernel) hn.2.2)
      subst ex
      have ex := f4.out (by first | (simp [hn]; done) | exact hc.reach (f := 8) (by decide +kernel) hn | exact hc.reach (f := 8) (by decide +kernel) hn.1 | exact hc.reach (f := 8) (by decide +kernel) hn.2 | exact hc.reach (f := 8) (by decide +kernel) hn.2.1 | exact hc.reach (f := 8) (by decide +kernel) hn.2.2)
      subst ex
      subst ea
      simp only [puts, Act.put, List.setIfInBounds_toArray, List.set_cons_zero, List.set_cons_succ]
      go_simp
      with_reducible refine (whole05_any _ _ _ _).mono ?_
      rintro e w1 ⟨rfl, h1⟩
      refine hK.out _ _ ?_
      exact ⟨blk, y7, y8, .func (Fn.func 83) #[] #[], y10, .slice a4 n4 c4, .agg #[.bool false, .slice a4 n4 c4], y13, y14, y15, y16, y17, y18, y19, y20, y21, y6, by simp only [puts, Act.put, List.setIfInBounds_toArray, List.set_cons_zero, List.set_cons_succ], below_later hb h1, hX.past h1 5 rfl, fun h => (f0.out (upd_of rfl h)), fun h => (f1.out (upd_of rfl h)), fun h => rfl, fun h => (f3.out (upd_of rfl h)), fun h => rfl, fun _ => rfl, fun h => (f6.out (upd_of rfl h)).past h1, fun h => (f7.out (upd_of rfl h)), fun h => (f8.out (upd_of rfl h)), fun h => (f9.out (upd_of rfl h)), fun h => (f10.out (upd_of rfl h)), fun h => (f11.out (upd_of rfl h)), fun h => (f12.out (upd_of rfl h)), fun h => (f13.out (upd_of rfl h)).past h1, fun h => (f14.out (upd_of rfl h)).past h1, fun h => (f15.out (upd_of rfl h)), fun h => (f16.out (upd_of rfl h)).past h1 5, trivial⟩
    · intro dd aa ww K hc hun hn hI hK
      obtain ⟨blk, y7, y8, y9, y10, y11, y12, y13, y14, y15, y16, y17, y18, y19, y20, y21, y6, ea, hb, hX, f0, f1, f2, f3, f4, f5, f6, f7, f8, f9, f10, f11, f12, f13, f14, f15, f16, _⟩ := hI
      try simp [Region.binds] at hn
      have ex := f1.out (by first | (simp [hn]; done) | exact hc.reach (f := 8) (by decide +kernel) hn | exact hc.reach (f := 8) (by decide +kernel) hn.1 | exact hc.reach (f := 8) (by decide +kernel) hn.2 | exact hc.reach (f := 8) (by decide +kernel) hn.2.1 | exact hc.reach (f := 8) (by decide +kernel) hn.2.2)
      subst ex
      have ex := f5.out (by first | (simp [hn]; done) | exact hc.reach (f := 8) (by decide +kernel) hn | exact hc.reach (f := 8) (by decide +kernel) hn.1 | exact hc.reach (f := 8) (by decide +kernel) hn.2 | exact hc.reach (f := 8) (by decide +kernel) hn.2.1 | exact hc.reach (f := 8) (by decide +kernel) hn.2.2)
      subst ex
      subst ea
      simp only [puts, Act.put, List.setIfInBounds_toArray, List.set_cons_zero, List.set_cons_succ]
      go_simp
      with_reducible refine (smul_any b _ _ _ l false _ _ _ l4 _ (g1.past hb) (g4.past hb) (by omega) (by omega)).mono ?_
      rintro e w1 ⟨ahM, nhM, chM, rfl, hM, h1⟩
      rw [E1.out] at hM ⊢
      refine hK.out _ _ ?_
      exact ⟨blk, y7, .agg #[.bool b, .slice a n c], y9, y10, y11, .agg #[.bool false, .slice a4 n4 c4], .agg #[.bool (neg X), .slice ahM nhM chM], y14, y15, y16, y17, y18, y19, y20, y21, y6, by simp only [puts, Act.put, List.setIfInBounds_toArray, List.set_cons_zero, List.set_cons_succ], below_later hb h1, hX.past h1 6 rfl, fun h => (f0.out (upd_of rfl h)), fun h => rfl, fun h => (f2.out (upd_of rfl h)), fun h => (f3.out (upd_of rfl h)), fun h => (f4.out (upd_of rfl h)), fun h => rfl, fun _ => ⟨_, _, _, rfl, hM.mono hb.size⟩, fun h => (f7.out (upd_of rfl h)), fun h => (f8.out (upd_of rfl h)), fun h => (f9.out (upd_of rfl h)), fun h => (f10.out (upd_of rfl h)), fun h => (f11.out (upd_of rfl h)), fun h => (f12.out (upd_of rfl h)), fun h => (f13.out (upd_of rfl h)).past h1, fun h => (f14.out (upd_of rfl h)).past h1, fun h => (f15.out (upd_of rfl h)), fun h => (f16.out (upd_of rfl h)).past h1 6, trivial⟩
    · intro dd aa ww K hc hun hn hI hK
      obtain ⟨blk, y7, y8, y9, y10, y11, y12, y13, y14, y15, y16, y17, y18, y19, y20, y21, y6, ea, hb, hX, f0, f1, f2, f3, f4, f5, f6, f7, f8, f9, f10, f11, f12, f13, f14, f15, f16, _⟩ := hI
      try simp [Region.binds] at hn
      subst ea
      simp only [puts, Act.put, List.setIfInBounds_toArray, List.set_cons_zero, List.set_cons_succ]
      go_simp
      refine hK.out _ _ ?_
      exact ⟨blk, y7, y8, y9, y10, y11, y12, y13, .pointer (some ⟨w.heap.size + 1, 0, none⟩), y15, y16, y17, y18, y19, y20, y21, y6, by simp only [puts, Act.put, List.setIfInBounds_toArray, List.set_cons_zero, List.set_cons_succ], hb, hX.same 7 rfl, fun h => (f0.out (upd_of rfl h)), fun h => (f1.out (upd_of rfl h)), fun h => (f2.out (upd_of rfl h)), fun h => (f3.out (upd_of rfl h)), fun h => (f4.out (upd_of rfl h)), fun h => (f5.out (upd_of rfl h)), fun h => (f6.out (upd_of rfl h)), fun _ => rfl, fun h => (f8.out (upd_of rfl h)), fun h => (f9.out (upd_of rfl h)), fun h => (f10.out (upd_of rfl h)), fun h => (f11.out (upd_of rfl h)), fun h => (f12.out (upd_of rfl h)), fun h => (f13.out (upd_of rfl h)), fun h => (f14.out (upd_of rfl h)), fun h => (f15.out (upd_of rfl h)), fun h => (f16.out (upd_of rfl h)).same 7, trivial⟩
    · intro dd aa ww K hc hun hn hI hK
      obtain ⟨blk, y7, y8, y9, y10, y11, y12, y13, y14, y15, y16, y17, y18, y19, y20, y21, y6, ea, hb, hX, f0, f1, f2, f3, f4, f5, f6, f7, f8, f9, f10, f11, f12, f13, f14, f15, f16, _⟩ := hI
      try simp [Region.binds] at hn
      have ex := f7.out (by first | (simp [hn]; done) | exact hc.reach (f := 8) (by decide +kernel) hn | exact hc.reach (f := 8) (by decide +kernel) hn.1 | exact hc.reach (f := 8) (by decide +kernel) hn.2 | exact hc.reach (f := 8) (by decide +kernel) hn.2.1 | exact hc.reach (f := 8) (by decide +kernel) hn.2.2)
      subst ex
      have e0 := (hb.cell (p := ⟨w.heap.size + 1, 0, none⟩) ly).trans qy0
      have e1 := (hb.cell (p := ⟨w.heap.size + 1, 1, none⟩) ly).trans qy1
      subst ea
      simp only [puts, Act.put, List.setIfInBounds_toArray, List.set_cons_zero, List.set_cons_succ]
      go_simp
      refine hK.out _ _ ?_
      exact ⟨blk, y7, y8, y9, y10, y11, y12, y13, .pointer (some ⟨w.heap.size + 1, 0, none⟩), .agg #[.bool b3, .slice a3 n3 c3], y16, y17, y18, y19, y20, y21, y6, by simp only [puts, Act.put, List.setIfInBounds_toArray, List.set_cons_zero, List.set_cons_succ], hb, hX.same 8 rfl, fun h => (f0.out (upd_of rfl h)), fun h => (f1.out (upd_of rfl h)), fun h => (f2.out (upd_of rfl h)), fun h => (f3.out (upd_of rfl h)), fun h => (f4.out (upd_of rfl h)), fun h => (f5.out (upd_of rfl h)), fun h => (f6.out (upd_of rfl h)), fun h => rfl, fun _ => rfl, fun h => (f9.out (upd_of rfl h)), fun h => (f10.out (upd_of rfl h)), fun h => (f11.out (upd_of rfl h)), fun h => (f12.out (upd_of rfl h)), fun h => (f13.out (upd_of rfl h)), fun h => (f14.out (upd_of rfl h)), fun h => (f15.out (upd_of rfl h)), fun h => (f16.out (upd_of rfl h)).same 8, trivial⟩
    · intro dd aa ww K hc hun hn hI hK
      obtain ⟨blk, y7, y8, y9, y10, y11, y12, y13, y14, y15, y16, y17, y18, y19, y20, y21, y6, ea, hb, hX, f0, f1, f2, f3, f4, f5, f6, f7, f8, f9, f10, f11, f12, f13, f14, f15, f16, _⟩ := hI
      try simp [Region.binds] at hn
      subst ea
      simp only [puts, Act.put, List.setIfInBounds_toArray, List.set_cons_zero, List.set_cons_succ]
      go_simp
      refine hK.out _ _ ?_
      exact ⟨blk, y7, y8, y9, y10, y11, y12, y13, y14, y15, .func (Fn.func 83) #[] #[], y17, y18, y19, y20, y21, y6, by simp only [puts, Act.put, List.setIfInBounds_toArray, List.set_cons_zero, List.set_cons_succ], hb, hX.same 9 rfl, fun h => (f0.out (upd_of rfl h)), fun h => (f1.out (upd_of rfl h)), fun h => (f2.out (upd_of rfl h)), fun h => (f3.out (upd_of rfl h)), fun h => (f4.out (upd_of rfl h)), fun h => (f5.out (upd_of rfl h)), fun h => (f6.out (upd_of rfl h)), fun h => (f7.out (upd_of rfl h)), fun h => (f8.out (upd_of rfl h)), fun _ => rfl, fun h => (f10.out (upd_of rfl h)), fun h => (f11.out (upd_of rfl h)), fun h => (f12.out (upd_of rfl h)), fun h => (f13.out (upd_of rfl h)), fun h => (f14.out (upd_of rfl h)), fun h => (f15.out (upd_of rfl h)), fun h => (f16.out (upd_of rfl h)).same 9, trivial⟩
    · intro dd aa ww K hc hun hn hI hK
      obtain ⟨blk, y7, y8, y9, y10, y11, y12, y13, y14, y15, y16, y17, y18, y19, y20, y21, y6, ea, hb, hX, f0, f1, f2, f3, f4, f5, f6, f7, f8, f9, f10, f11, f12, f13, f14, f15, f16, _⟩ := hI
      try simp [Region.binds] at hn
      subst ea
      simp only [puts, Act.put, List.setIfInBounds_toArray, List.set_cons_zero, List.set_cons_succ]
      go_simp
      refine hK.out _ _ ?_
      exact ⟨blk, y7, y8, y9, y10, y11, y12, y13, y14, y15, y16, .pointer (some ⟨w.heap.size, 2, none⟩), y18, y19, y20, y21, y6, by simp only [puts, Act.put, List.setIfInBounds_toArray, List.set_cons_zero, List.set_cons_succ], hb, hX.same 10 rfl, fun h => (f0.out (upd_of rfl h)), fun h => (f1.out (upd_of rfl h)), fun h => (f2.out (upd_of rfl h)), fun h => (f3.out (upd_of rfl h)), fun h => (f4.out (upd_of rfl h)), fun h => (f5.out (upd_of rfl h)), fun h => (f6.out (upd_of rfl h)), fun h => (f7.out (upd_of rfl h)), fun h => (f8.out (upd_of rfl h)), fun h => (f9.out (upd_of rfl h)), fun _ => rfl, fun h => (f11.out (upd_of rfl h)), fun h => (f12.out (upd_of rfl h)), fun h => (f13.out (upd_of rfl h)), fun h => (f14.out (upd_of rfl h)), fun h => (f15.out (upd_of rfl h)), fun h => (f16.out (upd_of rfl h)).same 10, trivial⟩
    · intro dd aa ww K hc hun hn hI hK
      obtain ⟨blk, y7, y8, y9, y10, y11, y12, y13, y14, y15, y16, y17, y18, y19, y20, y21, y6, ea, hb, hX, f0, f1, f2, f3, f4, f5, f6, f7, f8, f9, f10, f11, f12, f13, f14, f15, f16, _⟩ := hI
      try simp [Region.binds] at hn
      have ex := f10.out (by first | (simp [hn]; done) | exact hc.reach (f := 8) (by decide +kernel) hn | exact hc.reach (f := 8) (by decide +kernel) hn.1 | exact hc.reach (f := 8) (by decide +kernel) hn.2 | exact hc.reach (f := 8) (by decide +kernel) hn.2.1 | exact hc.reach (f := 8) (by decide +kernel) hn.2.2)
      subst ex
      have e2 := (hb.cell (p := ⟨w.heap.size, 2, none⟩) lx).trans qx2
      subst ea
      simp only [puts, Act.put, List.setIfInBounds_toArray, List.set_cons_zero, List.set_cons_succ]
      go_simp
      refine hK.out _ _ ?_
      exact ⟨blk, y7, y8, y9, y10, y11, y12, y13, y14, y15, y16, .pointer (some ⟨w.heap.size, 2, none⟩), .slice a2 n2 c2, y19, y20, y21, y6, by simp only [puts, Act.put, List.setIfInBounds_toArray, List.set_cons_zero, List.set_cons_succ], hb, hX.same 11 rfl, fun h => (f0.out (upd_of rfl h)), fun h => (f1.out (upd_of rfl h)), fun h => (f2.out (upd_of rfl h)), fun h => (f3.out (upd_of rfl h)), fun h => (f4.out (upd_of rfl h)), fun h => (f5.out (upd_of rfl h)), fun h => (f6.out (upd_of rfl h)), fun h => (f7.out (upd_of rfl h)), fun h => (f8.out (upd_of rfl h)), fun h => (f9.out (upd_of rfl h)), fun h => rfl, fun _ => rfl, fun h => (f12.out (upd_of rfl h)), fun h => (f13.out (upd_of rfl h)), fun h => (f14.out (upd_of rfl h)), fun h => (f15.out (upd_of rfl h)), fun h => (f16.out (upd_of rfl h)).same 11, trivial⟩
    · intro dd aa ww K hc hun hn hI hK
      obtain ⟨blk, y7, y8, y9, y10, y11, y12, y13, y14, y15, y16, y17, y18, y19, y20, y21, y6, ea, hb, hX, f0, f1, f2, f3, f4, f5, f6, f7, f8, f9, f10, f11, f12, f13, f14, f15, f16, _⟩ := hI
      try simp [Region.binds] at hn
      have ex := f9.out (by first | (simp [hn]; done) | exact hc.reach (f := 8) (by decide +kernel) hn | exact hc.reach (f := 8) (by decide +kernel) hn.1 | exact hc.reach (f := 8) (by decide +kernel) hn.2 | exact hc.reach (f := 8) (by decide +kernel) hn.2.1 | exact hc.reach (f := 8) (by decide +kernel) hn.2.2)
      subst ex
      have ex := f11.out (by first | (simp [hn]; done) | exact hc.reach (f := 8) (by decide +kernel) hn | exact hc.reach (f := 8) (by decide +kernel) hn.1 | exact hc.reach (f := 8) (by decide +kernel) hn.2 | exact hc.reach (f := 8) (by decide +kernel) hn.2.1 | exact hc.reach (f := 8) (by decide +kernel) hn.2.2)
      subst ex
      subst ea
      simp only [puts, Act.put, List.setIfInBounds_toArray, List.set_cons_zero, List.set_cons_succ]
      go_simp
      with_reducible refine (whole05_any _ _ _ _).mono ?_
      rintro e w1 ⟨rfl, h1⟩
      refine hK.out _ _ ?_
      exact ⟨blk, y7, y8, y9, y10, y11, y12, y13, y14, y15, .func (Fn.func 83) #[] #[], y17, .slice a2 n2 c2, .agg #[.bool false, .slice a2 n2 c2], y20, y21, y6, by simp only [puts, Act.put, List.setIfInBounds_toArray, List.set_cons_zero, List.set_cons_succ], below_later hb h1, hX.past h1 12 rfl, fun h => (f0.out (upd_of rfl h)), fun h => (f1.out (upd_of rfl h)), fun h => (f2.out (upd_of rfl h)), fun h => (f3.out (upd_of rfl h)), fun h => (f4.out (upd_of rfl h)), fun h => (f5.out (upd_of rfl h)), fun h => (f6.out (upd_of rfl h)).past h1, fun h => (f7.out (upd_of rfl h)), fun h => (f8.out (upd_of rfl h)), fun h => rfl, fun h => (f10.out (upd_of rfl h)), fun h => rfl, fun _ => rfl, fun h => (f13.out (upd_of rfl h)).past h1, fun h => (f14.out (upd_of rfl h)).past h1, fun h => (f15.out (upd_of rfl h)), fun h => (f16.out (upd_of rfl h)).past h1 12, trivial⟩
    · intro dd aa ww K hc hun hn hI hK
      obtain ⟨blk, y7, y8, y9, y10, y11, y12, y13, y14, y15, y16, y17, y18, y19, y20, y21, y6, ea, hb, hX, f0, f1, f2, f3, f4, f5, f6, f7, f8, f9, f10, f11, f12, f13, f14, f15, f16, _⟩ := hI
      try simp [Region.binds] at hn
      have ex := f8.out (by first | (simp [hn]; done) | exact hc.reach (f := 8) (by decide +kernel) hn | exact hc.reach (f := 8) (by decide +kernel) hn.1 | exact hc.reach (f := 8) (by decide +kernel) hn.2 | exact hc.reach (f := 8) (by decide +kernel) hn.2.1 | exact hc.reach (f := 8) (by decide +kernel) hn.2.2)
      subst ex
      have ex := f12.out (by first | (simp [hn]; done) | exact hc.reach (f := 8) (by decide +kernel) hn | exact hc.reach (f := 8) (by decide +kernel) hn.1 | exact hc.reach (f := 8) (by decide +kernel) hn.2 | exact hc.reach (f := 8) (by decide +kernel) hn.2.1 | exact hc.reach (f := 8) (by decide +kernel) hn.2.2)
      subst ex
      subst ea
      simp only [puts, Act.put, List.setIfInBounds_toArray, List.set_cons_zero, List.set_cons_succ]
      go_simp
      with_reducible refine (smul_any b3 _ _ _ l3 false _ _ _ l2 _ (g3.past hb) (g2.past hb) (by omega) (by omega)).mono ?_
      rintro e w1 ⟨ahN, nhN, chN, rfl, hN, h1⟩
      rw [E2.out] at hN ⊢
      refine hK.out _ _ ?_
      exact ⟨blk, y7, y8, y9, y10, y11, y12, y13, y14, .agg #[.bool b3, .slice a3 n3 c3], y16, y17, y18, .agg #[.bool false, .slice a2 n2 c2], .agg #[.bool (neg Y), .slice ahN nhN chN], y21, y6, by simp only [puts, Act.put, List.setIfInBounds_toArray, List.set_cons_zero, List.set_cons_succ], below_later hb h1, hX.past h1 13 rfl, fun h => (f0.out (upd_of rfl h)), fun h => (f1.out (upd_of rfl h)), fun h => (f2.out (upd_of rfl h)), fun h => (f3.out (upd_of rfl h)), fun h => (f4.out (upd_of rfl h)), fun h => (f5.out (upd_of rfl h)), fun h => (f6.out (upd_of rfl h)).past h1, fun h => (f7.out (upd_of rfl h)), fun h => rfl, fun h => (f9.out (upd_of rfl h)), fun h => (f10.out (upd_of rfl h)), fun h => (f11.out (upd_of rfl h)), fun h => rfl, fun _ => ⟨_, _, _, rfl, hN.mono hb.size⟩, fun h => (f14.out (upd_of rfl h)).past h1, fun h => (f15.out (upd_of rfl h)), fun h => (f16.out (upd_of rfl h)).past h1 13, trivial⟩
    · intro dd aa ww K hc hun hn hI hK
      obtain ⟨blk, y7, y8, y9, y10, y11, y12, y13, y14, y15, y16, y17, y18, y19, y20, y21, y6, ea, hb, hX, f0, f1, f2, f3, f4, f5, f6, f7, f8, f9, f10, f11, f12, f13, f14, f15, f16, _⟩ := hI
      try simp [Region.binds] at hn
      obtain ⟨ahM, nhM, chM, ex, hM⟩ := f6.out (by first | (simp [hn]; done) | exact hc.reach (f := 8) (by decide +kernel) hn | exact hc.reach (f := 8) (by decide +kernel) hn.1 | exact hc.reach (f := 8) (by decide +kernel) hn.2 | exact hc.reach (f := 8) (by decide +kernel) hn.2.1 | exact hc.reach (f := 8) (by decide +kernel) hn.2.2)
      subst ex
      obtain ⟨ahN, nhN, chN, ex, hN⟩ := f13.out (by first | (simp [hn]; done) | exact hc.reach (f := 8) (by decide +kernel) hn | exact hc.reach (f := 8) (by decide +kernel) hn.1 | exact hc.reach (f := 8) (by decide +kernel) hn.2 | exact hc.reach (f := 8) (by decide +kernel) hn.2.1 | exact hc.reach (f := 8) (by decide +kernel) hn.2.2)
      subst ex
      subst ea
      simp only [puts, Act.put, List.setIfInBounds_toArray, List.set_cons_zero, List.set_cons_succ]
      go_simp
      with_reducible refine (sadd_any (neg X) _ _ _ (digs X.natAbs) (neg Y) _ _ _ (digs Y.natAbs) _ hM.toNatAt hN.toNatAt (by have := hM.len; have := LX.out; omega) (by have := hN.len; have := LY.out; omega)).mono ?_
      rintro e w1 ⟨ahS, nhS, chS, rfl, hS, h1⟩
      rw [E3.out] at hS ⊢
      refine hK.out _ _ ?_
      exact ⟨blk, y7, y8, y9, y10, y11, y12, .agg #[.bool (neg X), .slice ahM nhM chM], y14, y15, y16, y17, y18, y19, .agg #[.bool (neg Y), .slice ahN nhN chN], .agg #[.bool (neg (X + Y)), .slice ahS nhS chS], y6, by simp only [puts, Act.put, List.setIfInBounds_toArray, List.set_cons_zero, List.set_cons_succ], below_later hb h1, hX.past h1 14 rfl, fun h => (f0.out (upd_of rfl h)), fun h => (f1.out (upd_of rfl h)), fun h => (f2.out (upd_of rfl h)), fun h => (f3.out (upd_of rfl h)), fun h => (f4.out (upd_of rfl h)), fun h => (f5.out (upd_of rfl h)), fun h => (f6.out (upd_of rfl h)).past h1, fun h => (f7.out (upd_of rfl h)), fun h => (f8.out (upd_of rfl h)), fun h => (f9.out (upd_of rfl h)), fun h => (f10.out (upd_of rfl h)), fun h => (f11.out (upd_of rfl h)), fun h => (f12.out (upd_of rfl h)), fun h => (f13.out (upd_of rfl h)).past h1, fun _ => ⟨_, _, _, rfl, hS.mono hb.size⟩, fun h => (f15.out (upd_of rfl h)), fun h => absurd (HoldsV.vp (f16.out (upd_of rfl h))) (by rw [hun]; decide), trivial⟩
    · intro dd aa ww K hc hun hn hI hK
      obtain ⟨blk, y7, y8, y9, y10, y11, y12, y13, y14, y15, y16, y17, y18, y19, y20, y21, y6, ea, hb, hX, f0, f1, f2, f3, f4, f5, f6, f7, f8, f9, f10, f11, f12, f13, f14, f15, f16, _⟩ := hI
      try simp [Region.binds] at hn
      subst ea
      simp only [puts, Act.put, List.setIfInBounds_toArray, List.set_cons_zero, List.set_cons_succ]
      go_simp
      refine hK.out _ _ ?_
      exact ⟨setB blk 15 ww.heap.size, y7, y8, y9, y10, y11, y12, y13, y14, y15, y16, y17, y18, y19, y20, y21, .pointer (some ⟨ww.heap.size, 0, none⟩), by simp only [puts, Act.put, List.setIfInBounds_toArray, List.set_cons_zero, List.set_cons_succ], below_alloc hb _, hX.new hb.size 15 #[.bool false, .slice none 0 0] _ rfl (by simp [notU_bool, notU_slice, notU_i64]), fun h => (f0.out (upd_of rfl h)), fun h => (f1.out (upd_of rfl h)), fun h => (f2.out (upd_of rfl h)), fun h => (f3.out (upd_of rfl h)), fun h => (f4.out (upd_of rfl h)), fun h => (f5.out (upd_of rfl h)), fun h => (f6.out (upd_of rfl h)).past ((Below.refl _ _).alloc (Nat.le_refl _) _), fun h => (f7.out (upd_of rfl h)), fun h => (f8.out (upd_of rfl h)), fun h => (f9.out (upd_of rfl h)), fun h => (f10.out (upd_of rfl h)), fun h => (f11.out (upd_of rfl h)), fun h => (f12.out (upd_of rfl h)), fun h => (f13.out (upd_of rfl h)).past ((Below.refl _ _).alloc (Nat.le_refl _) _), fun h => (f14.out (upd_of rfl h)).past ((Below.refl _ _).alloc (Nat.le_refl _) _), fun _ => rfl, fun h => absurd (HoldsV.up (f16.out (upd_of rfl h))) (by rw [hun]; decide), trivial⟩
    · intro dd aa ww K hc hun hn hI hK
      obtain ⟨blk, y7, y8, y9, y10, y11, y12, y13, y14, y15, y16, y17, y18, y19, y20, y21, y6, ea, hb, hX, f0, f1, f2, f3, f4, f5, f6, f7, f8, f9, f10, f11, f12, f13, f14, f15, f16, _⟩ := hI
      try simp [Region.binds] at hn
      have ex := f15.out (by first | (simp [hn]; done) | exact hc.reach (f := 8) (by decide +kernel) hn | exact hc.reach (f := 8) (by decide +kernel) hn.1 | exact hc.reach (f := 8) (by decide +kernel) hn.2 | exact hc.reach (f := 8) (by decide +kernel) hn.2.1 | exact hc.reach (f := 8) (by decide +kernel) hn.2.2)
      subst ex
      obtain ⟨ahS, nhS, chS, ex, hS⟩ := f14.out (by first | (simp [hn]; done) | exact hc.reach (f := 8) (by decide +kernel) hn | exact hc.reach (f := 8) (by decide +kernel) hn.1 | exact hc.reach (f := 8) (by decide +kernel) hn.2 | exact hc.reach (f := 8) (by decide +kernel) hn.2.1 | exact hc.reach (f := 8) (by decide +kernel) hn.2.2)
      subst ex
      have hd15 : dd 15 = true := by simp [hn]
      have hv14 : dd 14 = true := by simp [hn]
      obtain ⟨x1, x2, x3⟩ := hX.at_ (15, 2) (by simp) hd15
      obtain ⟨v0, v1, z0, z1, z2, z3, _, _⟩ := x3.two
      have hv : ∀ v ∈ ([.bool (neg (X + Y)), .slice ahS nhS chS] : List Value), notU v := by simp [notU_bool, notU_slice, notU_i64]
      subst ea
      simp only [puts, Act.put, List.setIfInBounds_toArray, List.set_cons_zero, List.set_cons_succ]
      go_simp
      refine hK.out _ _ ?_
      exact ⟨blk, y7, y8, y9, y10, y11, y12, y13, y14, y15, y16, y17, y18, y19, y20, .agg #[.bool (neg (X + Y)), .slice ahS nhS chS], .pointer (some ⟨blk 15, 0, none⟩), by simp only [puts, Act.put, List.setIfInBounds_toArray, List.set_cons_zero, List.set_cons_succ], hb.trans (below_setCells _ _ x1 [.bool (neg (X + Y)), .slice ahS nhS chS] 0 _), (hX.sets [.bool (neg (X + Y)), .slice ahS nhS chS] _ 0 _ hv).same 16 rfl, fun h => (f0.out (upd_of rfl h)), fun h => (f1.out (upd_of rfl h)), fun h => (f2.out (upd_of rfl h)), fun h => (f3.out (upd_of rfl h)), fun h => (f4.out (upd_of rfl h)), fun h => (f5.out (upd_of rfl h)), fun h => ((f6.out (upd_of rfl h)).sets [.bool (neg (X + Y)), .slice ahS nhS chS] x3 (by simp) hv), fun h => (f7.out (upd_of rfl h)), fun h => (f8.out (upd_of rfl h)), fun h => (f9.out (upd_of rfl h)), fun h => (f10.out (upd_of rfl h)), fun h => (f11.out (upd_of rfl h)), fun h => (f12.out (upd_of rfl h)), fun h => ((f13.out (upd_of rfl h)).sets [.bool (neg (X + Y)), .slice ahS nhS chS] x3 (by simp) hv), fun h => ((f14.out (upd_of rfl h)).sets [.bool (neg (X + Y)), .slice ahS nhS chS] x3 (by simp) hv), fun h => rfl, fun _ => (HoldsV.new hd15 hv14 x2 x3 [.bool (neg (X + Y)), .slice ahS nhS chS] (by simp)).same 16, trivial⟩
  intro dd aa w4 hd hI
  obtain ⟨blk, y7, y8, y9, y10, y11, y12, y13, y14, y15, y16, y17, y18, y19, y20, y21, y6, ea, hb, hX, f0, f1, f2, f3, f4, f5, f6, f7, f8, f9, f10, f11, f12, f13, f14, f15, f16, _⟩ := hI
  have ex := f0.out (hd 0 (by simp))
  subst ex
  have ex := f1.out (hd 1 (by simp))
  subst ex
  have ex := f2.out (hd 2 (by simp))
  subst ex
  have ex := f3.out (hd 3 (by simp))
  subst ex
  have ex := f4.out (hd 4 (by simp))
  subst ex
  have ex := f5.out (hd 5 (by simp))
  subst ex
  obtain ⟨ahM, nhM, chM, ex, hM⟩ := f6.out (hd 6 (by simp))
  subst ex
  have ex := f7.out (hd 7 (by simp))
  subst ex
  have ex := f8.out (hd 8 (by simp))
  subst ex
  have ex := f9.out (hd 9 (by simp))
  subst ex
  have ex := f10.out (hd 10 (by simp))
  subst ex
  have ex := f11.out (hd 11 (by simp))
  subst ex
  have ex := f12.out (hd 12 (by simp))
  subst ex
  obtain ⟨ahN, nhN, chN, ex, hN⟩ := f13.out (hd 13 (by simp))
  subst ex
  obtain ⟨ahS, nhS, chS, ex, hS⟩ := f14.out (hd 14 (by simp))
  subst ex
  have ex := f15.out (hd 15 (by simp))
  subst ex
  obtain ⟨vs16, e, h16⟩ := f16.out (hd 16 (by simp))
  cases e
  have ls := h16.lt
  have qs0 := h16.at_ 0 (by simp)
  simp only [List.getElem?_cons_zero, List.getElem?_cons_succ] at qs0
  have qs1 := h16.at_ 1 (by simp)
  simp only [List.getElem?_cons_zero, List.getElem?_cons_succ] at qs1
  have usr : w.heap.size + 1 + 1 < blk 15 := Nat.lt_of_lt_of_le lr (hX.at_ (15, 2) (by simp) (hd 15 (by simp))).1
  generalize blk 15 = Bs at *
  subst ea
  simp only [puts, Act.put, List.setIfInBounds_toArray, List.set_cons_zero, List.set_cons_succ]
  have hM := hM.mono szW
  have hN := hN.mono szW
  have hS := hS.mono szW
  have g1 := g1.past hb
  have g2 := g2.past hb
  have g3 := g3.past hb
  have g4 := g4.past hb
  have qx0 := bq hb lx qx0; have qx1 := bq hb lx qx1; have qx2 := bq hb lx qx2
  have lx := bl hb lx
  have qy0 := bq hb ly qy0; have qy1 := bq hb ly qy1; have qy2 := bq hb ly qy2
  have ly := bl hb ly
  have qr0 := bq hb lr qr0; have qr1 := bq hb lr qr1; have qr2 := bq hb lr qr2
  have xr := xr.past hb lr
  have lr := bl hb lr
  have hB := below_later hB hb
  clear hX
  clear hb hd
  go_wp2_with fail
  have szW := hB.size
  refine wp_region_inv (by kernel_rfl) rfl (by kernel_rfl) (fun A0 V0 dd aa ww => ∃ (y22 y23 y24 y25 y26 y27 y28 : Value), aa = puts A0 [(22, y22), (23, y23), (24, y24), (25, y25), (26, y26), (27, y27), (28, y28)] ∧ Below (w).heap.size (w) ww ∧ V0.heap.size ≤ ww.heap.size ∧ NatAt ww a n c l ∧ NatAt ww a2 n2 c2 l2 ∧ NatAt ww a3 n3 c3 l3 ∧ NatAt ww a4 n4 c4 l4 ∧ OwnAt ww w.heap.size ahS nhS chS (digs (X + Y).natAbs) ∧ Cells ww (w.heap.size) [.bool b, .slice a n c, .slice a2 n2 c2] ∧ Cells ww (w.heap.size + 1) [.bool b3, .slice a3 n3 c3, .slice a4 n4 c4] ∧ Cells ww (Bs) [.bool (neg (X + Y)), .slice ahS nhS chS] ∧ BoxAt ww (w.heap.size + 1 + 1) 3 ∧ Shut (dd 7 = false → Cells ww (w.heap.size + 1 + 1) [.bool false, .slice none 0 0, .slice none 0 0]) ∧ Shut (dd 0 = true → y22 = .agg #[.bool (neg (X + Y)), .slice ahS nhS chS]) ∧ Shut (dd 1 = true → y23 = .pointer (some ⟨w.heap.size, 2, none⟩)) ∧ Shut (dd 2 = true → y24 = .slice a2 n2 c2) ∧ Shut (dd 3 = true → y25 = .pointer (some ⟨w.heap.size + 1, 2, none⟩)) ∧ Shut (dd 4 = true → y26 = .slice a4 n4 c4) ∧ Shut (dd 5 = true → NatV V0.heap.size (digs (val l2 * val l4)) y27 ww) ∧ Shut (dd 6 = true → RatV V0.heap.size (mkRat (X + Y) (val l2 * val l4)) y28 ww) ∧ Shut (dd 7 = true → CellsV (w.heap.size + 1 + 1) y28 ww) ∧ True) ?_ ?_ ?_
  · exact ⟨_, _, _, _, _, _, _, puts_self _ [22, 23, 24, 25, 26, 27, 28], hB.drew, Nat.le_refl _, g1.drew, g2.drew, g3.drew, g4.drew, hS.drew, (by intro k hk; simp at hk; rcases (by omega : k = 0 ∨ k = 1 ∨ k = 2) with rfl | rfl | rfl <;> assumption), (by intro k hk; simp at hk; rcases (by omega : k = 0 ∨ k = 1 ∨ k = 2) with rfl | rfl | rfl <;> assumption), (by intro k hk; simp at hk; rcases (by omega : k = 0 ∨ k = 1) with rfl | rfl <;> assumption), xr.drew, (fun _ => by intro k hk; simp at hk; rcases (by omega : k = 0 ∨ k = 1 ∨ k = 2) with rfl | rfl | rfl <;> assumption), fun h => (by cases h), fun h => (by cases h), fun h => (by cases h), fun h => (by cases h), fun h => (by cases h), fun h => (by cases h), fun h => (by cases h), fun h => (by cases h), trivial⟩
  · refine Steps.cons ?_ (Steps.cons ?_ (Steps.cons ?_ (Steps.cons ?_ (Steps.cons ?_ (Steps.cons ?_ (Steps.cons ?_ (Steps.cons ?_ (Steps.nil))))))))
    · intro dd aa ww K hc hun hn hI hK
      obtain ⟨y22, y23, y24, y25, y26, y27, y28, ea, hb, hsz, vg1, vg2, vg3, vg4, vhS, cx, cy, cs, xr, pr, f0, f1, f2, f3, f4, f5, f6, f7, _⟩ := hI
      try simp [Region.binds] at hn
      have e0 := cs 0 (by simp)
      simp only [List.getElem?_cons_zero, List.getElem?_cons_succ] at e0
      have e1 := cs 1 (by simp)
      simp only [List.getElem?_cons_zero, List.getElem?_cons_succ] at e1
      subst ea
      simp only [puts, Act.put, List.setIfInBounds_toArray, List.set_cons_zero, List.set_cons_succ]
      go_simp
      refine hK.out _ _ ?_
      exact ⟨.agg #[.bool (neg (X + Y)), .slice ahS nhS chS], y23, y24, y25, y26, y27, y28, by simp only [puts, Act.put, List.setIfInBounds_toArray, List.set_cons_zero, List.set_cons_succ], hb, hsz, vg1, vg2, vg3, vg4, vhS, cx, cy, cs, xr, fun h => (pr.out (upd_off h)), fun _ => rfl, fun h => (f1.out (upd_of rfl h)), fun h => (f2.out (upd_of rfl h)), fun h => (f3.out (upd_of rfl h)), fun h => (f4.out (upd_of rfl h)), fun h => (f5.out (upd_of rfl h)), fun h => (f6.out (upd_of rfl h)), fun h => (f7.out (upd_of rfl h)), trivial⟩
    · intro dd aa ww K hc hun hn hI hK
      obtain ⟨y22, y23, y24, y25, y26, y27, y28, ea, hb, hsz, vg1, vg2, vg3, vg4, vhS, cx, cy, cs, xr, pr, f0, f1, f2, f3, f4, f5, f6, f7, _⟩ := hI
      try simp [Region.binds] at hn
      subst ea
      simp only [puts, Act.put, List.setIfInBounds_toArray, List.set_cons_zero, List.set_cons_succ]
      go_simp
      refine hK.out _ _ ?_
      exact ⟨y22, .pointer (some ⟨w.heap.size, 2, none⟩), y24, y25, y26, y27, y28, by simp only [puts, Act.put, List.setIfInBounds_toArray, List.set_cons_zero, List.set_cons_succ], hb, hsz, vg1, vg2, vg3, vg4, vhS, cx, cy, cs, xr, fun h => (pr.out (upd_off h)), fun h => (f0.out (upd_of rfl h)), fun _ => rfl, fun h => (f2.out (upd_of rfl h)), fun h => (f3.out (upd_of rfl h)), fun h => (f4.out (upd_of rfl h)), fun h => (f5.out (upd_of rfl h)), fun h => (f6.out (upd_of rfl h)), fun h => (f7.out (upd_of rfl h)), trivial⟩
    · intro dd aa ww K hc hun hn hI hK
      obtain ⟨y22, y23, y24, y25, y26, y27, y28, ea, hb, hsz, vg1, vg2, vg3, vg4, vhS, cx, cy, cs, xr, pr, f0, f1, f2, f3, f4, f5, f6, f7, _⟩ := hI
      try simp [Region.binds] at hn
      have ex := f1.out (by first | (simp [hn]; done) | exact hc.reach (f := 8) (by decide +kernel) hn | exact hc.reach (f := 8) (by decide +kernel) hn.1 | exact hc.reach (f := 8) (by decide +kernel) hn.2 | exact hc.reach (f := 8) (by decide +kernel) hn.2.1 | exact hc.reach (f := 8) (by decide +kernel) hn.2.2)
      subst ex
      have e2 := cx 2 (by simp)
      simp only [List.getElem?_cons_zero, List.getElem?_cons_succ] at e2
      subst ea
      simp only [puts, Act.put, List.setIfInBounds_toArray, List.set_cons_zero, List.set_cons_succ]
      go_simp
      refine hK.out _ _ ?_
      exact ⟨y22, .pointer (some ⟨w.heap.size, 2, none⟩), .slice a2 n2 c2, y25, y26, y27, y28, by simp only [puts, Act.put, List.setIfInBounds_toArray, List.set_cons_zero, List.set_cons_succ], hb, hsz, vg1, vg2, vg3, vg4, vhS, cx, cy, cs, xr, fun h => (pr.out (upd_off h)), fun h => (f0.out (upd_of rfl h)), fun h => rfl, fun _ => rfl, fun h => (f3.out (upd_of rfl h)), fun h => (f4.out (upd_of rfl h)), fun h => (f5.out (upd_of rfl h)), fun h => (f6.out (upd_of rfl h)), fun h => (f7.out (upd_of rfl h)), trivial⟩
    · intro dd aa ww K hc hun hn hI hK
      obtain ⟨y22, y23, y24, y25, y26, y27, y28, ea, hb, hsz, vg1, vg2, vg3, vg4, vhS, cx, cy, cs, xr, pr, f0, f1, f2, f3, f4, f5, f6, f7, _⟩ := hI
      try simp [Region.binds] at hn
      subst ea
      simp only [puts, Act.put, List.setIfInBounds_toArray, List.set_cons_zero, List.set_cons_succ]
      go_simp
      refine hK.out _ _ ?_
      exact ⟨y22, y23, y24, .pointer (some ⟨w.heap.size + 1, 2, none⟩), y26, y27, y28, by simp only [puts, Act.put, List.setIfInBounds_toArray, List.set_cons_zero, List.set_cons_succ], hb, hsz, vg1, vg2, vg3, vg4, vhS, cx, cy, cs, xr, fun h => (pr.out (upd_off h)), fun h => (f0.out (upd_of rfl h)), fun h => (f1.out (upd_of rfl h)), fun h => (f2.out (upd_of rfl h)), fun _ => rfl, fun h => (f4.out (upd_of rfl h)), fun h => (f5.out (upd_of rfl h)), fun h => (f6.out (upd_of rfl h)), fun h => (f7.out (upd_of rfl h)), trivial⟩
    · intro dd aa ww K hc hun hn hI hK
      obtain ⟨y22, y23, y24, y25, y26, y27, y28, ea, hb, hsz, vg1, vg2, vg3, vg4, vhS, cx, cy, cs, xr, pr, f0, f1, f2, f3, f4, f5, f6, f7, _⟩ := hI
      try simp [Region.binds] at hn
      have ex := f3.out (by first | (simp [hn]; done) | exact hc.reach (f := 8) (by decide +kernel) hn | exact hc.reach (f := 8) (by decide +kernel) hn.1 | exact hc.reach (f := 8) (by decide +kernel) hn.2 | exact hc.reach (f := 8) (by decide +kernel) hn.2.1 | exact hc.reach (f := 8) (by decide +kernel) hn.2.2)
      subst ex
      have e2 := cy 2 (by simp)
      simp only [List.getElem?_cons_zero, List.getElem?_cons_succ] at e2
      subst ea
      simp only [puts, Act.put, List.setIfInBounds_toArray, List.set_cons_zero, List.set_cons_succ]
      go_simp
      refine hK.out _ _ ?_
      exact ⟨y22, y23, y24, .pointer (some ⟨w.heap.size + 1, 2, none⟩), .slice a4 n4 c4, y27, y28, by simp only [puts, Act.put, List.setIfInBounds_toArray, List.set_cons_zero, List.set_cons_succ], hb, hsz, vg1, vg2, vg3, vg4, vhS, cx, cy, cs, xr, fun h => (pr.out (upd_off h)), fun h => (f0.out (upd_of rfl h)), fun h => (f1.out (upd_of rfl h)), fun h => (f2.out (upd_of rfl h)), fun h => rfl, fun _ => rfl, fun h => (f5.out (upd_of rfl h)), fun h => (f6.out (upd_of rfl h)), fun h => (f7.out (upd_of rfl h)), trivial⟩
    · intro dd aa ww K hc hun hn hI hK
      obtain ⟨y22, y23, y24, y25, y26, y27, y28, ea, hb, hsz, vg1, vg2, vg3, vg4, vhS, cx, cy, cs, xr, pr, f0, f1, f2, f3, f4, f5, f6, f7, _⟩ := hI
      try simp [Region.binds] at hn
      have ex := f2.out (by first | (simp [hn]; done) | exact hc.reach (f := 8) (by decide +kernel) hn | exact hc.reach (f := 8) (by decide +kernel) hn.1 | exact hc.reach (f := 8) (by decide +kernel) hn.2 | exact hc.reach (f := 8) (by decide +kernel) hn.2.1 | exact hc.reach (f := 8) (by decide +kernel) hn.2.2)
      subst ex
      have ex := f4.out (by first | (simp [hn]; done) | exact hc.reach (f := 8) (by decide +kernel) hn | exact hc.reach (f := 8) (by decide +kernel) hn.1 | exact hc.reach (f := 8) (by decide +kernel) hn.2 | exact hc.reach (f := 8) (by decide +kernel) hn.2.1 | exact hc.reach (f := 8) (by decide +kernel) hn.2.2)
      subst ex
      subst ea
      simp only [puts, Act.put, List.setIfInBounds_toArray, List.set_cons_zero, List.set_cons_succ]
      go_simp
      with_reducible refine (tmul_any _ _ _ l2 _ _ _ l4 _ vg2 vg4 (by omega) (by omega)).mono ?_
      rintro e w1 ⟨ahD, nhD, chD, rfl, hD, h1⟩
      refine hK.out _ _ ?_
      exact ⟨y22, y23, .slice a2 n2 c2, y25, .slice a4 n4 c4, .slice ahD nhD chD, y28, by simp only [puts, Act.put, List.setIfInBounds_toArray, List.set_cons_zero, List.set_cons_succ], below_later hb h1, Nat.le_trans hsz h1.size, vg1.past h1, vg2.past h1, vg3.past h1, vg4.past h1, vhS.past h1, cx.past h1 (Nat.lt_of_lt_of_le lx hsz), cy.past h1 (Nat.lt_of_lt_of_le ly hsz), cs.past h1 (Nat.lt_of_lt_of_le ls hsz), xr.past h1 (Nat.lt_of_lt_of_le lr hsz), fun h => (pr.out (upd_off h)).past h1 (Nat.lt_of_lt_of_le lr hsz), fun h => (f0.out (upd_of rfl h)), fun h => (f1.out (upd_of rfl h)), fun h => rfl, fun h => (f3.out (upd_of rfl h)), fun h => rfl, fun _ => ⟨_, _, _, rfl, hD.mono hsz⟩, fun h => (f6.out (upd_of rfl h)).past h1, fun h => (f7.out (upd_of rfl h)).past h1 (Nat.lt_of_lt_of_le lr hsz), trivial⟩
    · intro dd aa ww K hc hun hn hI hK
      obtain ⟨y22, y23, y24, y25, y26, y27, y28, ea, hb, hsz, vg1, vg2, vg3, vg4, vhS, cx, cy, cs, xr, pr, f0, f1, f2, f3, f4, f5, f6, f7, _⟩ := hI
      try simp [Region.binds] at hn
      have ex := f0.out (by first | (simp [hn]; done) | exact hc.reach (f := 8) (by decide +kernel) hn | exact hc.reach (f := 8) (by decide +kernel) hn.1 | exact hc.reach (f := 8) (by decide +kernel) hn.2 | exact hc.reach (f := 8) (by decide +kernel) hn.2.1 | exact hc.reach (f := 8) (by decide +kernel) hn.2.2)
      subst ex
      obtain ⟨ahD, nhD, chD, ex, hD⟩ := f5.out (by first | (simp [hn]; done) | exact hc.reach (f := 8) (by decide +kernel) hn | exact hc.reach (f := 8) (by decide +kernel) hn.1 | exact hc.reach (f := 8) (by decide +kernel) hn.2 | exact hc.reach (f := 8) (by decide +kernel) hn.2.1 | exact hc.reach (f := 8) (by decide +kernel) hn.2.2)
      subst ex
      subst ea
      simp only [puts, Act.put, List.setIfInBounds_toArray, List.set_cons_zero, List.set_cons_succ]
      go_simp
      with_reducible refine (lowest_any (neg (X + Y)) _ _ _ (digs (X + Y).natAbs) _ _ _ (digs (val l2 * val l4)) _ vhS.toNatAt hD.toNatAt (by have := hS.len; have := LZ.out; omega) (by have := hD.len; have := L5.out; omega) Z5.out).mono ?_
      rintro e w1 ⟨ahRU, nhRU, chRU, ahRD, nhRD, chRD, rfl, hRU, hRD, h1⟩
      rw [E4.out, E5.out] at hRU hRD ⊢
      refine hK.out _ _ ?_
      exact ⟨.agg #[.bool (neg (X + Y)), .slice ahS nhS chS], y23, y24, y25, y26, .slice ahD nhD chD, .agg #[.bool (neg (mkRat (X + Y) (val l2 * val l4)).num), .slice ahRU nhRU chRU, .slice ahRD nhRD chRD], by simp only [puts, Act.put, List.setIfInBounds_toArray, List.set_cons_zero, List.set_cons_succ], below_later hb h1, Nat.le_trans hsz h1.size, vg1.past h1, vg2.past h1, vg3.past h1, vg4.past h1, vhS.past h1, cx.past h1 (Nat.lt_of_lt_of_le lx hsz), cy.past h1 (Nat.lt_of_lt_of_le ly hsz), cs.past h1 (Nat.lt_of_lt_of_le ls hsz), xr.past h1 (Nat.lt_of_lt_of_le lr hsz), fun h => (pr.out (upd_off h)).past h1 (Nat.lt_of_lt_of_le lr hsz), fun h => rfl, fun h => (f1.out (upd_of rfl h)), fun h => (f2.out (upd_of rfl h)), fun h => (f3.out (upd_of rfl h)), fun h => (f4.out (upd_of rfl h)), fun h => (f5.out (upd_of rfl h)).past h1, fun _ => ⟨_, _, _, _, _, _, rfl, hRU.mono hsz, hRD.mono hsz⟩, fun h => absurd (hc.reach (f := 8) (s := 7) (l := 6) (by kernel_rfl) (upd_of rfl h)) (by rw [hun]; decide), trivial⟩
    · intro dd aa ww K hc hun hn hI hK
      obtain ⟨y22, y23, y24, y25, y26, y27, y28, ea, hb, hsz, vg1, vg2, vg3, vg4, vhS, cx, cy, cs, xr, pr, f0, f1, f2, f3, f4, f5, f6, f7, _⟩ := hI
      try simp [Region.binds] at hn
      obtain ⟨ahRU, nhRU, chRU, ahRD, nhRD, chRD, ex, hRU, hRD⟩ := f6.out (by first | (simp [hn]; done) | exact hc.reach (f := 8) (by decide +kernel) hn | exact hc.reach (f := 8) (by decide +kernel) hn.1 | exact hc.reach (f := 8) (by decide +kernel) hn.2 | exact hc.reach (f := 8) (by decide +kernel) hn.2.1 | exact hc.reach (f := 8) (by decide +kernel) hn.2.2)
      subst ex
      have x3 := xr
      obtain ⟨v0, v1, v2, z0, z1, z2, z3, z4, z5, _, _, _⟩ := x3.three
      have hv : ∀ v ∈ ([.bool (neg (mkRat (X + Y) (val l2 * val l4)).num), .slice ahRU nhRU chRU, .slice ahRD nhRD chRD] : List Value), notU v := by simp [notU_bool, notU_slice, notU_i64]
      subst ea
      simp only [puts, Act.put, List.setIfInBounds_toArray, List.set_cons_zero, List.set_cons_succ]
      go_simp
      refine hK.out _ _ ?_
      exact ⟨y22, y23, y24, y25, y26, y27, .agg #[.bool (neg (mkRat (X + Y) (val l2 * val l4)).num), .slice ahRU nhRU chRU, .slice ahRD nhRD chRD], by simp only [puts, Act.put, List.setIfInBounds_toArray, List.set_cons_zero, List.set_cons_succ], hb.trans (below_setCells _ _ (by omega) [.bool (neg (mkRat (X + Y) (val l2 * val l4)).num), .slice ahRU nhRU chRU, .slice ahRD nhRD chRD] 0 _), (by simpa using hsz), NatAt.sets [.bool (neg (mkRat (X + Y) (val l2 * val l4)).num), .slice ahRU nhRU chRU, .slice ahRD nhRD chRD] 0 _ vg1 x3 (by simp) hv, NatAt.sets [.bool (neg (mkRat (X + Y) (val l2 * val l4)).num), .slice ahRU nhRU chRU, .slice ahRD nhRD chRD] 0 _ vg2 x3 (by simp) hv, NatAt.sets [.bool (neg (mkRat (X + Y) (val l2 * val l4)).num), .slice ahRU nhRU chRU, .slice ahRD nhRD chRD] 0 _ vg3 x3 (by simp) hv, NatAt.sets [.bool (neg (mkRat (X + Y) (val l2 * val l4)).num), .slice ahRU nhRU chRU, .slice ahRD nhRD chRD] 0 _ vg4 x3 (by simp) hv, OwnAt.sets [.bool (neg (mkRat (X + Y) (val l2 * val l4)).num), .slice ahRU nhRU chRU, .slice ahRD nhRD chRD] 0 _ vhS x3 (by simp) hv, Cells.sets (by omega) [.bool (neg (mkRat (X + Y) (val l2 * val l4)).num), .slice ahRU nhRU chRU, .slice ahRD nhRD chRD] 0 _ cx, Cells.sets (by omega) [.bool (neg (mkRat (X + Y) (val l2 * val l4)).num), .slice ahRU nhRU chRU, .slice ahRD nhRD chRD] 0 _ cy, Cells.sets (by omega) [.bool (neg (mkRat (X + Y) (val l2 * val l4)).num), .slice ahRU nhRU chRU, .slice ahRD nhRD chRD] 0 _ cs, BoxAt.sets [.bool (neg (mkRat (X + Y) (val l2 * val l4)).num), .slice ahRU nhRU chRU, .slice ahRD nhRD chRD] _ 0 _ xr hv, fun h => absurd h (by simp [upd]), fun h => (f0.out (upd_of rfl h)), fun h => (f1.out (upd_of rfl h)), fun h => (f2.out (upd_of rfl h)), fun h => (f3.out (upd_of rfl h)), fun h => (f4.out (upd_of rfl h)), fun h => ((f5.out (upd_of rfl h)).setsOff lr [.bool (neg (mkRat (X + Y) (val l2 * val l4)).num), .slice ahRU nhRU chRU, .slice ahRD nhRD chRD]), fun h => ((f6.out (upd_of rfl h)).setsOff lr [.bool (neg (mkRat (X + Y) (val l2 * val l4)).num), .slice ahRU nhRU chRU, .slice ahRD nhRD chRD]), fun _ => ⟨[.bool (neg (mkRat (X + Y) (val l2 * val l4)).num), .slice ahRU nhRU chRU, .slice ahRD nhRD chRD], rfl, Cells.new x3 [.bool (neg (mkRat (X + Y) (val l2 * val l4)).num), .slice ahRU nhRU chRU, .slice ahRD nhRD chRD] (by simp)⟩, trivial⟩
  intro dd aa w5 hd hI
  obtain ⟨y22, y23, y24, y25, y26, y27, y28, ea, hb, hsz, vg1, vg2, vg3, vg4, vhS, cx, cy, cs, xr, pr, f0, f1, f2, f3, f4, f5, f6, f7, _⟩ := hI
  have ex := f0.out (hd 0 (by simp))
  subst ex
  have ex := f1.out (hd 1 (by simp))
  subst ex
  have ex := f2.out (hd 2 (by simp))
  subst ex
  have ex := f3.out (hd 3 (by simp))
  subst ex
  have ex := f4.out (hd 4 (by simp))
  subst ex
  obtain ⟨ahD, nhD, chD, ex, hD⟩ := f5.out (hd 5 (by simp))
  subst ex
  obtain ⟨ahRU, nhRU, chRU, ahRD, nhRD, chRD, ex, hRU, hRD⟩ := f6.out (hd 6 (by simp))
  subst ex
  obtain ⟨vs7, e, h7⟩ := f7.out (hd 7 (by simp))
  cases e
  have lr := Nat.lt_of_lt_of_le lr hsz
  have qr0 := h7 0 (by simp)
  simp only [List.getElem?_cons_zero, List.getElem?_cons_succ] at qr0
  have qr1 := h7 1 (by simp)
  simp only [List.getElem?_cons_zero, List.getElem?_cons_succ] at qr1
  have qr2 := h7 2 (by simp)
  simp only [List.getElem?_cons_zero, List.getElem?_cons_succ] at qr2
  subst ea
  simp only [puts, Act.put, List.setIfInBounds_toArray, List.set_cons_zero, List.set_cons_succ]
  have hD := hD.mono szW
  have hRU := hRU.mono szW
  have hRD := hRD.mono szW
  have g1 := vg1
  have g2 := vg2
  have g3 := vg3
  have g4 := vg4
  have hS := vhS
  have lx := Nat.lt_of_lt_of_le lx hsz
  have qx0 := cx 0 (by simp)
  simp only [List.getElem?_cons_zero, List.getElem?_cons_succ] at qx0
  have qx1 := cx 1 (by simp)
  simp only [List.getElem?_cons_zero, List.getElem?_cons_succ] at qx1
  have qx2 := cx 2 (by simp)
  simp only [List.getElem?_cons_zero, List.getElem?_cons_succ] at qx2
  clear cx
  have ly := Nat.lt_of_lt_of_le ly hsz
  have qy0 := cy 0 (by simp)
  simp only [List.getElem?_cons_zero, List.getElem?_cons_succ] at qy0
  have qy1 := cy 1 (by simp)
  simp only [List.getElem?_cons_zero, List.getElem?_cons_succ] at qy1
  have qy2 := cy 2 (by simp)
  simp only [List.getElem?_cons_zero, List.getElem?_cons_succ] at qy2
  clear cy
  have ls := Nat.lt_of_lt_of_le ls hsz
  have qs0 := cs 0 (by simp)
  simp only [List.getElem?_cons_zero, List.getElem?_cons_succ] at qs0
  have qs1 := cs 1 (by simp)
  simp only [List.getElem?_cons_zero, List.getElem?_cons_succ] at qs1
  clear cs
  have hB := hb
  clear pr
  clear hb hd
  go_wp2
  refine bodyPost_ret (v := .agg #[.bool (neg (mkRat (X + Y) (val l2 * val l4)).num), .slice ahRU nhRU chRU, .slice ahRD nhRD chRD]) ?_ rfl ⟨_, _, _, _, _, _, rfl, hRU, hRD, hB⟩
  simp [results, Try.f54, go_sem, qr0, qr1, qr2]

end Go.Proofs.Ytlkoenpdmlbhlaa

/- ratio, fifth part: product, and both as operations on fractions. -/
set_option linter.unusedVariables false
set_option linter.unusedSimpArgs false
namespace Go.Proofs.Ytlkoenpdmlbhlaa
open Go.RowKit

/-- what a fraction's parts are in memory -/
structure RatAt (w : World) (q : Rat) (a : Option Addr) (n c : Nat) (a2 : Option Addr) (n2 c2 : Nat) : Prop where
  up : NatAt w a n c (digs q.num.natAbs)
  down : NatAt w a2 n2 c2 (digs q.den)
theorem RatAt.past {w w' : World} {q : Rat} {a : Option Addr} {n c : Nat} {a2 : Option Addr} {n2 c2 : Nat} (h : RatAt w q a n c a2 n2 c2) (hb : Below w.heap.size w w') : RatAt w' q a n c a2 n2 c2 := ⟨h.up.past hb, h.down.past hb⟩
/-- the lengths of a fraction's parts -/
def rlen (q : Rat) : Nat := max (digs q.num.natAbs).length (digs q.den).length
/-- a function that does an operation with two fractions -/
def Does (f : Nat) (F : Rat → Rat → Rat) : Prop := ∀ (p q : Rat) (a : Option Addr) (n c : Nat) (a2 : Option Addr) (n2 c2 : Nat) (a3 : Option Addr) (n3 c3 : Nat) (a4 : Option Addr) (n4 c4 : Nat) (w : World), RatAt w p a n c a2 n2 c2 → RatAt w q a3 n3 c3 a4 n4 c4 → rlen p ≤ 17179869184 → rlen q ≤ 17179869184 →
  Calls Try.prog f #[.agg #[.bool (neg p.num), .slice a n c, .slice a2 n2 c2], .agg #[.bool (neg q.num), .slice a3 n3 c3, .slice a4 n4 c4]] w (RetRat w (F p q))
theorem sum05_does : Does 54 (· + ·) := by
  intro p q a n c a2 n2 c2 a3 n3 c3 a4 n4 c4 w h h2 hp hq
  have e1 := h.up.len; have e2 := h.down.len; have e3 := h2.up.len; have e4 := h2.down.len
  unfold rlen at hp hq
  have hz : val (digs p.den) ≠ 0 := by rw [val_digs]; exact p.den_nz
  have hz4 : val (digs q.den) ≠ 0 := by rw [val_digs]; exact q.den_nz
  have := sum05_any (neg p.num) a n c _ a2 n2 c2 _ (neg q.num) a3 n3 c3 _ a4 n4 c4 _ w h.up h.down h2.up h2.down (by omega) (by omega) (by omega) (by omega) hz hz4
  rw [sg_canon, sg_canon, val_digs, val_digs, rat_sum] at this
  exact this

set_option maxRecDepth 100000 in
set_option maxHeartbeats 8000000 in
theorem product05_does : Does 65 (· * ·) := by
  intro p q a n c a2 n2 c2 a3 n3 c3 a4 n4 c4 w h h2 hp hq
  obtain ⟨g1, g2⟩ := h
  obtain ⟨g3, g4⟩ := h2
  unfold rlen at hp hq
  have hs : n ≤ 17179869184 := by have := g1.len; omega
  have hs2 : n2 ≤ 17179869184 := by have := g2.len; omega
  have hs3 : n3 ≤ 17179869184 := by have := g3.len; omega
  have hs4 : n4 ≤ 17179869184 := by have := g4.len; omega
  obtain ⟨p1, p2⟩ := prod_parts p q
  obtain ⟨G, hG⟩ : ∃ G, Nat.gcd p.num.natAbs q.den = G := ⟨_, rfl⟩
  obtain ⟨H, hH⟩ : ∃ H, Nat.gcd q.num.natAbs p.den = H := ⟨_, rfl⟩
  have e1 : Nat.gcd (val (digs p.num.natAbs)) (val (digs q.den)) = G := by rw [val_digs, val_digs]; exact hG
  have e2 : Nat.gcd (val (digs q.num.natAbs)) (val (digs p.den)) = H := by rw [val_digs, val_digs]; exact hH
  have zG : val (digs G) ≠ 0 := by rw [val_digs, ← hG]; exact gcd_ne q.den_nz
  have zH : val (digs H) ≠ 0 := by rw [val_digs, ← hH]; exact gcd_ne p.den_nz
  have lG : (digs G).length ≤ 17179869184 := by
    have := digs_len_mono (hG ▸ Nat.gcd_le_right p.num.natAbs (Nat.pos_of_ne_zero q.den_nz)); have := g4.len; omega
  have lH : (digs H).length ≤ 17179869184 := by
    have := digs_len_mono (hH ▸ Nat.gcd_le_right q.num.natAbs (Nat.pos_of_ne_zero p.den_nz)); have := g2.len; omega
  rw [hG, hH] at p1 p2
  obtain ⟨A, hA⟩ : ∃ A, p.num.natAbs / G = A := ⟨_, rfl⟩
  obtain ⟨B, hB⟩ : ∃ B, q.num.natAbs / H = B := ⟨_, rfl⟩
  obtain ⟨C, hC⟩ : ∃ C, p.den / H = C := ⟨_, rfl⟩
  obtain ⟨D, hD⟩ : ∃ D, q.den / G = D := ⟨_, rfl⟩
  have eA : val (digs p.num.natAbs) / val (digs G) = A := by rw [val_digs, val_digs]; exact hA
  have eB : val (digs q.num.natAbs) / val (digs H) = B := by rw [val_digs, val_digs]; exact hB
  have eC : val (digs p.den) / val (digs H) = C := by rw [val_digs, val_digs]; exact hC
  have eD : val (digs q.den) / val (digs G) = D := by rw [val_digs, val_digs]; exact hD
  have lA : (digs A).length ≤ 17179869184 := by have := digs_len_mono (hA ▸ Nat.div_le_self p.num.natAbs G); have := g1.len; omega
  have lB : (digs B).length ≤ 17179869184 := by have := digs_len_mono (hB ▸ Nat.div_le_self q.num.natAbs H); have := g3.len; omega
  have lC : (digs C).length ≤ 17179869184 := by have := digs_len_mono (hC ▸ Nat.div_le_self p.den H); have := g2.len; omega
  have lD : (digs D).length ≤ 17179869184 := by have := digs_len_mono (hD ▸ Nat.div_le_self q.den G); have := g4.len; omega
  have lM : (digs (val (digs A) * val (digs B))).length ≤ 34359738368 := by have := digs_len_prod (val (digs A)) (val (digs B)); rw [val_digs, val_digs] at this; rw [val_digs, val_digs]; omega
  rw [hA, hB] at p1
  rw [hC, hD] at p2
  obtain ⟨R, hR⟩ : ∃ R, p * q = R := ⟨_, rfl⟩
  rw [hR] at p1 p2
  show Calls _ _ _ _ (RetRat w (p * q))
  rw [hR]
  have eN : sg (!(neg p.num == neg q.num)) (val (digs (val (digs A) * val (digs B)))) = R.num := by rw [val_digs, val_digs, val_digs]; exact p1
  have eE : val (digs C) * val (digs D) = R.den := by rw [val_digs, val_digs]; exact p2
  have E1 := Lib.hid e1
  have E2 := Lib.hid e2
  have ZG := Lib.hid zG
  have ZH := Lib.hid zH
  have LG := Lib.hid lG
  have LH := Lib.hid lH
  have EA := Lib.hid eA
  have EB := Lib.hid eB
  have EC := Lib.hid eC
  have ED := Lib.hid eD
  have LA := Lib.hid lA
  have LB := Lib.hid lB
  have LC := Lib.hid lC
  have LD := Lib.hid lD
  have LM := Lib.hid lM
  have EN := Lib.hid eN
  have EE := Lib.hid eE
  clear hp hq p1 p2 hG hH e1 e2 zG zH lG lH hA hB hC hD eA eB eC eD lA lB lC lD lM hR eN eE
  go_enter Try.func65, Try.ntmps65
  have hB := Below.refl w.heap.size w
  go_wp2_with fail
  obtain ⟨w1, hW, hz0, hb, q, f⟩ := box1g w (w.heap.size) (by omega) #[.bool (neg p.num), .slice a n c, .slice a2 n2 c2] 36
  rw [hW]
  clear hW
  have g1 := g1.past hb
  have g2 := g2.past hb
  have g3 := g3.past hb
  have g4 := g4.past hb
  have hB := below_later hB hb
  clear hb
  have lx : w.heap.size < w1.heap.size := by omega
  have qx0 := q 0; have qx1 := q 1; have qx2 := q 2
  simp only [List.getElem?_toArray, List.getElem?_cons_zero, List.getElem?_cons_succ] at qx0 qx1 qx2
  clear q f
  obtain ⟨w2, hW, hz1, hb, q, f⟩ := box1g w1 (w.heap.size + 1) (by omega) #[.bool (neg q.num), .slice a3 n3 c3, .slice a4 n4 c4] 36
  rw [hW]
  clear hW
  have g1 := g1.past hb
  have g2 := g2.past hb
  have g3 := g3.past hb
  have g4 := g4.past hb
  have qx0 := bq hb lx qx0; have qx1 := bq hb lx qx1; have qx2 := bq hb lx qx2
  have lx := bl hb lx
  have hB := below_later hB hb
  clear hb
  have ly : w.heap.size + 1 < w2.heap.size := by omega
  have qy0 := q 0; have qy1 := q 1; have qy2 := q 2
  simp only [List.getElem?_toArray, List.getElem?_cons_zero, List.getElem?_cons_succ] at qy0 qy1 qy2
  clear q f
  obtain ⟨w3, hW, hz2, hb, q, f⟩ := box1g w2 (w.heap.size + 1 + 1) (by omega) #[.bool false, .slice none 0 0, .slice none 0 0] 36
  rw [hW]
  clear hW
  have g1 := g1.past hb
  have g2 := g2.past hb
  have g3 := g3.past hb
  have g4 := g4.past hb
  have qx0 := bq hb lx qx0; have qx1 := bq hb lx qx1; have qx2 := bq hb lx qx2
  have lx := bl hb lx
  have qy0 := bq hb ly qy0; have qy1 := bq hb ly qy1; have qy2 := bq hb ly qy2
  have ly := bl hb ly
  have hB := below_later hB hb
  clear hb
  have lr : w.heap.size + 1 + 1 < w3.heap.size := by omega
  have qr0 := q 0; have qr1 := q 1; have qr2 := q 2
  simp only [List.getElem?_toArray, List.getElem?_cons_zero, List.getElem?_cons_succ] at qr0 qr1 qr2
  have xr : BoxAt w3 (w.heap.size + 1 + 1) 3 := BoxAt.of q f rfl (by simp [notU_bool, notU_slice, notU_i64])
  clear q f
  clear hz0
  clear hz1
  clear hz2
  have szW := hB.size
  refine wp_region_inv (by kernel_rfl) rfl (by kernel_rfl) (fun A0 V0 dd aa ww => ∃ (y8 y9 y10 y11 y12 y13 y14 y15 y16 y17 y18 y19 y5 y6 : Value), aa = puts A0 [(8, y8), (9, y9), (10, y10), (11, y11), (12, y12), (13, y13), (14, y14), (15, y15), (16, y16), (17, y17), (18, y18), (19, y19), (5, y5), (6, y6)] ∧ Below V0.heap.size V0 ww ∧ Shut (dd 0 = true → y8 = .pointer (some ⟨w.heap.size, 0, none⟩)) ∧ Shut (dd 1 = true → y9 = .pointer (some ⟨w.heap.size, 1, none⟩)) ∧ Shut (dd 2 = true → y10 = .slice a n c) ∧ Shut (dd 3 = true → y11 = .pointer (some ⟨w.heap.size + 1, 2, none⟩)) ∧ Shut (dd 4 = true → y12 = .slice a4 n4 c4) ∧ Shut (dd 5 = true → NatV V0.heap.size (digs G) y13 ww) ∧ Shut (dd 6 = true → y14 = .pointer (some ⟨w.heap.size + 1, 0, none⟩)) ∧ Shut (dd 7 = true → y15 = .pointer (some ⟨w.heap.size + 1, 1, none⟩)) ∧ Shut (dd 8 = true → y16 = .slice a3 n3 c3) ∧ Shut (dd 9 = true → y17 = .pointer (some ⟨w.heap.size, 2, none⟩)) ∧ Shut (dd 10 = true → y18 = .slice a2 n2 c2) ∧ Shut (dd 11 = true → NatV V0.heap.size (digs H) y19 ww) ∧ Shut (dd 12 = true → y5 = y13) ∧ Shut (dd 13 = true → y6 = y19) ∧ True) ?_ ?_ ?_
  · exact ⟨_, _, _, _, _, _, _, _, _, _, _, _, _, _, puts_self _ [8, 9, 10, 11, 12, 13, 14, 15, 16, 17, 18, 19, 5, 6], (Below.refl _ _).drew, fun h => (by cases h), fun h => (by cases h), fun h => (by cases h), fun h => (by cases h), fun h => (by cases h), fun h => (by cases h), fun h => (by cases h), fun h => (by cases h), fun h => (by cases h), fun h => (by cases h), fun h => (by cases h), fun h => (by cases h), fun h => (by cases h), fun h => (by cases h), trivial⟩
  · refine Steps.cons ?_ (Steps.cons ?_ (Steps.cons ?_ (Steps.cons ?_ (Steps.cons ?_ (Steps.cons ?_ (Steps.cons ?_ (Steps.cons ?_ (Steps.cons ?_ (Steps.cons ?_ (Steps.cons ?_ (Steps.cons ?_ (Steps.cons ?_ (Steps.cons ?_ (Steps.nil))))))))))))))
    · intro dd aa ww K hc hun hn hI hK
      obtain ⟨y8, y9, y10, y11, y12, y13, y14, y15, y16, y17, y18, y19, y5, y6, ea, hb, f0, f1, f2, f3, f4, f5, f6, f7, f8, f9, f10, f11, f12, f13, _⟩ := hI
      try simp [Region.binds] at hn
      subst ea
      simp only [puts, Act.put, List.setIfInBounds_toArray, List.set_cons_zero, List.set_cons_succ]
      go_simp
      refine hK.out _ _ ?_
      exact ⟨.pointer (some ⟨w.heap.size, 0, none⟩), y9, y10, y11, y12, y13, y14, y15, y16, y17, y18, y19, y5, y6, by simp only [puts, Act.put, List.setIfInBounds_toArray, List.set_cons_zero, List.set_cons_succ], hb, fun _ => rfl, fun h => (f1.out (upd_of rfl h)), fun h => (f2.out (upd_of rfl h)), fun h => (f3.out (upd_of rfl h)), fun h => (f4.out (upd_of rfl h)), fun h => (f5.out (upd_of rfl h)), fun h => (f6.out (upd_of rfl h)), fun h => (f7.out (upd_of rfl h)), fun h => (f8.out (upd_of rfl h)), fun h => (f9.out (upd_of rfl h)), fun h => (f10.out (upd_of rfl h)), fun h => (f11.out (upd_of rfl h)), fun h => (f12.out (upd_of rfl h)), fun h => (f13.out (upd_of rfl h)), trivial⟩
    · intro dd aa ww K hc hun hn hI hK
      obtain ⟨y8, y9, y10, y11, y12, y13, y14, y15, y16, y17, y18, y19, y5, y6, ea, hb, f0, f1, f2, f3, f4, f5, f6, f7, f8, f9, f10, f11, f12, f13, _⟩ := hI
      try simp [Region.binds] at hn
      have ex := f0.out (by first | (simp [hn]; done) | exact hc.reach (f := 8) (by decide +kernel) hn | exact hc.reach (f := 8) (by decide +kernel) hn.1 | exact hc.reach (f := 8) (by decide +kernel) hn.2 | exact hc.reach (f := 8) (by decide +kernel) hn.2.1 | exact hc.reach (f := 8) (by decide +kernel) hn.2.2)
      subst ex
      subst ea
      simp only [puts, Act.put, List.setIfInBounds_toArray, List.set_cons_zero, List.set_cons_succ]
      go_simp
      refine hK.out _ _ ?_
      exact ⟨.pointer (some ⟨w.heap.size, 0, none⟩), .pointer (some ⟨w.heap.size, 1, none⟩), y10, y11, y12, y13, y14, y15, y16, y17, y18, y19, y5, y6, by simp only [puts, Act.put, List.setIfInBounds_toArray, List.set_cons_zero, List.set_cons_succ], hb, fun h => rfl, fun _ => rfl, fun h => (f2.out (upd_of rfl h)), fun h => (f3.out (upd_of rfl h)), fun h => (f4.out (upd_of rfl h)), fun h => (f5.out (upd_of rfl h)), fun h => (f6.out (upd_of rfl h)), fun h => (f7.out (upd_of rfl h)), fun h => (f8.out (upd_of rfl h)), fun h => (f9.out (upd_of rfl h)), fun h => (f10.out (upd_of rfl h)), fun h => (f11.out (upd_of rfl h)), fun h => (f12.out (upd_of rfl h)), fun h => (f13.out (upd_of rfl h)), trivial⟩
    · intro dd aa ww K hc hun hn hI hK
      obtain ⟨y8, y9, y10, y11, y12, y13, y14, y15, y16, y17, y18, y19, y5, y6, ea, hb, f0, f1, f2, f3, f4, f5, f6, f7, f8, f9, f10, f11, f12, f13, _⟩ := hI
      try simp [Region.binds] at hn
      have ex := f1.out (by first | (simp [hn]; done) | exact hc.reach (f := 8) (by decide +kernel) hn | exact hc.reach (f := 8) (by decide +kernel) hn.1 | exact hc.reach (f := 8) (by decide +kernel) hn.2 | exact hc.reach (f := 8) (by decide +kernel) hn.2.1 | exact hc.reach (f := 8) (by decide +kernel) hn.2.2)
      subst ex
      have e1 := (hb.cell (p := ⟨w.heap.size, 1, none⟩) lx).trans qx1
      subst ea
      simp only [puts, Act.put, List.setIfInBounds_toArray, List.set_cons_zero, List.set_cons_succ]
      go_simp
      refine hK.out _ _ ?_
      exact ⟨y8, .pointer (some ⟨w.heap.size, 1, none⟩), .slice a n c, y11, y12, y13, y14, y15, y16, y17, y18, y19, y5, y6, by simp only [puts, Act.put, List.setIfInBounds_toArray, List.set_cons_zero, List.set_cons_succ], hb, fun h => (f0.out (upd_of rfl h)), fun h => rfl, fun _ => rfl, fun h => (f3.out (upd_of rfl h)), fun h => (f4.out (upd_of rfl h)), fun h => (f5.out (upd_of rfl h)), fun h => (f6.out (upd_of rfl h)), fun h => (f7.out (upd_of rfl h)), fun h => (f8.out (upd_of rfl h)), fun h => (f9.out (upd_of rfl h)), fun h => (f10.out (upd_of rfl h)), fun h => (f11.out (upd_of rfl h)), fun h => (f12.out (upd_of rfl h)), fun h => (f13.out (upd_of rfl h)), trivial⟩
    · intro dd aa ww K hc hun hn hI hK
      obtain ⟨y8, y9, y10, y11, y12, y13, y14, y15, y16, y17, y18, y19, y5, y6, ea, hb, f0, f1, f2, f3, f4, f5, f6, f7, f8, f9, f10, f11, f12, f13, _⟩ := hI
      try simp [Region.binds] at hn
      subst ea
      simp only [puts, Act.put, List.setIfInBounds_toArray, List.set_cons_zero, List.set_cons_succ]
      go_simp
      refine hK.out _ _ ?_
      exact ⟨y8, y9, y10, .pointer (some ⟨w.heap.size + 1, 2, none⟩), y12, y13, y14, y15, y16, y17, y18, y19, y5, y6, by simp only [puts, Act.put, List.setIfInBounds_toArray, List.set_cons_zero, List.set_cons_succ], hb, fun h => (f0.out (upd_of rfl h)), fun h => (f1.out (upd_of rfl h)), fun h => (f2.out (upd_of rfl h)), fun _ => rfl, fun h => (f4.out (upd_of rfl h)), fun h => (f5.out (upd_of rfl h)), fun h => (f6.out (upd_of rfl h)), fun h => (f7.out (upd_of rfl h)), fun h => (f8.out (upd_of rfl h)), fun h => (f9.out (upd_of rfl h)), fun h => (f10.out (upd_of rfl h)), fun h => (f11.out (upd_of rfl h)), fun h => (f12.out (upd_of rfl h)), fun h => (f13.out (upd_of rfl h)), trivial⟩
    · intro dd aa ww K hc hun hn hI hK
      obtain ⟨y8, y9, y10, y11, y12, y13, y14, y15, y16, y17, y18, y19, y5, y6, ea, hb, f0, f1, f2, f3, f4, f5, f6, f7, f8, f9, f10, f11, f12, f13, _⟩ := hI
      try simp [Region.binds] at hn
      have ex := f3.out (by first | (simp [hn]; done) | exact hc.reach (f := 8) (by decide +kernel) hn | exact hc.reach (f := 8) (by decide +kernel) hn.1 | exact hc.reach (f := 8) (by decide +kernel) hn.2 | exact hc.reach (f := 8) (by decide +kernel) hn.2.1 | exact hc.reach (f := 8) (by decide +kernel) hn.2.2)
      subst ex
      have e2 := (hb.cell (p := ⟨w.heap.size + 1, 2, none⟩) ly).trans qy2
      subst ea
      simp only [puts, Act.put, List.setIfInBounds_toArray, List.set_cons_zero, List.set_cons_succ]
      go_simp
      refine hK.out _ _ ?_
      exact ⟨y8, y9, y10, .pointer (some ⟨w.heap.size + 1, 2, none⟩), .slice a4 n4 c4, y13, y14, y15, y16, y17, y18, y19, y5, y6, by simp only [puts, Act.put, List.setIfInBounds_toArray, List.set_cons_zero, List.set_cons_succ], hb, fun h => (f0.out (upd_of rfl h)), fun h => (f1.out (upd_of rfl h)), fun h => (f2.out (upd_of rfl h)), fun h => rfl, fun _ => rfl, fun h => (f5.out (upd_of rfl h)), fun h => (f6.out (upd_of rfl h)), fun h => (f7.out (upd_of rfl h)), fun h => (f8.out (upd_of rfl h)), fun h => (f9.out (upd_of rfl h)), fun h => (f10.out (upd_of rfl h)), fun h => (f11.out (upd_of rfl h)), fun h => (f12.out (upd_of rfl h)), fun h => (f13.out (upd_of rfl h)), trivial⟩
    · intro dd aa ww K hc hun hn hI hK
      obtain ⟨y8, y9, y10, y11, y12, y13, y14, y15, y16, y17, y18, y19, y5, y6, ea, hb, f0, f1, f2, f3, f4, f5, f6, f7, f8, f9, f10, f11, f12, f13, _⟩ := hI
      try simp [Region.binds] at hn
      have ex := f2.out (by first | (simp [hn]; done) | exact hc.reach (f := 8) (by decide +kernel) hn | exact hc.reach (f := 8) (by decide +kernel) hn.1 | exact hc.reach (f := 8) (by decide +kernel) hn.2 | exact hc.reach (f := 8) (by decide +kernel) hn.2.1 | exact hc.reach (f := 8) (by decide +kernel) hn.2.2)
      subst ex
      have ex := f4.out (by first | (simp [hn]; done) | exact hc.reach (f := 8) (by decide +kernel) hn | exact hc.reach (f := 8) (by decide +kernel) hn.1 | exact hc.reach (f := 8) (by decide +kernel) hn.2 | exact hc.reach (f := 8) (by decide +kernel) hn.2.1 | exact hc.reach (f := 8) (by decide +kernel) hn.2.2)
      subst ex
      subst ea
      simp only [puts, Act.put, List.setIfInBounds_toArray, List.set_cons_zero, List.set_cons_succ]
      go_simp
      with_reducible refine (gcd_any _ _ _ (digs p.num.natAbs) _ _ _ (digs q.den) _ (g1.past hb) (g4.past hb) (by omega) (by omega)).mono ?_
      rintro e w1 ⟨ahG, nhG, chG, rfl, hG, h1⟩
      rw [E1.out] at hG
      refine hK.out _ _ ?_
      exact ⟨y8, y9, .slice a n c, y11, .slice a4 n4 c4, .slice ahG nhG chG, y14, y15, y16, y17, y18, y19, y5, y6, by simp only [puts, Act.put, List.setIfInBounds_toArray, List.set_cons_zero, List.set_cons_succ], below_later hb h1, fun h => (f0.out (upd_of rfl h)), fun h => (f1.out (upd_of rfl h)), fun h => rfl, fun h => (f3.out (upd_of rfl h)), fun h => rfl, fun _ => ⟨_, _, _, rfl, hG.mono hb.size⟩, fun h => (f6.out (upd_of rfl h)), fun h => (f7.out (upd_of rfl h)), fun h => (f8.out (upd_of rfl h)), fun h => (f9.out (upd_of rfl h)), fun h => (f10.out (upd_of rfl h)), fun h => (f11.out (upd_of rfl h)).past h1, fun h => absurd (hc.reach (f := 8) (s := 12) (l := 5) (by kernel_rfl) (upd_of rfl h)) (by rw [hun]; decide), fun h => (f13.out (upd_of rfl h)), trivial⟩
    · intro dd aa ww K hc hun hn hI hK
      obtain ⟨y8, y9, y10, y11, y12, y13, y14, y15, y16, y17, y18, y19, y5, y6, ea, hb, f0, f1, f2, f3, f4, f5, f6, f7, f8, f9, f10, f11, f12, f13, _⟩ := hI
      try simp [Region.binds] at hn
      subst ea
      simp only [puts, Act.put, List.setIfInBounds_toArray, List.set_cons_zero, List.set_cons_succ]
      go_simp
      refine hK.out _ _ ?_
      exact ⟨y8, y9, y10, y11, y12, y13, .pointer (some ⟨w.heap.size + 1, 0, none⟩), y15, y16, y17, y18, y19, y5, y6, by simp only [puts, Act.put, List.setIfInBounds_toArray, List.set_cons_zero, List.set_cons_succ], hb, fun h => (f0.out (upd_of rfl h)), fun h => (f1.out (upd_of rfl h)), fun h => (f2.out (upd_of rfl h)), fun h => (f3.out (upd_of rfl h)), fun h => (f4.out (upd_of rfl h)), fun h => (f5.out (upd_of rfl h)), fun _ => rfl, fun h => (f7.out (upd_of rfl h)), fun h => (f8.out (upd_of rfl h)), fun h => (f9.out (upd_of rfl h)), fun h => (f10.out (upd_of rfl h)), fun h => (f11.out (upd_of rfl h)), fun h => (f12.out (upd_of rfl h)), fun h => (f13.out (upd_of rfl h)), trivial⟩
    · intro dd aa ww K hc hun hn hI hK
      obtain ⟨y8, y9, y10, y11, y12, y13, y14, y15, y16, y17, y18, y19, y5, y6, ea, hb, f0, f1, f2, f3, f4, f5, f6, f7, f8, f9, f10, f11, f12, f13, _⟩ := hI
      try simp [Region.binds] at hn
      have ex := f6.out (by first | (simp [hn]; done) | exact hc.reach (f := 8) (by decide +kernel) hn | exact hc.reach (f := 8) (by decide +kernel) hn.1 | exact hc.reach (f := 8) (by decide +kernel) hn.2 | exact hc.reach (f := 8) (by decide +kernel) hn.2.1 | exact hc.reach (f := 8) (by decide +kernel) hn.2.2)
      subst ex
      subst ea
      simp only [puts, Act.put, List.setIfInBounds_toArray, List.set_cons_zero, List.set_cons_succ]
      go_simp
      refine hK.out _ _ ?_
      exact ⟨y8, y9, y10, y11, y12, y13, .pointer (some ⟨w.heap.size + 1, 0, none⟩), .pointer (some ⟨w.heap.size + 1, 1, none⟩), y16, y17, y18, y19, y5, y6, by simp only [puts, Act.put, List.setIfInBounds_toArray, List.set_cons_zero, List.set_cons_succ], hb, fun h => (f0.out (upd_of rfl h)), fun h => (f1.out (upd_of rfl h)), fun h => (f2.out (upd_of rfl h)), fun h => (f3.out (upd_of rfl h)), fun h => (f4.out (upd_of rfl h)), fun h => (f5.out (upd_of rfl h)), fun h => rfl, fun _ => rfl, fun h => (f8.out (upd_of rfl h)), fun h => (f9.out (upd_of rfl h)), fun h => (f10.out (upd_of rfl h)), fun h => (f11.out (upd_of rfl h)), fun h => (f12.out (upd_of rfl h)), fun h => (f13.out (upd_of rfl h)), trivial⟩
    · intro dd aa ww K hc hun hn hI hK
      obtain ⟨y8, y9, y10, y11, y12, y13, y14, y15, y16, y17, y18, y19, y5, y6, ea, hb, f0, f1, f2, f3, f4, f5, f6, f7, f8, f9, f10, f11, f12, f13, _⟩ := hI
      try simp [Region.binds] at hn
      have ex := f7.out (by first | (simp [hn]; done) | exact hc.reach (f := 8) (by decide +kernel) hn | exact hc.reach (f := 8) (by decide +kernel) hn.1 | exact hc.reach (f := 8) (by decide +kernel) hn.2 | exact hc.reach (f := 8) (by decide +kernel) hn.2.1 | exact hc.reach (f := 8) (by decide +kernel) hn.2.2)
      subst ex
      have e1 := (hb.cell (p := ⟨w.heap.size + 1, 1, none⟩) ly).trans qy1
      subst ea
      simp only [puts, Act.put, List.setIfInBounds_toArray, List.set_cons_zero, List.set_cons_succ]
      go_simp
      refine hK.out _ _ ?_
      exact ⟨y8, y9, y10, y11, y12, y13, y14, .pointer (some ⟨w.heap.size + 1, 1, none⟩), .slice a3 n3 c3, y17, y18, y19, y5, y6, by simp only [puts, Act.put, List.setIfInBounds_toArray, List.set_cons_zero, List.set_cons_succ], hb, fun h => (f0.out (upd_of rfl h)), fun h => (f1.out (upd_of rfl h)), fun h => (f2.out (upd_of rfl h)), fun h => (f3.out (upd_of rfl h)), fun h => (f4.out (upd_of rfl h)), fun h => (f5.out (upd_of rfl h)), fun h => (f6.out (upd_of rfl h)), fun h => rfl, fun _ => rfl, fun h => (f9.out (upd_of rfl h)), fun h => (f10.out (upd_of rfl h)), fun h => (f11.out (upd_of rfl h)), fun h => (f12.out (upd_of rfl h)), fun h => (f13.out (upd_of rfl h)), trivial⟩
    · intro dd aa ww K hc hun hn hI hK
      obtain ⟨y8, y9, y10, y11, y12, y13, y14, y15, y16, y17, y18, y19, y5, y6, ea, hb, f0, f1, f2, f3, f4, f5, f6, f7, f8, f9, f10, f11, f12, f13, _⟩ := hI
      try simp [Region.binds] at hn
      subst ea
      simp only [puts, Act.put, List.setIfInBounds_toArray, List.set_cons_zero, List.set_cons_succ]
      go_simp
      refine hK.out _ _ ?_
      exact ⟨y8, y9, y10, y11, y12, y13, y14, y15, y16, .pointer (some ⟨w.heap.size, 2, none⟩), y18, y19, y5, y6, by simp only [puts, Act.put, List.setIfInBounds_toArray, List.set_cons_zero, List.set_cons_succ], hb, fun h => (f0.out (upd_of rfl h)), fun h => (f1.out (upd_of rfl h)), fun h => (f2.out (upd_of rfl h)), fun h => (f3.out (upd_of rfl h)), fun h => (f4.out (upd_of rfl h)), fun h => (f5.out (upd_of rfl h)), fun h => (f6.out (upd_of rfl h)), fun h => (f7.out (upd_of rfl h)), fun h => (f8.out (upd_of rfl h)), fun _ => rfl, fun h => (f10.out (upd_of rfl h)), fun h => (f11.out (upd_of rfl h)), fun h => (f12.out (upd_of rfl h)), fun h => (f13.out (upd_of rfl h)), trivial⟩
    · intro dd aa ww K hc hun hn hI hK
      obtain ⟨y8, y9, y10, y11, y12, y13, y14, y15, y16, y17, y18, y19, y5, y6, ea, hb, f0, f1, f2, f3, f4, f5, f6, f7, f8, f9, f10, f11, f12, f13, _⟩ := hI
      try simp [Region.binds] at hn
      have ex := f9.out (by first | (simp [hn]; done) | exact hc.reach (f := 8) (by decide +kernel) hn | exact hc.reach (f := 8) (by decide +kernel) hn.1 | exact hc.reach (f := 8) (by decide +kernel) hn.2 | exact hc.reach (f := 8) (by decide +kernel) hn.2.1 | exact hc.reach (f := 8) (by decide +kernel) hn.2.2)
      subst ex
      have e2 := (hb.cell (p := ⟨w.heap.size, 2, none⟩) lx).trans qx2
      subst ea
      simp only [puts, Act.put, List.setIfInBounds_toArray, List.set_cons_zero, List.set_cons_succ]
      go_simp
      refine hK.out _ _ ?_
      exact ⟨y8, y9, y10, y11, y12, y13, y14, y15, y16, .pointer (some ⟨w.heap.size, 2, none⟩), .slice a2 n2 c2, y19, y5, y6, by simp only [puts, Act.put, List.setIfInBounds_toArray, List.set_cons_zero, List.set_cons_succ], hb, fun h => (f0.out (upd_of rfl h)), fun h => (f1.out (upd_of rfl h)), fun h => (f2.out (upd_of rfl h)), fun h => (f3.out (upd_of rfl h)), fun h => (f4.out (upd_of rfl h)), fun h => (f5.out (upd_of rfl h)), fun h => (f6.out (upd_of rfl h)), fun h => (f7.out (upd_of rfl h)), fun h => (f8.out (upd_of rfl h)), fun h => rfl, fun _ => rfl, fun h => (f11.out (upd_of rfl h)), fun h => (f12.out (upd_of rfl h)), fun h => (f13.out (upd_of rfl h)), trivial⟩
    · intro dd aa ww K hc hun hn hI hK
      obtain ⟨y8, y9, y10, y11, y12, y13, y14, y15, y16, y17, y18, y19, y5, y6, ea, hb, f0, f1, f2, f3, f4, f5, f6, f7, f8, f9, f10, f11, f12, f13, _⟩ := hI
      try simp [Region.binds] at hn
      have ex := f8.out (by first | (simp [hn]; done) | exact hc.reach (f := 8) (by decide +kernel) hn | exact hc.reach (f := 8) (by decide +kernel) hn.1 | exact hc.reach (f := 8) (by decide +kernel) hn.2 | exact hc.reach (f := 8) (by decide +kernel) hn.2.1 | exact hc.reach (f := 8) (by decide +kernel) hn.2.2)
      subst ex
      have ex := f10.out (by first | (simp [hn]; done) | exact hc.reach (f := 8) (by decide +kernel) hn | exact hc.reach (f := 8) (by decide +kernel) hn.1 | exact hc.reach (f := 8) (by decide +kernel) hn.2 | exact hc.reach (f := 8) (by decide +kernel) hn.2.1 | exact hc.reach (f := 8) (by decide +kernel) hn.2.2)
      subst ex
      subst ea
      simp only [puts, Act.put, List.setIfInBounds_toArray, List.set_cons_zero, List.set_cons_succ]
      go_simp
      with_reducible refine (gcd_any _ _ _ (digs q.num.natAbs) _ _ _ (digs p.den) _ (g3.past hb) (g2.past hb) (by omega) (by omega)).mono ?_
      rintro e w1 ⟨ahH, nhH, chH, rfl, hH, h1⟩
      rw [E2.out] at hH
      refine hK.out _ _ ?_
      exact ⟨y8, y9, y10, y11, y12, y13, y14, y15, .slice a3 n3 c3, y17, .slice a2 n2 c2, .slice ahH nhH chH, y5, y6, by simp only [puts, Act.put, List.setIfInBounds_toArray, List.set_cons_zero, List.set_cons_succ], below_later hb h1, fun h => (f0.out (upd_of rfl h)), fun h => (f1.out (upd_of rfl h)), fun h => (f2.out (upd_of rfl h)), fun h => (f3.out (upd_of rfl h)), fun h => (f4.out (upd_of rfl h)), fun h => (f5.out (upd_of rfl h)).past h1, fun h => (f6.out (upd_of rfl h)), fun h => (f7.out (upd_of rfl h)), fun h => rfl, fun h => (f9.out (upd_of rfl h)), fun h => rfl, fun _ => ⟨_, _, _, rfl, hH.mono hb.size⟩, fun h => (f12.out (upd_of rfl h)), fun h => absurd (hc.reach (f := 8) (s := 13) (l := 11) (by kernel_rfl) (upd_of rfl h)) (by rw [hun]; decide), trivial⟩
    · intro dd aa ww K hc hun hn hI hK
      obtain ⟨y8, y9, y10, y11, y12, y13, y14, y15, y16, y17, y18, y19, y5, y6, ea, hb, f0, f1, f2, f3, f4, f5, f6, f7, f8, f9, f10, f11, f12, f13, _⟩ := hI
      try simp [Region.binds] at hn
      obtain ⟨ahG, nhG, chG, ex, hG⟩ := f5.out (by first | (simp [hn]; done) | exact hc.reach (f := 8) (by decide +kernel) hn | exact hc.reach (f := 8) (by decide +kernel) hn.1 | exact hc.reach (f := 8) (by decide +kernel) hn.2 | exact hc.reach (f := 8) (by decide +kernel) hn.2.1 | exact hc.reach (f := 8) (by decide +kernel) hn.2.2)
      subst ex
      subst ea
      simp only [puts, Act.put, List.setIfInBounds_toArray, List.set_cons_zero, List.set_cons_succ]
      go_simp
      refine hK.out _ _ ?_
      exact ⟨y8, y9, y10, y11, y12, .slice ahG nhG chG, y14, y15, y16, y17, y18, y19, .slice ahG nhG chG, y6, by simp only [puts, Act.put, List.setIfInBounds_toArray, List.set_cons_zero, List.set_cons_succ], hb, fun h => (f0.out (upd_of rfl h)), fun h => (f1.out (upd_of rfl h)), fun h => (f2.out (upd_of rfl h)), fun h => (f3.out (upd_of rfl h)), fun h => (f4.out (upd_of rfl h)), fun h => (f5.out (upd_of rfl h)), fun h => (f6.out (upd_of rfl h)), fun h => (f7.out (upd_of rfl h)), fun h => (f8.out (upd_of rfl h)), fun h => (f9.out (upd_of rfl h)), fun h => (f10.out (upd_of rfl h)), fun h => (f11.out (upd_of rfl h)), fun _ => rfl, fun h => (f13.out (upd_of rfl h)), trivial⟩
    · intro dd aa ww K hc hun hn hI hK
      obtain ⟨y8, y9, y10, y11, y12, y13, y14, y15, y16, y17, y18, y19, y5, y6, ea, hb, f0, f1, f2, f3, f4, f5, f6, f7, f8, f9, f10, f11, f12, f13, _⟩ := hI
      try simp [Region.binds] at hn
      obtain ⟨ahH, nhH, chH, ex, hH⟩ := f11.out (by first | (simp [hn]; done) | exact hc.reach (f := 8) (by decide +kernel) hn | exact hc.reach (f := 8) (by decide +kernel) hn.1 | exact hc.reach (f := 8) (by decide +kernel) hn.2 | exact hc.reach (f := 8) (by decide +kernel) hn.2.1 | exact hc.reach (f := 8) (by decide +kernel) hn.2.2)
      subst ex
      subst ea
      simp only [puts, Act.put, List.setIfInBounds_toArray, List.set_cons_zero, List.set_cons_succ]
      go_simp
      refine hK.out _ _ ?_
      exact ⟨y8, y9, y10, y11, y12, y13, y14, y15, y16, y17, y18, .slice ahH nhH chH, y5, .slice ahH nhH chH, by simp only [puts, Act.put, List.setIfInBounds_toArray, List.set_cons_zero, List.set_cons_succ], hb, fun h => (f0.out (upd_of rfl h)), fun h => (f1.out (upd_of rfl h)), fun h => (f2.out (upd_of rfl h)), fun h => (f3.out (upd_of rfl h)), fun h => (f4.out (upd_of rfl h)), fun h => (f5.out (upd_of rfl h)), fun h => (f6.out (upd_of rfl h)), fun h => (f7.out (upd_of rfl h)), fun h => (f8.out (upd_of rfl h)), fun h => (f9.out (upd_of rfl h)), fun h => (f10.out (upd_of rfl h)), fun h => (f11.out (upd_of rfl h)), fun h => (f12.out (upd_of rfl h)), fun _ => rfl, trivial⟩
  intro dd aa w4 hd hI
  obtain ⟨y8, y9, y10, y11, y12, y13, y14, y15, y16, y17, y18, y19, y5, y6, ea, hb, f0, f1, f2, f3, f4, f5, f6, f7, f8, f9, f10, f11, f12, f13, _⟩ := hI
  have ex := f0.out (hd 0 (by simp))
  subst ex
  have ex := f1.out (hd 1 (by simp))
  subst ex
  have ex := f2.out (hd 2 (by simp))
  subst ex
  have ex := f3.out (hd 3 (by simp))
  subst ex
  have ex := f4.out (hd 4 (by simp))
  subst ex
  obtain ⟨ahG, nhG, chG, ex, hG⟩ := f5.out (hd 5 (by simp))
  subst ex
  have ex := f6.out (hd 6 (by simp))
  subst ex
  have ex := f7.out (hd 7 (by simp))
  subst ex
  have ex := f8.out (hd 8 (by simp))
  subst ex
  have ex := f9.out (hd 9 (by simp))
  subst ex
  have ex := f10.out (hd 10 (by simp))
  subst ex
  obtain ⟨ahH, nhH, chH, ex, hH⟩ := f11.out (hd 11 (by simp))
  subst ex
  have ex : y5 = .slice ahG nhG chG := f12.out (hd 12 (by simp))
  subst ex
  have ex : y6 = .slice ahH nhH chH := f13.out (hd 13 (by simp))
  subst ex
  subst ea
  simp only [puts, Act.put, List.setIfInBounds_toArray, List.set_cons_zero, List.set_cons_succ]
  have hG := hG.mono szW
  have hH := hH.mono szW
  have g1 := g1.past hb
  have g2 := g2.past hb
  have g3 := g3.past hb
  have g4 := g4.past hb
  have qx0 := bq hb lx qx0; have qx1 := bq hb lx qx1; have qx2 := bq hb lx qx2
  have lx := bl hb lx
  have qy0 := bq hb ly qy0; have qy1 := bq hb ly qy1; have qy2 := bq hb ly qy2
  have ly := bl hb ly
  have qr0 := bq hb lr qr0; have qr1 := bq hb lr qr1; have qr2 := bq hb lr qr2
  have xr := xr.past hb lr
  have lr := bl hb lr
  have hB := below_later hB hb
  clear hb hd
  go_wp2_with fail
  have szW := hB.size
  refine wp_region_inv (by kernel_rfl) rfl (by kernel_rfl) (fun A0 V0 dd aa ww => ∃ (blk : Nat → Nat) (y20 y21 y22 y23 y24 y25 y26 y27 y28 y29 y30 y31 y32 y33 y34 y35 y36 y37 y38 y7 : Value), aa = puts A0 [(20, y20), (21, y21), (22, y22), (23, y23), (24, y24), (25, y25), (26, y26), (27, y27), (28, y28), (29, y29), (30, y30), (31, y31), (32, y32), (33, y33), (34, y34), (35, y35), (36, y36), (37, y37), (38, y38), (7, y7)] ∧ Below V0.heap.size V0 ww ∧ Boxes [(19, 2)] V0.heap.size dd blk ww ∧ Shut (dd 0 = true → y20 = .pointer (some ⟨w.heap.size, 0, none⟩)) ∧ Shut (dd 1 = true → y21 = .pointer (some ⟨w.heap.size, 0, none⟩)) ∧ Shut (dd 2 = true → y22 = .bool (neg p.num)) ∧ Shut (dd 3 = true → y23 = .pointer (some ⟨w.heap.size + 1, 0, none⟩)) ∧ Shut (dd 4 = true → y24 = .pointer (some ⟨w.heap.size + 1, 0, none⟩)) ∧ Shut (dd 5 = true → y25 = .bool (neg q.num)) ∧ Shut (dd 6 = true → y26 = .bool (!(neg p.num == neg q.num))) ∧ Shut (dd 7 = true → y27 = .pointer (some ⟨w.heap.size, 0, none⟩)) ∧ Shut (dd 8 = true → y28 = .pointer (some ⟨w.heap.size, 1, none⟩)) ∧ Shut (dd 9 = true → y29 = .slice a n c) ∧ Shut (dd 10 = true → y30 = .slice ahG nhG chG) ∧ Shut (dd 11 = true → NatV V0.heap.size (digs A) y31 ww) ∧ Shut (dd 12 = true → y32 = .pointer (some ⟨w.heap.size + 1, 0, none⟩)) ∧ Shut (dd 13 = true → y33 = .pointer (some ⟨w.heap.size + 1, 1, none⟩)) ∧ Shut (dd 14 = true → y34 = .slice a3 n3 c3) ∧ Shut (dd 15 = true → y35 = .slice ahH nhH chH) ∧ Shut (dd 16 = true → NatV V0.heap.size (digs B) y36 ww) ∧ Shut (dd 17 = true → NatV V0.heap.size (digs (val (digs A) * val (digs B))) y37 ww) ∧ Shut (dd 18 = true → CopyV V0.heap.size (neg R.num) (digs R.num.natAbs) y38 ww) ∧ Shut (dd 19 = true → y7 = .pointer (some ⟨blk 19, 0, none⟩)) ∧ Shut (dd 20 = true → HoldsV dd 19 18 (blk 19) y38 ww) ∧ True) ?_ ?_ ?_
  · exact ⟨fun _ => 0, _, _, _, _, _, _, _, _, _, _, _, _, _, _, _, _, _, _, _, _, puts_self _ [20, 21, 22, 23, 24, 25, 26, 27, 28, 29, 30, 31, 32, 33, 34, 35, 36, 37, 38, 7], (Below.refl _ _).drew, Boxes.none _ _ _ _, fun h => (by cases h), fun h => (by cases h), fun h => (by cases h), fun h => (by cases h), fun h => (by cases h), fun h => (by cases h), fun h => (by cases h), fun h => (by cases h), fun h => (by cases h), fun h => (by cases h), fun h => (by cases h), fun h => (by cases h), fun h => (by cases h), fun h => (by cases h), fun h => (by cases h), fun h => (by cases h), fun h => (by cases h), fun h => (by cases h), fun h => (by cases h), fun h => (by cases h), fun h => (by cases h), trivial⟩
  · refine Steps.cons ?_ (Steps.cons ?_ (Steps.cons ?_ (Steps.cons ?_ (Steps.cons ?_ (Steps.cons ?_ (Steps.cons ?_ (Steps.cons ?_ (Steps.cons ?_ (Steps.cons ?_ (Steps.cons ?_ (Steps.cons ?_ (Steps.cons ?_ (Steps.cons ?_ (Steps.cons ?_ (Steps.cons ?_ (Steps.cons ?_ (Steps.cons ?_ (Steps.cons ?_ (Steps.cons ?_ (Steps.cons ?_ (Steps.nil)))))))))))))))))))))
    · intro dd aa ww K hc hun hn hI hK
      obtain ⟨blk, y20, y21, y22, y23, y24, y25, y26, y27, y28, y29, y30, y31, y32, y33, y34, y35, y36, y37, y38, y7, ea, hb, hX, f0, f1, f2, f3, f4, f5, f6, f7, f8, f9, f10, f11, f12, f13, f14, f15, f16, f17, f18, f19, f20, _⟩ := hI
      try simp [Region.binds] at hn
      subst ea
      simp only [puts, Act.put, List.setIfInBounds_toArray, List.set_cons_zero, List.set_cons_succ]
      go_simp
      refine hK.out _ _ ?_
      exact ⟨blk, .pointer (some ⟨w.heap.size, 0, none⟩), y21, y22, y23, y24, y25, y26, y27, y28, y29, y30, y31, y32, y33, y34, y35, y36, y37, y38, y7, by simp only [puts, Act.put, List.setIfInBounds_toArray, List.set_cons_zero, List.set_cons_succ], hb, hX.same 0 rfl, fun _ => rfl, fun h => (f1.out (upd_of rfl h)), fun h => (f2.out (upd_of rfl h)), fun h => (f3.out (upd_of rfl h)), fun h => (f4.out (upd_of rfl h)), fun h => (f5.out (upd_of rfl h)), fun h => (f6.out (upd_of rfl h)), fun h => (f7.out (upd_of rfl h)), fun h => (f8.out (upd_of rfl h)), fun h => (f9.out (upd_of rfl h)), fun h => (f10.out (upd_of rfl h)), fun h => (f11.out (upd_of rfl h)), fun h => (f12.out (upd_of rfl h)), fun h => (f13.out (upd_of rfl h)), fun h => (f14.out (upd_of rfl h)), fun h => (f15.out (upd_of rfl h)), fun h => (f16.out (upd_of rfl h)), fun h => (f17.out (upd_of rfl h)), fun h => (f18.out (upd_of rfl h)), fun h => (f19.out (upd_of rfl h)), fun h => (f20.out (upd_of rfl h)).same 0, trivial⟩
    · intro dd aa ww K hc hun hn hI hK
      obtain ⟨blk, y20, y21, y22, y23, y24, y25, y26, y27, y28, y29, y30, y31, y32, y33, y34, y35, y36, y37, y38, y7, ea, hb, hX, f0, f1, f2, f3, f4, f5, f6, f7, f8, f9, f10, f11, f12, f13, f14, f15, f16, f17, f18, f19, f20, _⟩ := hI
      try simp [Region.binds] at hn
      have ex := f0.out (by first | (simp [hn]; done) | exact hc.reach (f := 8) (by decide +kernel) hn | exact hc.reach (f := 8) (by decide +kernel) hn.1 | exact hc.reach (f := 8) (by decide +kernel) hn.2 | exact hc.reach (f := 8) (by decide +kernel) hn.2.1 | exact hc.reach (f := 8) (by decide +kernel) hn.2.2)
      subst ex
      subst ea
      simp only [puts, Act.put, List.setIfInBounds_toArray, List.set_cons_zero, List.set_cons_succ]
      go_simp
      refine hK.out _ _ ?_
      exact ⟨blk, .pointer (some ⟨w.heap.size, 0, none⟩), .pointer (some ⟨w.heap.size, 0, none⟩), y22, y23, y24, y25, y26, y27, y28, y29, y30, y31, y32, y33, y34, y35, y36, y37, y38, y7, by simp only [puts, Act.put, List.setIfInBounds_toArray, List.set_cons_zero, List.set_cons_succ], hb, hX.same 1 rfl, fun h => rfl, fun _ => rfl, fun h => (f2.out (upd_of rfl h)), fun h => (f3.out (upd_of rfl h)), fun h => (f4.out (upd_of rfl h)), fun h => (f5.out (upd_of rfl h)), fun h => (f6.out (upd_of rfl h)), fun h => (f7.out (upd_of rfl h)), fun h => (f8.out (upd_of rfl h)), fun h => (f9.out (upd_of rfl h)), fun h => (f10.out (upd_of rfl h)), fun h => (f11.out (upd_of rfl h)), fun h => (f12.out (upd_of rfl h)), fun h => (f13.out (upd_of rfl h)), fun h => (f14.out (upd_of rfl h)), fun h => (f15.out (upd_of rfl h)), fun h => (f16.out (upd_of rfl h)), fun h => (f17.out (upd_of rfl h)), fun h => (f18.out (upd_of rfl h)), fun h => (f19.out (upd_of rfl h)), fun h => (f20.out (upd_of rfl h)).same 1, trivial⟩
    · intro dd aa ww K hc hun hn hI hK
      obtain ⟨blk, y20, y21, y22, y23, y24, y25, y26, y27, y28, y29, y30, y31, y32, y33, y34, y35, y36, y37, y38, y7, ea, hb, hX, f0, f1, f2, f3, f4, f5, f6, f7, f8, f9, f10, f11, f12, f13, f14, f15, f16, f17, f18, f19, f20, _⟩ := hI
      try simp [Region.binds] at hn
      have ex := f1.out (by first | (simp [hn]; done) | exact hc.reach (f := 8) (by decide +kernel) hn | exact hc.reach (f := 8) (by decide +kernel) hn.1 | exact hc.reach (f := 8) (by decide +kernel) hn.2 | exact hc.reach (f := 8) (by decide +kernel) hn.2.1 | exact hc.reach (f := 8) (by decide +kernel) hn.2.2)
      subst ex
      have e0 := (hb.cell (p := ⟨w.heap.size, 0, none⟩) lx).trans qx0
      subst ea
      simp only [puts, Act.put, List.setIfInBounds_toArray, List.set_cons_zero, List.set_cons_succ]
      go_simp
      refine hK.out _ _ ?_
      exact ⟨blk, y20, .pointer (some ⟨w.heap.size, 0, none⟩), .bool (neg p.num), y23, y24, y25, y26, y27, y28, y29, y30, y31, y32, y33, y34, y35, y36, y37, y38, y7, by simp only [puts, Act.put, List.setIfInBounds_toArray, List.set_cons_zero, List.set_cons_succ], hb, hX.same 2 rfl, fun h => (f0.out (upd_of rfl h)), fun h => rfl, fun _ => rfl, fun h => (f3.out (upd_of rfl h)), fun h => (f4.out (upd_of rfl h)), fun h => (f5.out (upd_of rfl h)), fun h => (f6.out (upd_of rfl h)), fun h => (f7.out (upd_of rfl h)), fun h => (f8.out (upd_of rfl h)), fun h => (f9.out (upd_of rfl h)), fun h => (f10.out (upd_of rfl h)), fun h => (f11.out (upd_of rfl h)), fun h => (f12.out (upd_of rfl h)), fun h => (f13.out (upd_of rfl h)), fun h => (f14.out (upd_of rfl h)), fun h => (f15.out (upd_of rfl h)), fun h => (f16.out (upd_of rfl h)), fun h => (f17.out (upd_of rfl h)), fun h => (f18.out (upd_of rfl h)), fun h => (f19.out (upd_of rfl h)), fun h => (f20.out (upd_of rfl h)).same 2, trivial⟩
    · intro dd aa ww K hc hun hn hI hK
      obtain ⟨blk, y20, y21, y22, y23, y24, y25, y26, y27, y28, y29, y30, y31, y32, y33, y34, y35, y36, y37, y38, y7, ea, hb, hX, f0, f1, f2, f3, f4, f5, f6, f7, f8, f9, f10, f11, f12, f13, f14, f15, f16, f17, f18, f19, f20, _⟩ := hI
      try simp [Region.binds] at hn
      subst ea
      simp only [puts, Act.put, List.setIfInBounds_toArray, List.set_cons_zero, List.set_cons_succ]
      go_simp
      refine hK.out _ _ ?_
      exact ⟨blk, y20, y21, y22, .pointer (some ⟨w.heap.size + 1, 0, none⟩), y24, y25, y26, y27, y28, y29, y30, y31, y32, y33, y34, y35, y36, y37, y38, y7, by simp only [puts, Act.put, List.setIfInBounds_toArray, List.set_cons_zero, List.set_cons_succ], hb, hX.same 3 rfl, fun h => (f0.out (upd_of rfl h)), fun h => (f1.out (upd_of rfl h)), fun h => (f2.out (upd_of rfl h)), fun _ => rfl, fun h => (f4.out (upd_of rfl h)), fun h => (f5.out (upd_of rfl h)), fun h => (f6.out (upd_of rfl h)), fun h => (f7.out (upd_of rfl h)), fun h => (f8.out (upd_of rfl h)), fun h => (f9.out (upd_of rfl h)), fun h => (f10.out (upd_of rfl h)), fun h => (f11.out (upd_of rfl h)), fun h => (f12.out (upd_of rfl h)), fun h => (f13.out (upd_of rfl h)), fun h => (f14.out (upd_of rfl h)), fun h => (f15.out (upd_of rfl h)), fun h => (f16.out (upd_of rfl h)), fun h => (f17.out (upd_of rfl h)), fun h => (f18.out (upd_of rfl h)), fun h => (f19.out (upd_of rfl h)), fun h => (f20.out (upd_of rfl h)).same 3, trivial⟩
    · intro dd aa ww K hc hun hn hI hK
      obtain ⟨blk, y20, y21, y22, y23, y24, y25, y26, y27, y28, y29, y30, y31, y32, y33, y34, y35, y36, y37, y38, y7, ea, hb, hX, f0, f1, f2, f3, f4, f5, f6, f7, f8, f9, f10, f11, f12, f13, f14, f15, f16, f17, f18, f19, f20, _⟩ := hI
      try simp [Region.binds] at hn
      have ex := f3.out (by first | (simp [hn]; done) | exact hc.reach (f := 8) (by decide +kernel) hn | exact hc.reach (f := 8) (by decide +kernel) hn.1 | exact hc.reach (f := 8) (by decide +kernel) hn.2 | exact hc.reach (f := 8) (by decide +kernel) hn.2.1 | exact hc.reach (f := 8) (by decide +kernel) hn.2.2)
      subst ex
      subst ea
      simp only [puts, Act.put, List.setIfInBounds_toArray, List.set_cons_zero, List.set_cons_succ]
      go_simp
      refine hK.out _ _ ?_
      exact ⟨blk, y20, y21, y22, .pointer (some ⟨w.heap.size + 1, 0, none⟩), .pointer (some ⟨w.heap.size + 1, 0, none⟩), y25, y26, y27, y28, y29, y30, y31, y32, y33, y34, y35, y36, y37, y38, y7, by simp only [puts, Act.put, List.setIfInBounds_toArray, List.set_cons_zero, List.set_cons_succ], hb, hX.same 4 rfl, fun h => (f0.out (upd_of rfl h)), fun h => (f1.out (upd_of rfl h)), fun h => (f2.out (upd_of rfl h)), fun h => rfl, fun _ => rfl, fun h => (f5.out (upd_of rfl h)), fun h => (f6.out (upd_of rfl h)), fun h => (f7.out (upd_of rfl h)), fun h => (f8.out (upd_of rfl h)), fun h => (f9.out (upd_of rfl h)), fun h => (f10.out (upd_of rfl h)), fun h => (f11.out (upd_of rfl h)), fun h => (f12.out (upd_of rfl h)), fun h => (f13.out (upd_of rfl h)), fun h => (f14.out (upd_of rfl h)), fun h => (f15.out (upd_of rfl h)), fun h => (f16.out (upd_of rfl h)), fun h => (f17.out (upd_of rfl h)), fun h => (f18.out (upd_of rfl h)), fun h => (f19.out (upd_of rfl h)), fun h => (f20.out (upd_of rfl h)).same 4, trivial⟩
    · intro dd aa ww K hc hun hn hI hK
      obtain ⟨blk, y20, y21, y22, y23, y24, y25, y26, y27, y28, y29, y30, y31, y32, y33, y34, y35, y36, y37, y38, y7, ea, hb, hX, f0, f1, f2, f3, f4, f5, f6, f7, f8, f9, f10, f11, f12, f13, f14, f15, f16, f17, f18, f19, f20, _⟩ := hI
      try simp [Region.binds] at hn
      have ex := f4.out (by first | (simp [hn]; done) | exact hc.reach (f := 8) (by decide +kernel) hn | exact hc.reach (f := 8) (by decide +kernel) hn.1 | exact hc.reach (f := 8) (by decide +kernel) hn.2 | exact hc.reach (f := 8) (by decide +kernel) hn.2.1 | exact hc.reach (f := 8) (by decide +kernel) hn.2.2)
      subst ex
      have e0 := (hb.cell (p := ⟨w.heap.size + 1, 0, none⟩) ly).trans qy0
      subst ea
      simp only [puts, Act.put, List.setIfInBounds_toArray, List.set_cons_zero, List.set_cons_succ]
      go_simp
      refine hK.out _ _ ?_
      exact ⟨blk, y20, y21, y22, y23, .pointer (some ⟨w.heap.size + 1, 0, none⟩), .bool (neg q.num), y26, y27, y28, y29, y30, y31, y32, y33, y34, y35, y36, y37, y38, y7, by simp only [puts, Act.put, List.setIfInBounds_toArray, List.set_cons_zero, List.set_cons_succ], hb, hX.same 5 rfl, fun h => (f0.out (upd_of rfl h)), fun h => (f1.out (upd_of rfl h)), fun h => (f2.out (upd_of rfl h)), fun h => (f3.out (upd_of rfl h)), fun h => rfl, fun _ => rfl, fun h => (f6.out (upd_of rfl h)), fun h => (f7.out (upd_of rfl h)), fun h => (f8.out (upd_of rfl h)), fun h => (f9.out (upd_of rfl h)), fun h => (f10.out (upd_of rfl h)), fun h => (f11.out (upd_of rfl h)), fun h => (f12.out (upd_of rfl h)), fun h => (f13.out (upd_of rfl h)), fun h => (f14.out (upd_of rfl h)), fun h => (f15.out (upd_of rfl h)), fun h => (f16.out (upd_of rfl h)), fun h => (f17.out (upd_of rfl h)), fun h => (f18.out (upd_of rfl h)), fun h => (f19.out (upd_of rfl h)), fun h => (f20.out (upd_of rfl h)).same 5, trivial⟩
    · intro dd aa ww K hc hun hn hI hK
      obtain ⟨blk, y20, y21, y22, y23, y24, y25, y26, y27, y28, y29, y30, y31, y32, y33, y34, y35, y36, y37, y38, y7, ea, hb, hX, f0, f1, f2, f3, f4, f5, f6, f7, f8, f9, f10, f11, f12, f13, f14, f15, f16, f17, f18, f19, f20, _⟩ := hI
      try simp [Region.binds] at hn
      have ex := f2.out (by first | (simp [hn]; done) | exact hc.reach (f := 8) (by decide +kernel) hn | exact hc.reach (f := 8) (by decide +kernel) hn.1 | exact hc.reach (f := 8) (by decide +kernel) hn.2 | exact hc.reach (f := 8) (by decide +kernel) hn.2.1 | exact hc.reach (f := 8) (by decide +kernel) hn.2.2)
      subst ex
      have ex := f5.out (by first | (simp [hn]; done) | exact hc.reach (f := 8) (by decide +kernel) hn | exact hc.reach (f := 8) (by decide +kernel) hn.1 | exact hc.reach (f := 8) (by decide +kernel) hn.2 | exact hc.reach (f := 8) (by decide +kernel) hn.2.1 | exact hc.reach (f := 8) (by decide +kernel) hn.2.2)
      subst ex
      subst ea
      simp only [puts, Act.put, List.setIfInBounds_toArray, List.set_cons_zero, List.set_cons_succ]
      go_simp
      refine hK.out _ _ ?_
      exact ⟨blk, y20, y21, .bool (neg p.num), y23, y24, .bool (neg q.num), .bool (!(neg p.num == neg q.num)), y27, y28, y29, y30, y31, y32, y33, y34, y35, y36, y37, y38, y7, by simp only [puts, Act.put, List.setIfInBounds_toArray, List.set_cons_zero, List.set_cons_succ], hb, hX.same 6 rfl, fun h => (f0.out (upd_of rfl h)), fun h => (f1.out (upd_of rfl h)), fun h => rfl, fun h => (f3.out (upd_of rfl h)), fun h => (f4.out (upd_of rfl h)), fun h => rfl, fun _ => rfl, fun h => (f7.out (upd_of rfl h)), fun h => (f8.out (upd_of rfl h)), fun h => (f9.out (upd_of rfl h)), fun h => (f10.out (upd_of rfl h)), fun h => (f11.out (upd_of rfl h)), fun h => (f12.out (upd_of rfl h)), fun h => (f13.out (upd_of rfl h)), fun h => (f14.out (upd_of rfl h)), fun h => (f15.out (upd_of rfl h)), fun h => (f16.out (upd_of rfl h)), fun h => (f17.out (upd_of rfl h)), fun h => (f18.out (upd_of rfl h)), fun h => (f19.out (upd_of rfl h)), fun h => (f20.out (upd_of rfl h)).same 6, trivial⟩
    · intro dd aa ww K hc hun hn hI hK
      obtain ⟨blk, y20, y21, y22, y23, y24, y25, y26, y27, y28, y29, y30, y31, y32, y33, y34, y35, y36, y37, y38, y7, ea, hb, hX, f0, f1, f2, f3, f4, f5, f6, f7, f8, f9, f10, f11, f12, f13, f14, f15, f16, f17, f18, f19, f20, _⟩ := hI
      try simp [Region.binds] at hn
      subst ea
      simp only [puts, Act.put, List.setIfInBounds_toArray, List.set_cons_zero, List.set_cons_succ]
      go_simp
      refine hK.out _ _ ?_
      exact ⟨blk, y20, y21, y22, y23, y24, y25, y26, .pointer (some ⟨w.heap.size, 0, none⟩), y28, y29, y30, y31, y32, y33, y34, y35, y36, y37, y38, y7, by simp only [puts, Act.put, List.setIfInBounds_toArray, List.set_cons_zero, List.set_cons_succ], hb, hX.same 7 rfl, fun h => (f0.out (upd_of rfl h)), fun h => (f1.out (upd_of rfl h)), fun h => (f2.out (upd_of rfl h)), fun h => (f3.out (upd_of rfl h)), fun h => (f4.out (upd_of rfl h)), fun h => (f5.out (upd_of rfl h)), fun h => (f6.out (upd_of rfl h)), fun _ => rfl, fun h => (f8.out (upd_of rfl h)), fun h => (f9.out (upd_of rfl h)), fun h => (f10.out (upd_of rfl h)), fun h => (f11.out (upd_of rfl h)), fun h => (f12.out (upd_of rfl h)), fun h => (f13.out (upd_of rfl h)), fun h => (f14.out (upd_of rfl h)), fun h => (f15.out (upd_of rfl h)), fun h => (f16.out (upd_of rfl h)), fun h => (f17.out (upd_of rfl h)), fun h => (f18.out (upd_of rfl h)), fun h => (f19.out (upd_of rfl h)), fun h => (f20.out (upd_of rfl h)).same 7, trivial⟩
    · intro dd aa ww K hc hun hn hI hK
      obtain ⟨blk, y20, y21, y22, y23, y24, y25, y26, y27, y28, y29, y30, y31, y32, y33, y34, y35, y36, y37, y38, y7, ea, hb, hX, f0, f1, f2, f3, f4, f5, f6, f7, f8, f9, f10, f11, f12, f13, f14, f15, f16, f17, f18, f19, f20, _⟩ := hI
      try simp [Region.binds] at hn
      have ex := f7.out (by first | (simp [hn]; done) | exact hc.reach (f := 8) (by decide +kernel) hn | exact hc.reach (f := 8) (by decide +kernel) hn.1 | exact hc.reach (f := 8) (by decide +kernel) hn.2 | exact hc.reach (f := 8) (by decide +kernel) hn.2.1 | exact hc.reach (f := 8) (by decide +kernel) hn.2.2)
      subst ex
      subst ea
      simp only [puts, Act.put, List.setIfInBounds_toArray, List.set_cons_zero, List.set_cons_succ]
      go_simp
      refine hK.out _ _ ?_
      exact ⟨blk, y20, y21, y22, y23, y24, y25, y26, .pointer (some ⟨w.heap.size, 0, none⟩), .pointer (some ⟨w.heap.size, 1, none⟩), y29, y30, y31, y32, y33, y34, y35, y36, y37, y38, y7, by simp only [puts, Act.put, List.setIfInBounds_toArray, List.set_cons_zero, List.set_cons_succ], hb, hX.same 8 rfl, fun h => (f0.out (upd_of rfl h)), fun h => (f1.out (upd_of rfl h)), fun h => (f2.out (upd_of rfl h)), fun h => (f3.out (upd_of rfl h)), fun h => (f4.out (upd_of rfl h)), fun h => (f5.out (upd_of rfl h)), fun h => (f6.out (upd_of rfl h)), fun h => rfl, fun _ => rfl, fun h => (f9.out (upd_of rfl h)), fun h => (f10.out (upd_of rfl h)), fun h => (f11.out (upd_of rfl h)), fun h => (f12.out (upd_of rfl h)), fun h => (f13.out (upd_of rfl h)), fun h => (f14.out (upd_of rfl h)), fun h => (f15.out (upd_of rfl h)), fun h => (f16.out (upd_of rfl h)), fun h => (f17.out (upd_of rfl h)), fun h => (f18.out (upd_of rfl h)), fun h => (f19.out (upd_of rfl h)), fun h => (f20.out (upd_of rfl h)).same 8, trivial⟩
    · intro dd aa ww K hc hun hn hI hK
      obtain ⟨blk, y20, y21, y22, y23, y24, y25, y26, y27, y28, y29, y30, y31, y32, y33, y34, y35, y36, y37, y38, y7, ea, hb, hX, f0, f1, f2, f3, f4, f5, f6, f7, f8, f9, f10, f11, f12, f13, f14, f15, f16, f17, f18, f19, f20, _⟩ := hI
      try simp [Region.binds] at hn
      have ex := f8.out (by first | (simp [hn]; done) | exact hc.reach (f := 8) (by decide +kernel) hn | exact hc.reach (f := 8) (by decide +kernel) hn.1 | exact hc.reach (f := 8) (by decide +kernel) hn.2 | exact hc.reach (f := 8) (by decide +kernel) hn.2.1 | exact hc.reach (f := 8) (by decide +kernel) hn.2.2)
      subst ex
      have e1 := (hb.cell (p := ⟨w.heap.size, 1, none⟩) lx).trans qx1
      subst ea
      simp only [puts, Act.put, List.setIfInBounds_toArray, List.set_cons_zero, List.set_cons_succ]
      go_simp
      refine hK.out _ _ ?_
      exact ⟨blk, y20, y21, y22, y23, y24, y25, y26, y27, .pointer (some ⟨w.heap.size, 1, none⟩), .slice a n c, y30, y31, y32, y33, y34, y35, y36, y37, y38, y7, by simp only [puts, Act.put, List.setIfInBounds_toArray, List.set_cons_zero, List.set_cons_succ], hb, hX.same 9 rfl, fun h => (f0.out (upd_of rfl h)), fun h => (f1.out (upd_of rfl h)), fun h => (f2.out (upd_of rfl h)), fun h => (f3.out (upd_of rfl h)), fun h => (f4.out (upd_of rfl h)), fun h => (f5.out (upd_of rfl h)), fun h => (f6.out (upd_of rfl h)), fun h => (f7.out (upd_of rfl h)), fun h => rfl, fun _ => rfl, fun h => (f10.out (upd_of rfl h)), fun h => (f11.out (upd_of rfl h)), fun h => (f12.out (upd_of rfl h)), fun h => (f13.out (upd_of rfl h)), fun h => (f14.out (upd_of rfl h)), fun h => (f15.out (upd_of rfl h)), fun h => (f16.out (upd_of rfl h)), fun h => (f17.out (upd_of rfl h)), fun h => (f18.out (upd_of rfl h)), fun h => (f19.out (upd_of rfl h)), fun h => (f20.out (upd_of rfl h)).same 9, trivial⟩
    · intro dd aa ww K hc hun hn hI hK
      obtain ⟨blk, y20, y21, y22, y23, y24, y25, y26, y27, y28, y29, y30, y31, y32, y33, y34, y35, y36, y37, y38, y7, ea, hb, hX, f0, f1, f2, f3, f4, f5, f6, f7, f8, f9, f10, f11, f12, f13, f14, f15, f16, f17, f18, f19, f20, _⟩ := hI
      try simp [Region.binds] at hn
      subst ea
      simp only [puts, Act.put, List.setIfInBounds_toArray, List.set_cons_zero, List.set_cons_succ]
      go_simp
      refine hK.out _ _ ?_
      exact ⟨blk, y20, y21, y22, y23, y24, y25, y26, y27, y28, y29, .slice ahG nhG chG, y31, y32, y33, y34, y35, y36, y37, y38, y7, by simp only [puts, Act.put, List.setIfInBounds_toArray, List.set_cons_zero, List.set_cons_succ], hb, hX.same 10 rfl, fun h => (f0.out (upd_of rfl h)), fun h => (f1.out (upd_of rfl h)), fun h => (f2.out (upd_of rfl h)), fun h => (f3.out (upd_of rfl h)), fun h => (f4.out (upd_of rfl h)), fun h => (f5.out (upd_of rfl h)), fun h => (f6.out (upd_of rfl h)), fun h => (f7.out (upd_of rfl h)), fun h => (f8.out (upd_of rfl h)), fun h => (f9.out (upd_of rfl h)), fun _ => rfl, fun h => (f11.out (upd_of rfl h)), fun h => (f12.out (upd_of rfl h)), fun h => (f13.out (upd_of rfl h)), fun h => (f14.out (upd_of rfl h)), fun h => (f15.out (upd_of rfl h)), fun h => (f16.out (upd_of rfl h)), fun h => (f17.out (upd_of rfl h)), fun h => (f18.out (upd_of rfl h)), fun h => (f19.out (upd_of rfl h)), fun h => (f20.out (upd_of rfl h)).same 10, trivial⟩
    · intro dd aa ww K hc hun hn hI hK
      obtain ⟨blk, y20, y21, y22, y23, y24, y25, y26, y27, y28, y29, y30, y31, y32, y33, y34, y35, y36, y37, y38, y7, ea, hb, hX, f0, f1, f2, f3, f4, f5, f6, f7, f8, f9, f10, f11, f12, f13, f14, f15, f16, f17, f18, f19, f20, _⟩ := hI
      try simp [Region.binds] at hn
      have ex := f9.out (by first | (simp [hn]; done) | exact hc.reach (f := 8) (by decide +kernel) hn | exact hc.reach (f := 8) (by decide +kernel) hn.1 | exact hc.reach (f := 8) (by decide +kernel) hn.2 | exact hc.reach (f := 8) (by decide +kernel) hn.2.1 | exact hc.reach (f := 8) (by decide +kernel) hn.2.2)
      subst ex
      have ex := f10.out (by first | (simp [hn]; done) | exact hc.reach (f := 8) (by decide +kernel) hn | exact hc.reach (f := 8) (by decide +kernel) hn.1 | exact hc.reach (f := 8) (by decide +kernel) hn.2 | exact hc.reach (f := 8) (by decide +kernel) hn.2.1 | exact hc.reach (f := 8) (by decide +kernel) hn.2.2)
      subst ex
      subst ea
      simp only [puts, Act.put, List.setIfInBounds_toArray, List.set_cons_zero, List.set_cons_succ]
      go_simp
      with_reducible refine (by05_any _ _ _ (digs p.num.natAbs) _ _ _ (digs G) _ (g1.past hb) (hG.past hb).toNatAt (by omega) (by have := hG.len; have := LG.out; omega) ZG.out).mono ?_
      rintro e w1 ⟨ahA, nhA, chA, rfl, hA, h1⟩
      rw [EA.out] at hA
      refine hK.out _ _ ?_
      exact ⟨blk, y20, y21, y22, y23, y24, y25, y26, y27, y28, .slice a n c, .slice ahG nhG chG, .slice ahA nhA chA, y32, y33, y34, y35, y36, y37, y38, y7, by simp only [puts, Act.put, List.setIfInBounds_toArray, List.set_cons_zero, List.set_cons_succ], below_later hb h1, hX.past h1 11 rfl, fun h => (f0.out (upd_of rfl h)), fun h => (f1.out (upd_of rfl h)), fun h => (f2.out (upd_of rfl h)), fun h => (f3.out (upd_of rfl h)), fun h => (f4.out (upd_of rfl h)), fun h => (f5.out (upd_of rfl h)), fun h => (f6.out (upd_of rfl h)), fun h => (f7.out (upd_of rfl h)), fun h => (f8.out (upd_of rfl h)), fun h => rfl, fun h => rfl, fun _ => ⟨_, _, _, rfl, hA.mono hb.size⟩, fun h => (f12.out (upd_of rfl h)), fun h => (f13.out (upd_of rfl h)), fun h => (f14.out (upd_of rfl h)), fun h => (f15.out (upd_of rfl h)), fun h => (f16.out (upd_of rfl h)).past h1, fun h => (f17.out (upd_of rfl h)).past h1, fun h => (f18.out (upd_of rfl h)).past h1, fun h => (f19.out (upd_of rfl h)), fun h => (f20.out (upd_of rfl h)).past h1 11, trivial⟩
    · intro dd aa ww K hc hun hn hI hK
      obtain ⟨blk, y20, y21, y22, y23, y24, y25, y26, y27, y28, y29, y30, y31, y32, y33, y34, y35, y36, y37, y38, y7, ea, hb, hX, f0, f1, f2, f3, f4, f5, f6, f7, f8, f9, f10, f11, f12, f13, f14, f15, f16, f17, f18, f19, f20, _⟩ := hI
      try simp [Region.binds] at hn
      subst ea
      simp only [puts, Act.put, List.setIfInBounds_toArray, List.set_cons_zero, List.set_cons_succ]
      go_simp
      refine hK.out _ _ ?_
      exact ⟨blk, y20, y21, y22, y23, y24, y25, y26, y27, y28, y29, y30, y31, .pointer (some ⟨w.heap.size + 1, 0, none⟩), y33, y34, y35, y36, y37, y38, y7, by simp only [puts, Act.put, List.setIfInBounds_toArray, List.set_cons_zero, List.set_cons_succ], hb, hX.same 12 rfl, fun h => (f0.out (upd_of rfl h)), fun h => (f1.out (upd_of rfl h)), fun h => (f2.out (upd_of rfl h)), fun h => (f3.out (upd_of rfl h)), fun h => (f4.out (upd_of rfl h)), fun h => (f5.out (upd_of rfl h)), fun h => (f6.out (upd_of rfl h)), fun h => (f7.out (upd_of rfl h)), fun h => (f8.out (upd_of rfl h)), fun h => (f9.out (upd_of rfl h)), fun h => (f10.out (upd_of rfl h)), fun h => (f11.out (upd_of rfl h)), fun _ => rfl, fun h => (f13.out (upd_of rfl h)), fun h => (f14.out (upd_of rfl h)), fun h => (f15.out (upd_of rfl h)), fun h => (f16.out (upd_of rfl h)), fun h => (f17.out (upd_of rfl h)), fun h => (f18.out (upd_of rfl h)), fun h => (f19.out (upd_of rfl h)), fun h => (f20.out (upd_of rfl h)).same 12, trivial⟩
    · intro dd aa ww K hc hun hn hI hK
      obtain ⟨blk, y20, y21, y22, y23, y24, y25, y26, y27, y28, y29, y30, y31, y32, y33, y34, y35, y36, y37, y38, y7, ea, hb, hX, f0, f1, f2, f3, f4, f5, f6, f7, f8, f9, f10, f11, f12, f13, f14, f15, f16, f17, f18, f19, f20, _⟩ := hI
      try simp [Region.binds] at hn
      have ex := f12.out (by first | (simp [hn]; done) | exact hc.reach (f := 8) (by decide +kernel) hn | exact hc.reach (f := 8) (by decide +kernel) hn.1 | exact hc.reach (f := 8) (by decide +kernel) hn.2 | exact hc.reach (f := 8) (by decide +kernel) hn.2.1 | exact hc.reach (f := 8) (by decide +kernel) hn.2.2)
      subst ex
      subst ea
      simp only [puts, Act.put, List.setIfInBounds_toArray, List.set_cons_zero, List.set_cons_succ]
      go_simp
      refine hK.out _ _ ?_
      exact ⟨blk, y20, y21, y22, y23, y24, y25, y26, y27, y28, y29, y30, y31, .pointer (some ⟨w.heap.size + 1, 0, none⟩), .pointer (some ⟨w.heap.size + 1, 1, none⟩), y34, y35, y36, y37, y38, y7, by simp only [puts, Act.put, List.setIfInBounds_toArray, List.set_cons_zero, List.set_cons_succ], hb, hX.same 13 rfl, fun h => (f0.out (upd_of rfl h)), fun h => (f1.out (upd_of rfl h)), fun h => (f2.out (upd_of rfl h)), fun h => (f3.out (upd_of rfl h)), fun h => (f4.out (upd_of rfl h)), fun h => (f5.out (upd_of rfl h)), fun h => (f6.out (upd_of rfl h)), fun h => (f7.out (upd_of rfl h)), fun h => (f8.out (upd_of rfl h)), fun h => (f9.out (upd_of rfl h)), fun h => (f10.out (upd_of rfl h)), fun h => (f11.out (upd_of rfl h)), fun h => rfl, fun _ => rfl, fun h => (f14.out (upd_of rfl h)), fun h => (f15.out (upd_of rfl h)), fun h => (f16.out (upd_of rfl h)), fun h => (f17.out (upd_of rfl h)), fun h => (f18.out (upd_of rfl h)), fun h => (f19.out (upd_of rfl h)), fun h => (f20.out (upd_of rfl h)).same 13, trivial⟩
    · intro dd aa ww K hc hun hn hI hK
      obtain ⟨blk, y20, y21, y22, y23, y24, y25, y26, y27, y28, y29, y30, y31, y32, y33, y34, y35, y36, y37, y38, y7, ea, hb, hX, f0, f1, f2, f3, f4, f5, f6, f7, f8, f9, f10, f11, f12, f13, f14, f15, f16, f17, f18, f19, f20, _⟩ := hI
      try simp [Region.binds] at hn
      have ex := f13.out (by first | (simp [hn]; done) | exact hc.reach (f := 8) (by decide +kernel) hn | exact hc.reach (f := 8) (by decide +kernel) hn.1 | exact hc.reach (f := 8) (by decide +kernel) hn.2 | exact hc.reach (f := 8) (by decide +kernel) hn.2.1 | exact hc.reach (f := 8) (by decide +kernel) hn.2.2)
      subst ex
      have e1 := (hb.cell (p := ⟨w.heap.size + 1, 1, none⟩) ly).trans qy1
      subst ea
      simp only [puts, Act.put, List.setIfInBounds_toArray, List.set_cons_zero, List.set_cons_succ]
      go_simp
      refine hK.out _ _ ?_
      exact ⟨blk, y20, y21, y22, y23, y24, y25, y26, y27, y28, y29, y30, y31, y32, .pointer (some ⟨w.heap.size + 1, 1, none⟩), .slice a3 n3 c3, y35, y36, y37, y38, y7, by simp only [puts, Act.put, List.setIfInBounds_toArray, List.set_cons_zero, List.set_cons_succ], hb, hX.same 14 rfl, fun h => (f0.out (upd_of rfl h)), fun h => (f1.out (upd_of rfl h)), fun h => (f2.out (upd_of rfl h)), fun h => (f3.out (upd_of rfl h)), fun h => (f4.out (upd_of rfl h)), fun h => (f5.out (upd_of rfl h)), fun h => (f6.out (upd_of rfl h)), fun h => (f7.out (upd_of rfl h)), fun h => (f8.out (upd_of rfl h)), fun h => (f9.out (upd_of rfl h)), fun h => (f10.out (upd_of rfl h)), fun h => (f11.out (upd_of rfl h)), fun h => (f12.out (upd_of rfl h)), fun h => rfl, fun _ => rfl, fun h => (f15.out (upd_of rfl h)), fun h => (f16.out (upd_of rfl h)), fun h => (f17.out (upd_of rfl h)), fun h => (f18.out (upd_of rfl h)), fun h => (f19.out (upd_of rfl h)), fun h => (f20.out (upd_of rfl h)).same 14, trivial⟩
    · intro dd aa ww K hc hun hn hI hK
      obtain ⟨blk, y20, y21, y22, y23, y24, y25, y26, y27, y28, y29, y30, y31, y32, y33, y34, y35, y36, y37, y38, y7, ea, hb, hX, f0, f1, f2, f3, f4, f5, f6, f7, f8, f9, f10, f11, f12, f13, f14, f15, f16, f17, f18, f19, f20, _⟩ := hI
      try simp [Region.binds] at hn
      subst ea
      simp only [puts, Act.put, List.setIfInBounds_toArray, List.set_cons_zero, List.set_cons_succ]
      go_simp
      refine hK.out _ _ ?_
      exact ⟨blk, y20, y21, y22, y23, y24, y25, y26, y27, y28, y29, y30, y31, y32, y33, y34, .slice ahH nhH chH, y36, y37, y38, y7, by simp only [puts, Act.put, List.setIfInBounds_toArray, List.set_cons_zero, List.set_cons_succ], hb, hX.same 15 rfl, fun h => (f0.out (upd_of rfl h)), fun h => (f1.out (upd_of rfl h)), fun h => (f2.out (upd_of rfl h)), fun h => (f3.out (upd_of rfl h)), fun h => (f4.out (upd_of rfl h)), fun h => (f5.out (upd_of rfl h)), fun h => (f6.out (upd_of rfl h)), fun h => (f7.out (upd_of rfl h)), fun h => (f8.out (upd_of rfl h)), fun h => (f9.out (upd_of rfl h)), fun h => (f10.out (upd_of rfl h)), fun h => (f11.out (upd_of rfl h)), fun h => (f12.out (upd_of rfl h)), fun h => (f13.out (upd_of rfl h)), fun h => (f14.out (upd_of rfl h)), fun _ => rfl, fun h => (f16.out (upd_of rfl h)), fun h => (f17.out (upd_of rfl h)), fun h => (f18.out (upd_of rfl h)), fun h => (f19.out (upd_of rfl h)), fun h => (f20.out (upd_of rfl h)).same 15, trivial⟩
    · intro dd aa ww K hc hun hn hI hK
      obtain ⟨blk, y20, y21, y22, y23, y24, y25, y26, y27, y28, y29, y30, y31, y32, y33, y34, y35, y36, y37, y38, y7, ea, hb, hX, f0, f1, f2, f3, f4, f5, f6, f7, f8, f9, f10, f11, f12, f13, f14, f15, f16, f17, f18, f19, f20, _⟩ := hI
      try simp [Region.binds] at hn
      have ex := f14.out (by first | (simp [hn]; done) | exact hc.reach (f := 8) (by decide +kernel) hn | exact hc.reach (f := 8) (by decide +kernel) hn.1 | exact hc.reach (f := 8) (by decide +kernel) hn.2 | exact hc.reach (f := 8) (by decide +kernel) hn.2.1 | exact hc.reach (f := 8) (by decide +kernel) hn.2.2)
      subst ex
      have ex := f15.out (by first | (simp [hn]; done) | exact hc.reach (f := 8) (by decide +kernel) hn | exact hc.reach (f := 8) (by decide +kernel) hn.1 | exact hc.reach (f := 8) (by decide +kernel) hn.2 | exact hc.reach (f := 8) (by decide +kernel) hn.2.1 | exact hc.reach (f := 8) (by decide +kernel) hn.2.2)
      subst ex
      subst ea
      simp only [puts, Act.put, List.setIfInBounds_toArray, List.set_cons_zero, List.set_cons_succ]
      go_simp
      with_reducible refine (by05_any _ _ _ (digs q.num.natAbs) _ _ _ (digs H) _ (g3.past hb) (hH.past hb).toNatAt (by omega) (by have := hH.len; have := LH.out; omega) ZH.out).mono ?_
      rintro e w1 ⟨ahC, nhC, chC, rfl, hC, h1⟩
      rw [EB.out] at hC
      refine hK.out _ _ ?_
      exact ⟨blk, y20, y21, y22, y23, y24, y25, y26, y27, y28, y29, y30, y31, y32, y33, .slice a3 n3 c3, .slice ahH nhH chH, .slice ahC nhC chC, y37, y38, y7, by simp only [puts, Act.put, List.setIfInBounds_toArray, List.set_cons_zero, List.set_cons_succ], below_later hb h1, hX.past h1 16 rfl, fun h => (f0.out (upd_of rfl h)), fun h => (f1.out (upd_of rfl h)), fun h => (f2.out (upd_of rfl h)), fun h => (f3.out (upd_of rfl h)), fun h => (f4.out (upd_of rfl h)), fun h => (f5.out (upd_of rfl h)), fun h => (f6.out (upd_of rfl h)), fun h => (f7.out (upd_of rfl h)), fun h => (f8.out (upd_of rfl h)), fun h => (f9.out (upd_of rfl h)), fun h => (f10.out (upd_of rfl h)), fun h => (f11.out (upd_of rfl h)).past h1, fun h => (f12.out (upd_of rfl h)), fun h => (f13.out (upd_of rfl h)), fun h => rfl, fun h => rfl, fun _ => ⟨_, _, _, rfl, hC.mono hb.size⟩, fun h => (f17.out (upd_of rfl h)).past h1, fun h => (f18.out (upd_of rfl h)).past h1, fun h => (f19.out (upd_of rfl h)), fun h => (f20.out (upd_of rfl h)).past h1 16, trivial⟩
    · intro dd aa ww K hc hun hn hI hK
      obtain ⟨blk, y20, y21, y22, y23, y24, y25, y26, y27, y28, y29, y30, y31, y32, y33, y34, y35, y36, y37, y38, y7, ea, hb, hX, f0, f1, f2, f3, f4, f5, f6, f7, f8, f9, f10, f11, f12, f13, f14, f15, f16, f17, f18, f19, f20, _⟩ := hI
      try simp [Region.binds] at hn
      obtain ⟨ahA, nhA, chA, ex, hA⟩ := f11.out (by first | (simp [hn]; done) | exact hc.reach (f := 8) (by decide +kernel) hn | exact hc.reach (f := 8) (by decide +kernel) hn.1 | exact hc.reach (f := 8) (by decide +kernel) hn.2 | exact hc.reach (f := 8) (by decide +kernel) hn.2.1 | exact hc.reach (f := 8) (by decide +kernel) hn.2.2)
      subst ex
      obtain ⟨ahC, nhC, chC, ex, hC⟩ := f16.out (by first | (simp [hn]; done) | exact hc.reach (f := 8) (by decide +kernel) hn | exact hc.reach (f := 8) (by decide +kernel) hn.1 | exact hc.reach (f := 8) (by decide +kernel) hn.2 | exact hc.reach (f := 8) (by decide +kernel) hn.2.1 | exact hc.reach (f := 8) (by decide +kernel) hn.2.2)
      subst ex
      subst ea
      simp only [puts, Act.put, List.setIfInBounds_toArray, List.set_cons_zero, List.set_cons_succ]
      go_simp
      with_reducible refine (tmul_any _ _ _ (digs A) _ _ _ (digs B) _ hA.toNatAt hC.toNatAt (by have := hA.len; have := LA.out; omega) (by have := hC.len; have := LB.out; omega)).mono ?_
      rintro e w1 ⟨ahP, nhP, chP, rfl, hP, h1⟩
      refine hK.out _ _ ?_
      exact ⟨blk, y20, y21, y22, y23, y24, y25, y26, y27, y28, y29, y30, .slice ahA nhA chA, y32, y33, y34, y35, .slice ahC nhC chC, .slice ahP nhP chP, y38, y7, by simp only [puts, Act.put, List.setIfInBounds_toArray, List.set_cons_zero, List.set_cons_succ], below_later hb h1, hX.past h1 17 rfl, fun h => (f0.out (upd_of rfl h)), fun h => (f1.out (upd_of rfl h)), fun h => (f2.out (upd_of rfl h)), fun h => (f3.out (upd_of rfl h)), fun h => (f4.out (upd_of rfl h)), fun h => (f5.out (upd_of rfl h)), fun h => (f6.out (upd_of rfl h)), fun h => (f7.out (upd_of rfl h)), fun h => (f8.out (upd_of rfl h)), fun h => (f9.out (upd_of rfl h)), fun h => (f10.out (upd_of rfl h)), fun h => (f11.out (upd_of rfl h)).past h1, fun h => (f12.out (upd_of rfl h)), fun h => (f13.out (upd_of rfl h)), fun h => (f14.out (upd_of rfl h)), fun h => (f15.out (upd_of rfl h)), fun h => (f16.out (upd_of rfl h)).past h1, fun _ => ⟨_, _, _, rfl, hP.mono hb.size⟩, fun h => (f18.out (upd_of rfl h)).past h1, fun h => (f19.out (upd_of rfl h)), fun h => (f20.out (upd_of rfl h)).past h1 17, trivial⟩
    · intro dd aa ww K hc hun hn hI hK
      obtain ⟨blk, y20, y21, y22, y23, y24, y25, y26, y27, y28, y29, y30, y31, y32, y33, y34, y35, y36, y37, y38, y7, ea, hb, hX, f0, f1, f2, f3, f4, f5, f6, f7, f8, f9, f10, f11, f12, f13, f14, f15, f16, f17, f18, f19, f20, _⟩ := hI
      try simp [Region.binds] at hn
      have ex := f6.out (by first | (simp [hn]; done) | exact hc.reach (f := 8) (by decide +kernel) hn | exact hc.reach (f := 8) (by decide +kernel) hn.1 | exact hc.reach (f := 8) (by decide +kernel) hn.2 | exact hc.reach (f := 8) (by decide +kernel) hn.2.1 | exact hc.reach (f := 8) (by decide +kernel) hn.2.2)
      subst ex
      obtain ⟨ahP, nhP, chP, ex, hP⟩ := f17.out (by first | (simp [hn]; done) | exact hc.reach (f := 8) (by decide +kernel) hn | exact hc.reach (f := 8) (by decide +kernel) hn.1 | exact hc.reach (f := 8) (by decide +kernel) hn.2 | exact hc.reach (f := 8) (by decide +kernel) hn.2.1 | exact hc.reach (f := 8) (by decide +kernel) hn.2.2)
      subst ex
      subst ea
      simp only [puts, Act.put, List.setIfInBounds_toArray, List.set_cons_zero, List.set_cons_succ]
      go_simp
      with_reducible refine (make_any (!(neg p.num == neg q.num)) _ _ _ (digs (val (digs A) * val (digs B))) _ hP.toNatAt (by have := hP.len; have := LM.out; omega)).mono ?_
      rintro e w1 ⟨ahN, nhN, chN, rfl, hN, h1⟩
      rw [EN.out] at hN ⊢
      refine hK.out _ _ ?_
      exact ⟨blk, y20, y21, y22, y23, y24, y25, .bool (!(neg p.num == neg q.num)), y27, y28, y29, y30, y31, y32, y33, y34, y35, y36, .slice ahP nhP chP, .agg #[.bool (neg R.num), .slice ahN nhN chN], y7, by simp only [puts, Act.put, List.setIfInBounds_toArray, List.set_cons_zero, List.set_cons_succ], below_later hb h1, hX.past h1 18 rfl, fun h => (f0.out (upd_of rfl h)), fun h => (f1.out (upd_of rfl h)), fun h => (f2.out (upd_of rfl h)), fun h => (f3.out (upd_of rfl h)), fun h => (f4.out (upd_of rfl h)), fun h => (f5.out (upd_of rfl h)), fun h => rfl, fun h => (f7.out (upd_of rfl h)), fun h => (f8.out (upd_of rfl h)), fun h => (f9.out (upd_of rfl h)), fun h => (f10.out (upd_of rfl h)), fun h => (f11.out (upd_of rfl h)).past h1, fun h => (f12.out (upd_of rfl h)), fun h => (f13.out (upd_of rfl h)), fun h => (f14.out (upd_of rfl h)), fun h => (f15.out (upd_of rfl h)), fun h => (f16.out (upd_of rfl h)).past h1, fun h => (f17.out (upd_of rfl h)).past h1, fun _ => ⟨_, _, _, rfl, hN.mono hb.size⟩, fun h => (f19.out (upd_of rfl h)), fun h => absurd (HoldsV.vp (f20.out (upd_of rfl h))) (by rw [hun]; decide), trivial⟩
    · intro dd aa ww K hc hun hn hI hK
      obtain ⟨blk, y20, y21, y22, y23, y24, y25, y26, y27, y28, y29, y30, y31, y32, y33, y34, y35, y36, y37, y38, y7, ea, hb, hX, f0, f1, f2, f3, f4, f5, f6, f7, f8, f9, f10, f11, f12, f13, f14, f15, f16, f17, f18, f19, f20, _⟩ := hI
      try simp [Region.binds] at hn
      subst ea
      simp only [puts, Act.put, List.setIfInBounds_toArray, List.set_cons_zero, List.set_cons_succ]
      go_simp
      refine hK.out _ _ ?_
      exact ⟨setB blk 19 ww.heap.size, y20, y21, y22, y23, y24, y25, y26, y27, y28, y29, y30, y31, y32, y33, y34, y35, y36, y37, y38, .pointer (some ⟨ww.heap.size, 0, none⟩), by simp only [puts, Act.put, List.setIfInBounds_toArray, List.set_cons_zero, List.set_cons_succ], below_alloc hb _, hX.new hb.size 19 #[.bool false, .slice none 0 0] _ rfl (by simp [notU_bool, notU_slice, notU_i64]), fun h => (f0.out (upd_of rfl h)), fun h => (f1.out (upd_of rfl h)), fun h => (f2.out (upd_of rfl h)), fun h => (f3.out (upd_of rfl h)), fun h => (f4.out (upd_of rfl h)), fun h => (f5.out (upd_of rfl h)), fun h => (f6.out (upd_of rfl h)), fun h => (f7.out (upd_of rfl h)), fun h => (f8.out (upd_of rfl h)), fun h => (f9.out (upd_of rfl h)), fun h => (f10.out (upd_of rfl h)), fun h => (f11.out (upd_of rfl h)).past ((Below.refl _ _).alloc (Nat.le_refl _) _), fun h => (f12.out (upd_of rfl h)), fun h => (f13.out (upd_of rfl h)), fun h => (f14.out (upd_of rfl h)), fun h => (f15.out (upd_of rfl h)), fun h => (f16.out (upd_of rfl h)).past ((Below.refl _ _).alloc (Nat.le_refl _) _), fun h => (f17.out (upd_of rfl h)).past ((Below.refl _ _).alloc (Nat.le_refl _) _), fun h => (f18.out (upd_of rfl h)).past ((Below.refl _ _).alloc (Nat.le_refl _) _), fun _ => rfl, fun h => absurd (HoldsV.up (f20.out (upd_of rfl h))) (by rw [hun]; decide), trivial⟩
    · intro dd aa ww K hc hun hn hI hK
      obtain ⟨blk, y20, y21, y22, y23, y24, y25, y26, y27, y28, y29, y30, y31, y32, y33, y34, y35, y36, y37, y38, y7, ea, hb, hX, f0, f1, f2, f3, f4, f5, f6, f7, f8, f9, f10, f11, f12, f13, f14, f15, f16, f17, f18, f19, f20, _⟩ := hI
      try simp [Region.binds] at hn
      have ex := f19.out (by first | (simp [hn]; done) | exact hc.reach (f := 8) (by decide +kernel) hn | exact hc.reach (f := 8) (by decide +kernel) hn.1 | exact hc.reach (f := 8) (by decide +kernel) hn.2 | exact hc.reach (f := 8) (by decide +kernel) hn.2.1 | exact hc.reach (f := 8) (by decide +kernel) hn.2.2)
      subst ex
      obtain ⟨ahN, nhN, chN, ex, hN⟩ := f18.out (by first | (simp [hn]; done) | exact hc.reach (f := 8) (by decide +kernel) hn | exact hc.reach (f := 8) (by decide +kernel) hn.1 | exact hc.reach (f := 8) (by decide +kernel) hn.2 | exact hc.reach (f := 8) (by decide +kernel) hn.2.1 | exact hc.reach (f := 8) (by decide +kernel) hn.2.2)
      subst ex
      have hd19 : dd 19 = true := by simp [hn]
      have hv18 : dd 18 = true := by simp [hn]
      obtain ⟨x1, x2, x3⟩ := hX.at_ (19, 2) (by simp) hd19
      obtain ⟨v0, v1, z0, z1, z2, z3, _, _⟩ := x3.two
      have hv : ∀ v ∈ ([.bool (neg R.num), .slice ahN nhN chN] : List Value), notU v := by simp [notU_bool, notU_slice, notU_i64]
      subst ea
      simp only [puts, Act.put, List.setIfInBounds_toArray, List.set_cons_zero, List.set_cons_succ]
      go_simp
      refine hK.out _ _ ?_
      exact ⟨blk, y20, y21, y22, y23, y24, y25, y26, y27, y28, y29, y30, y31, y32, y33, y34, y35, y36, y37, .agg #[.bool (neg R.num), .slice ahN nhN chN], .pointer (some ⟨blk 19, 0, none⟩), by simp only [puts, Act.put, List.setIfInBounds_toArray, List.set_cons_zero, List.set_cons_succ], hb.trans (below_setCells _ _ x1 [.bool (neg R.num), .slice ahN nhN chN] 0 _), (hX.sets [.bool (neg R.num), .slice ahN nhN chN] _ 0 _ hv).same 20 rfl, fun h => (f0.out (upd_of rfl h)), fun h => (f1.out (upd_of rfl h)), fun h => (f2.out (upd_of rfl h)), fun h => (f3.out (upd_of rfl h)), fun h => (f4.out (upd_of rfl h)), fun h => (f5.out (upd_of rfl h)), fun h => (f6.out (upd_of rfl h)), fun h => (f7.out (upd_of rfl h)), fun h => (f8.out (upd_of rfl h)), fun h => (f9.out (upd_of rfl h)), fun h => (f10.out (upd_of rfl h)), fun h => ((f11.out (upd_of rfl h)).sets [.bool (neg R.num), .slice ahN nhN chN] x3 (by simp) hv), fun h => (f12.out (upd_of rfl h)), fun h => (f13.out (upd_of rfl h)), fun h => (f14.out (upd_of rfl h)), fun h => (f15.out (upd_of rfl h)), fun h => ((f16.out (upd_of rfl h)).sets [.bool (neg R.num), .slice ahN nhN chN] x3 (by simp) hv), fun h => ((f17.out (upd_of rfl h)).sets [.bool (neg R.num), .slice ahN nhN chN] x3 (by simp) hv), fun h => ((f18.out (upd_of rfl h)).sets [.bool (neg R.num), .slice ahN nhN chN] x3 (by simp) hv), fun h => rfl, fun _ => (HoldsV.new hd19 hv18 x2 x3 [.bool (neg R.num), .slice ahN nhN chN] (by simp)).same 20, trivial⟩
  intro dd aa w5 hd hI
  obtain ⟨blk, y20, y21, y22, y23, y24, y25, y26, y27, y28, y29, y30, y31, y32, y33, y34, y35, y36, y37, y38, y7, ea, hb, hX, f0, f1, f2, f3, f4, f5, f6, f7, f8, f9, f10, f11, f12, f13, f14, f15, f16, f17, f18, f19, f20, _⟩ := hI
  have ex := f0.out (hd 0 (by simp))
  subst ex
  have ex := f1.out (hd 1 (by simp))
  subst ex
  have ex := f2.out (hd 2 (by simp))
  subst ex
  have ex := f3.out (hd 3 (by simp))
  subst ex
  have ex := f4.out (hd 4 (by simp))
  subst ex
  have ex := f5.out (hd 5 (by simp))
  subst ex
  have ex := f6.out (hd 6 (by simp))
  subst ex
  have ex := f7.out (hd 7 (by simp))
  subst ex
  have ex := f8.out (hd 8 (by simp))
  subst ex
  have ex := f9.out (hd 9 (by simp))
  subst ex
  have ex := f10.out (hd 10 (by simp))
  subst ex
  obtain ⟨ahA, nhA, chA, ex, hA⟩ := f11.out (hd 11 (by simp))
  subst ex
  have ex := f12.out (hd 12 (by simp))
  subst ex
  have ex := f13.out (hd 13 (by simp))
  subst ex
  have ex := f14.out (hd 14 (by simp))
  subst ex
  have ex := f15.out (hd 15 (by simp))
  subst ex
  obtain ⟨ahC, nhC, chC, ex, hC⟩ := f16.out (hd 16 (by simp))
  subst ex
  obtain ⟨ahP, nhP, chP, ex, hP⟩ := f17.out (hd 17 (by simp))
  subst ex
  obtain ⟨ahN, nhN, chN, ex, hN⟩ := f18.out (hd 18 (by simp))
  subst ex
  have ex := f19.out (hd 19 (by simp))
  subst ex
  obtain ⟨vs20, e, h20⟩ := f20.out (hd 20 (by simp))
  cases e
  have ls := h20.lt
  have qs0 := h20.at_ 0 (by simp)
  simp only [List.getElem?_cons_zero, List.getElem?_cons_succ] at qs0
  have qs1 := h20.at_ 1 (by simp)
  simp only [List.getElem?_cons_zero, List.getElem?_cons_succ] at qs1
  have usr : w.heap.size + 1 + 1 < blk 19 := Nat.lt_of_lt_of_le lr (hX.at_ (19, 2) (by simp) (hd 19 (by simp))).1
  generalize blk 19 = Bs at *
  subst ea
  simp only [puts, Act.put, List.setIfInBounds_toArray, List.set_cons_zero, List.set_cons_succ]
  have hA := hA.mono szW
  have hC := hC.mono szW
  have hP := hP.mono szW
  have hN := hN.mono szW
  have g1 := g1.past hb
  have g2 := g2.past hb
  have g3 := g3.past hb
  have g4 := g4.past hb
  have hG := hG.past hb
  have hH := hH.past hb
  have qx0 := bq hb lx qx0; have qx1 := bq hb lx qx1; have qx2 := bq hb lx qx2
  have lx := bl hb lx
  have qy0 := bq hb ly qy0; have qy1 := bq hb ly qy1; have qy2 := bq hb ly qy2
  have ly := bl hb ly
  have qr0 := bq hb lr qr0; have qr1 := bq hb lr qr1; have qr2 := bq hb lr qr2
  have xr := xr.past hb lr
  have lr := bl hb lr
  have hB := below_later hB hb
  clear hX
  clear hb hd
  go_wp2_with fail
  have szW := hB.size
  refine wp_region_inv (by kernel_rfl) rfl (by kernel_rfl) (fun A0 V0 dd aa ww => ∃ (y39 y40 y41 y42 y43 y44 y45 y46 y47 y48 y49 : Value), aa = puts A0 [(39, y39), (40, y40), (41, y41), (42, y42), (43, y43), (44, y44), (45, y45), (46, y46), (47, y47), (48, y48), (49, y49)] ∧ Below (w).heap.size (w) ww ∧ V0.heap.size ≤ ww.heap.size ∧ NatAt ww a n c (digs p.num.natAbs) ∧ NatAt ww a2 n2 c2 (digs p.den) ∧ NatAt ww a3 n3 c3 (digs q.num.natAbs) ∧ NatAt ww a4 n4 c4 (digs q.den) ∧ OwnAt ww w.heap.size ahG nhG chG (digs G) ∧ OwnAt ww w.heap.size ahH nhH chH (digs H) ∧ OwnAt ww w.heap.size ahN nhN chN (digs R.num.natAbs) ∧ Cells ww (w.heap.size) [.bool (neg p.num), .slice a n c, .slice a2 n2 c2] ∧ Cells ww (w.heap.size + 1) [.bool (neg q.num), .slice a3 n3 c3, .slice a4 n4 c4] ∧ Cells ww (Bs) [.bool (neg R.num), .slice ahN nhN chN] ∧ BoxAt ww (w.heap.size + 1 + 1) 3 ∧ Shut (dd 11 = false → Cells ww (w.heap.size + 1 + 1) [.bool false, .slice none 0 0, .slice none 0 0]) ∧ Shut (dd 0 = true → y39 = .agg #[.bool (neg R.num), .slice ahN nhN chN]) ∧ Shut (dd 1 = true → y40 = .pointer (some ⟨w.heap.size, 2, none⟩)) ∧ Shut (dd 2 = true → y41 = .slice a2 n2 c2) ∧ Shut (dd 3 = true → y42 = .slice ahH nhH chH) ∧ Shut (dd 4 = true → NatV V0.heap.size (digs C) y43 ww) ∧ Shut (dd 5 = true → y44 = .pointer (some ⟨w.heap.size + 1, 2, none⟩)) ∧ Shut (dd 6 = true → y45 = .slice a4 n4 c4) ∧ Shut (dd 7 = true → y46 = .slice ahG nhG chG) ∧ Shut (dd 8 = true → NatV V0.heap.size (digs D) y47 ww) ∧ Shut (dd 9 = true → NatV V0.heap.size (digs R.den) y48 ww) ∧ Shut (dd 10 = true → y49 = bld [y39, y48]) ∧ Shut (dd 11 = true → CellsV (w.heap.size + 1 + 1) y49 ww) ∧ True) ?_ ?_ ?_
  · exact ⟨_, _, _, _, _, _, _, _, _, _, _, puts_self _ [39, 40, 41, 42, 43, 44, 45, 46, 47, 48, 49], hB.drew, Nat.le_refl _, g1.drew, g2.drew, g3.drew, g4.drew, hG.drew, hH.drew, hN.drew, (by intro k hk; simp at hk; rcases (by omega : k = 0 ∨ k = 1 ∨ k = 2) with rfl | rfl | rfl <;> assumption), (by intro k hk; simp at hk; rcases (by omega : k = 0 ∨ k = 1 ∨ k = 2) with rfl | rfl | rfl <;> assumption), (by intro k hk; simp at hk; rcases (by omega : k = 0 ∨ k = 1) with rfl | rfl <;> assumption), xr.drew, (fun _ => by intro k hk; simp at hk; rcases (by omega : k = 0 ∨ k = 1 ∨ k = 2) with rfl | rfl | rfl <;> assumption), fun h => (by cases h), fun h => (by cases h), fun h => (by cases h), fun h => (by cases h), fun h => (by cases h), fun h => (by cases h), fun h => (by cases h), fun h => (by cases h), fun h => (by cases h), fun h => (by cases h), fun h => (by cases h), fun h => (by cases h), trivial⟩
  · refine Steps.cons ?_ (Steps.cons ?_ (Steps.cons ?_ (Steps.cons ?_ (Steps.cons ?_ (Steps.cons ?_ (Steps.cons ?_ (Steps.cons ?_ (Steps.cons ?_ (Steps.cons ?_ (Steps.cons ?_ (Steps.cons ?_ (Steps.nil))))))))))))
    · intro dd aa ww K hc hun hn hI hK
      obtain ⟨y39, y40, y41, y42, y43, y44, y45, y46, y47, y48, y49, ea, hb, hsz, vg1, vg2, vg3, vg4, vhG, vhH, vhN, cx, cy, cs, xr, pr, f0, f1, f2, f3, f4, f5, f6, f7, f8, f9, f10, f11, _⟩ := hI
      try simp [Region.binds] at hn
      have e0 := cs 0 (by simp)
      simp only [List.getElem?_cons_zero, List.getElem?_cons_succ] at e0
      have e1 := cs 1 (by simp)
      simp only [List.getElem?_cons_zero, List.getElem?_cons_succ] at e1
      subst ea
      simp only [puts, Act.put, List.setIfInBounds_toArray, List.set_cons_zero, List.set_cons_succ]
      go_simp
      refine hK.out _ _ ?_
      exact ⟨.agg #[.bool (neg R.num), .slice ahN nhN chN], y40, y41, y42, y43, y44, y45, y46, y47, y48, y49, by simp only [puts, Act.put, List.setIfInBounds_toArray, List.set_cons_zero, List.set_cons_succ], hb, hsz, vg1, vg2, vg3, vg4, vhG, vhH, vhN, cx, cy, cs, xr, fun h => (pr.out (upd_off h)), fun _ => rfl, fun h => (f1.out (upd_of rfl h)), fun h => (f2.out (upd_of rfl h)), fun h => (f3.out (upd_of rfl h)), fun h => (f4.out (upd_of rfl h)), fun h => (f5.out (upd_of rfl h)), fun h => (f6.out (upd_of rfl h)), fun h => (f7.out (upd_of rfl h)), fun h => (f8.out (upd_of rfl h)), fun h => (f9.out (upd_of rfl h)), fun h => absurd (hc.reach (f := 8) (s := 10) (l := 0) (by kernel_rfl) (upd_of rfl h)) (by rw [hun]; decide), fun h => (f11.out (upd_of rfl h)), trivial⟩
    · intro dd aa ww K hc hun hn hI hK
      obtain ⟨y39, y40, y41, y42, y43, y44, y45, y46, y47, y48, y49, ea, hb, hsz, vg1, vg2, vg3, vg4, vhG, vhH, vhN, cx, cy, cs, xr, pr, f0, f1, f2, f3, f4, f5, f6, f7, f8, f9, f10, f11, _⟩ := hI
      try simp [Region.binds] at hn
      subst ea
      simp only [puts, Act.put, List.setIfInBounds_toArray, List.set_cons_zero, List.set_cons_succ]
      go_simp
      refine hK.out _ _ ?_
      exact ⟨y39, .pointer (some ⟨w.heap.size, 2, none⟩), y41, y42, y43, y44, y45, y46, y47, y48, y49, by simp only [puts, Act.put, List.setIfInBounds_toArray, List.set_cons_zero, List.set_cons_succ], hb, hsz, vg1, vg2, vg3, vg4, vhG, vhH, vhN, cx, cy, cs, xr, fun h => (pr.out (upd_off h)), fun h => (f0.out (upd_of rfl h)), fun _ => rfl, fun h => (f2.out (upd_of rfl h)), fun h => (f3.out (upd_of rfl h)), fun h => (f4.out (upd_of rfl h)), fun h => (f5.out (upd_of rfl h)), fun h => (f6.out (upd_of rfl h)), fun h => (f7.out (upd_of rfl h)), fun h => (f8.out (upd_of rfl h)), fun h => (f9.out (upd_of rfl h)), fun h => (f10.out (upd_of rfl h)), fun h => (f11.out (upd_of rfl h)), trivial⟩
    · intro dd aa ww K hc hun hn hI hK
      obtain ⟨y39, y40, y41, y42, y43, y44, y45, y46, y47, y48, y49, ea, hb, hsz, vg1, vg2, vg3, vg4, vhG, vhH, vhN, cx, cy, cs, xr, pr, f0, f1, f2, f3, f4, f5, f6, f7, f8, f9, f10, f11, _⟩ := hI
      try simp [Region.binds] at hn
      have ex := f1.out (by first | (simp [hn]; done) | exact hc.reach (f := 8) (by decide +kernel) hn | exact hc.reach (f := 8) (by decide +kernel) hn.1 | exact hc.reach (f := 8) (by decide +kernel) hn.2 | exact hc.reach (f := 8) (by decide +kernel) hn.2.1 | exact hc.reach (f := 8) (by decide +kernel) hn.2.2)
      subst ex
      have e2 := cx 2 (by simp)
      simp only [List.getElem?_cons_zero, List.getElem?_cons_succ] at e2
      subst ea
      simp only [puts, Act.put, List.setIfInBounds_toArray, List.set_cons_zero, List.set_cons_succ]
      go_simp
      refine hK.out _ _ ?_
      exact ⟨y39, .pointer (some ⟨w.heap.size, 2, none⟩), .slice a2 n2 c2, y42, y43, y44, y45, y46, y47, y48, y49, by simp only [puts, Act.put, List.setIfInBounds_toArray, List.set_cons_zero, List.set_cons_succ], hb, hsz, vg1, vg2, vg3, vg4, vhG, vhH, vhN, cx, cy, cs, xr, fun h => (pr.out (upd_off h)), fun h => (f0.out (upd_of rfl h)), fun h => rfl, fun _ => rfl, fun h => (f3.out (upd_of rfl h)), fun h => (f4.out (upd_of rfl h)), fun h => (f5.out (upd_of rfl h)), fun h => (f6.out (upd_of rfl h)), fun h => (f7.out (upd_of rfl h)), fun h => (f8.out (upd_of rfl h)), fun h => (f9.out (upd_of rfl h)), fun h => (f10.out (upd_of rfl h)), fun h => (f11.out (upd_of rfl h)), trivial⟩
    · intro dd aa ww K hc hun hn hI hK
      obtain ⟨y39, y40, y41, y42, y43, y44, y45, y46, y47, y48, y49, ea, hb, hsz, vg1, vg2, vg3, vg4, vhG, vhH, vhN, cx, cy, cs, xr, pr, f0, f1, f2, f3, f4, f5, f6, f7, f8, f9, f10, f11, _⟩ := hI
      try simp [Region.binds] at hn
      subst ea
      simp only [puts, Act.put, List.setIfInBounds_toArray, List.set_cons_zero, List.set_cons_succ]
      go_simp
      refine hK.out _ _ ?_
      exact ⟨y39, y40, y41, .slice ahH nhH chH, y43, y44, y45, y46, y47, y48, y49, by simp only [puts, Act.put, List.setIfInBounds_toArray, List.set_cons_zero, List.set_cons_succ], hb, hsz, vg1, vg2, vg3, vg4, vhG, vhH, vhN, cx, cy, cs, xr, fun h => (pr.out (upd_off h)), fun h => (f0.out (upd_of rfl h)), fun h => (f1.out (upd_of rfl h)), fun h => (f2.out (upd_of rfl h)), fun _ => rfl, fun h => (f4.out (upd_of rfl h)), fun h => (f5.out (upd_of rfl h)), fun h => (f6.out (upd_of rfl h)), fun h => (f7.out (upd_of rfl h)), fun h => (f8.out (upd_of rfl h)), fun h => (f9.out (upd_of rfl h)), fun h => (f10.out (upd_of rfl h)), fun h => (f11.out (upd_of rfl h)), trivial⟩
    · intro dd aa ww K hc hun hn hI hK
      obtain ⟨y39, y40, y41, y42, y43, y44, y45, y46, y47, y48, y49, ea, hb, hsz, vg1, vg2, vg3, vg4, vhG, vhH, vhN, cx, cy, cs, xr, pr, f0, f1, f2, f3, f4, f5, f6, f7, f8, f9, f10, f11, _⟩ := hI
      try simp [Region.binds] at hn
      have ex := f2.out (by first | (simp [hn]; done) | exact hc.reach (f := 8) (by decide +kernel) hn | exact hc.reach (f := 8) (by decide +kernel) hn.1 | exact hc.reach (f := 8) (by decide +kernel) hn.2 | exact hc.reach (f := 8) (by decide +kernel) hn.2.1 | exact hc.reach (f := 8) (by decide +kernel) hn.2.2)
      subst ex
      have ex := f3.out (by first | (simp [hn]; done) | exact hc.reach (f := 8) (by decide +kernel) hn | exact hc.reach (f := 8) (by decide +kernel) hn.1 | exact hc.reach (f := 8) (by decide +kernel) hn.2 | exact hc.reach (f := 8) (by decide +kernel) hn.2.1 | exact hc.reach (f := 8) (by decide +kernel) hn.2.2)
      subst ex
      subst ea
      simp only [puts, Act.put, List.setIfInBounds_toArray, List.set_cons_zero, List.set_cons_succ]
      go_simp
      with_reducible refine (by05_any _ _ _ (digs p.den) _ _ _ (digs H) _ vg2 vhH.toNatAt (by omega) (by have := hH.len; have := LH.out; omega) ZH.out).mono ?_
      rintro e w1 ⟨ahC, nhC, chC, rfl, hC, h1⟩
      rw [EC.out] at hC
      refine hK.out _ _ ?_
      exact ⟨y39, y40, .slice a2 n2 c2, .slice ahH nhH chH, .slice ahC nhC chC, y44, y45, y46, y47, y48, y49, by simp only [puts, Act.put, List.setIfInBounds_toArray, List.set_cons_zero, List.set_cons_succ], below_later hb h1, Nat.le_trans hsz h1.size, vg1.past h1, vg2.past h1, vg3.past h1, vg4.past h1, vhG.past h1, vhH.past h1, vhN.past h1, cx.past h1 (Nat.lt_of_lt_of_le lx hsz), cy.past h1 (Nat.lt_of_lt_of_le ly hsz), cs.past h1 (Nat.lt_of_lt_of_le ls hsz), xr.past h1 (Nat.lt_of_lt_of_le lr hsz), fun h => (pr.out (upd_off h)).past h1 (Nat.lt_of_lt_of_le lr hsz), fun h => (f0.out (upd_of rfl h)), fun h => (f1.out (upd_of rfl h)), fun h => rfl, fun h => rfl, fun _ => ⟨_, _, _, rfl, hC.mono hsz⟩, fun h => (f5.out (upd_of rfl h)), fun h => (f6.out (upd_of rfl h)), fun h => (f7.out (upd_of rfl h)), fun h => (f8.out (upd_of rfl h)).past h1, fun h => (f9.out (upd_of rfl h)).past h1, fun h => (f10.out (upd_of rfl h)), fun h => (f11.out (upd_of rfl h)).past h1 (Nat.lt_of_lt_of_le lr hsz), trivial⟩
    · intro dd aa ww K hc hun hn hI hK
      obtain ⟨y39, y40, y41, y42, y43, y44, y45, y46, y47, y48, y49, ea, hb, hsz, vg1, vg2, vg3, vg4, vhG, vhH, vhN, cx, cy, cs, xr, pr, f0, f1, f2, f3, f4, f5, f6, f7, f8, f9, f10, f11, _⟩ := hI
      try simp [Region.binds] at hn
      subst ea
      simp only [puts, Act.put, List.setIfInBounds_toArray, List.set_cons_zero, List.set_cons_succ]
      go_simp
      refine hK.out _ _ ?_
      exact ⟨y39, y40, y41, y42, y43, .pointer (some ⟨w.heap.size + 1, 2, none⟩), y45, y46, y47, y48, y49, by simp only [puts, Act.put, List.setIfInBounds_toArray, List.set_cons_zero, List.set_cons_succ], hb, hsz, vg1, vg2, vg3, vg4, vhG, vhH, vhN, cx, cy, cs, xr, fun h => (pr.out (upd_off h)), fun h => (f0.out (upd_of rfl h)), fun h => (f1.out (upd_of rfl h)), fun h => (f2.out (upd_of rfl h)), fun h => (f3.out (upd_of rfl h)), fun h => (f4.out (upd_of rfl h)), fun _ => rfl, fun h => (f6.out (upd_of rfl h)), fun h => (f7.out (upd_of rfl h)), fun h => (f8.out (upd_of rfl h)), fun h => (f9.out (upd_of rfl h)), fun h => (f10.out (upd_of rfl h)), fun h => (f11.out (upd_of rfl h)), trivial⟩
    · intro dd aa ww K hc hun hn hI hK
      obtain ⟨y39, y40, y41, y42, y43, y44, y45, y46, y47, y48, y49, ea, hb, hsz, vg1, vg2, vg3, vg4, vhG, vhH, vhN, cx, cy, cs, xr, pr, f0, f1, f2, f3, f4, f5, f6, f7, f8, f9, f10, f11, _⟩ := hI
      try simp [Region.binds] at hn
      have ex := f5.out (by first | (simp [hn]; done) | exact hc.reach (f := 8) (by decide +kernel) hn | exact hc.reach (f := 8) (by decide +kernel) hn.1 | exact hc.reach (f := 8) (by decide +kernel) hn.2 | exact hc.reach (f := 8) (by decide +kernel) hn.2.1 | exact hc.reach (f := 8) (by decide +kernel) hn.2.2)
      subst ex
      have e2 := cy 2 (by simp)
      simp only [List.getElem?_cons_zero, List.getElem?_cons_succ] at e2
      subst ea
      simp only [puts, Act.put, List.setIfInBounds_toArray, List.set_cons_zero, List.set_cons_succ]
      go_simp
      refine hK.out _ _ ?_
      exact ⟨y39, y40, y41, y42, y43, .pointer (some ⟨w.heap.size + 1, 2, none⟩), .slice a4 n4 c4, y46, y47, y48, y49, by simp only [puts, Act.put, List.setIfInBounds_toArray, List.set_cons_zero, List.set_cons_succ], hb, hsz, vg1, vg2, vg3, vg4, vhG, vhH, vhN, cx, cy, cs, xr, fun h => (pr.out (upd_off h)), fun h => (f0.out (upd_of rfl h)), fun h => (f1.out (upd_of rfl h)), fun h => (f2.out (upd_of rfl h)), fun h => (f3.out (upd_of rfl h)), fun h => (f4.out (upd_of rfl h)), fun h => rfl, fun _ => rfl, fun h => (f7.out (upd_of rfl h)), fun h => (f8.out (upd_of rfl h)), fun h => (f9.out (upd_of rfl h)), fun h => (f10.out (upd_of rfl h)), fun h => (f11.out (upd_of rfl h)), trivial⟩
    · intro dd aa ww K hc hun hn hI hK
      obtain ⟨y39, y40, y41, y42, y43, y44, y45, y46, y47, y48, y49, ea, hb, hsz, vg1, vg2, vg3, vg4, vhG, vhH, vhN, cx, cy, cs, xr, pr, f0, f1, f2, f3, f4, f5, f6, f7, f8, f9, f10, f11, _⟩ := hI
      try simp [Region.binds] at hn
      subst ea
      simp only [puts, Act.put, List.setIfInBounds_toArray, List.set_cons_zero, List.set_cons_succ]
      go_simp
      refine hK.out _ _ ?_
      exact ⟨y39, y40, y41, y42, y43, y44, y45, .slice ahG nhG chG, y47, y48, y49, by simp only [puts, Act.put, List.setIfInBounds_toArray, List.set_cons_zero, List.set_cons_succ], hb, hsz, vg1, vg2, vg3, vg4, vhG, vhH, vhN, cx, cy, cs, xr, fun h => (pr.out (upd_off h)), fun h => (f0.out (upd_of rfl h)), fun h => (f1.out (upd_of rfl h)), fun h => (f2.out (upd_of rfl h)), fun h => (f3.out (upd_of rfl h)), fun h => (f4.out (upd_of rfl h)), fun h => (f5.out (upd_of rfl h)), fun h => (f6.out (upd_of rfl h)), fun _ => rfl, fun h => (f8.out (upd_of rfl h)), fun h => (f9.out (upd_of rfl h)), fun h => (f10.out (upd_of rfl h)), fun h => (f11.out (upd_of rfl h)), trivial⟩
    · intro dd aa ww K hc hun hn hI hK
      obtain ⟨y39, y40, y41, y42, y43, y44, y45, y46, y47, y48, y49, ea, hb, hsz, vg1, vg2, vg3, vg4, vhG, vhH, vhN, cx, cy, cs, xr, pr, f0, f1, f2, f3, f4, f5, f6, f7, f8, f9, f10, f11, _⟩ := hI
      try simp [Region.binds] at hn
      have ex := f6.out (by first | (simp [hn]; done) | exact hc.reach (f := 8) (by decide +kernel) hn | exact hc.reach (f := 8) (by decide +kernel) hn.1 | exact hc.reach (f := 8) (by decide +kernel) hn.2 | exact hc.reach (f := 8) (by decide +kernel) hn.2.1 | exact hc.reach (f := 8) (by decide +kernel) hn.2.2)
      subst ex
      have ex := f7.out (by first | (simp [hn]; done) | exact hc.reach (f := 8) (by decide +kernel) hn | exact hc.reach (f := 8) (by decide +kernel) hn.1 | exact hc.reach (f := 8) (by decide +kernel) hn.2 | exact hc.reach (f := 8) (by decide +kernel) hn.2.1 | exact hc.reach (f := 8) (by decide +kernel) hn.2.2)
      subst ex
      subst ea
      simp only [puts, Act.put, List.setIfInBounds_toArray, List.set_cons_zero, List.set_cons_succ]
      go_simp
      with_reducible refine (by05_any _ _ _ (digs q.den) _ _ _ (digs G) _ vg4 vhG.toNatAt (by omega) (by have := hG.len; have := LG.out; omega) ZG.out).mono ?_
      rintro e w1 ⟨ahD, nhD, chD, rfl, hD, h1⟩
      rw [ED.out] at hD
      refine hK.out _ _ ?_
      exact ⟨y39, y40, y41, y42, y43, y44, .slice a4 n4 c4, .slice ahG nhG chG, .slice ahD nhD chD, y48, y49, by simp only [puts, Act.put, List.setIfInBounds_toArray, List.set_cons_zero, List.set_cons_succ], below_later hb h1, Nat.le_trans hsz h1.size, vg1.past h1, vg2.past h1, vg3.past h1, vg4.past h1, vhG.past h1, vhH.past h1, vhN.past h1, cx.past h1 (Nat.lt_of_lt_of_le lx hsz), cy.past h1 (Nat.lt_of_lt_of_le ly hsz), cs.past h1 (Nat.lt_of_lt_of_le ls hsz), xr.past h1 (Nat.lt_of_lt_of_le lr hsz), fun h => (pr.out (upd_off h)).past h1 (Nat.lt_of_lt_of_le lr hsz), fun h => (f0.out (upd_of rfl h)), fun h => (f1.out (upd_of rfl h)), fun h => (f2.out (upd_of rfl h)), fun h => (f3.out (upd_of rfl h)), fun h => (f4.out (upd_of rfl h)).past h1, fun h => (f5.out (upd_of rfl h)), fun h => rfl, fun h => rfl, fun _ => ⟨_, _, _, rfl, hD.mono hsz⟩, fun h => (f9.out (upd_of rfl h)).past h1, fun h => (f10.out (upd_of rfl h)), fun h => (f11.out (upd_of rfl h)).past h1 (Nat.lt_of_lt_of_le lr hsz), trivial⟩
    · intro dd aa ww K hc hun hn hI hK
      obtain ⟨y39, y40, y41, y42, y43, y44, y45, y46, y47, y48, y49, ea, hb, hsz, vg1, vg2, vg3, vg4, vhG, vhH, vhN, cx, cy, cs, xr, pr, f0, f1, f2, f3, f4, f5, f6, f7, f8, f9, f10, f11, _⟩ := hI
      try simp [Region.binds] at hn
      obtain ⟨ahC, nhC, chC, ex, hC⟩ := f4.out (by first | (simp [hn]; done) | exact hc.reach (f := 8) (by decide +kernel) hn | exact hc.reach (f := 8) (by decide +kernel) hn.1 | exact hc.reach (f := 8) (by decide +kernel) hn.2 | exact hc.reach (f := 8) (by decide +kernel) hn.2.1 | exact hc.reach (f := 8) (by decide +kernel) hn.2.2)
      subst ex
      obtain ⟨ahD, nhD, chD, ex, hD⟩ := f8.out (by first | (simp [hn]; done) | exact hc.reach (f := 8) (by decide +kernel) hn | exact hc.reach (f := 8) (by decide +kernel) hn.1 | exact hc.reach (f := 8) (by decide +kernel) hn.2 | exact hc.reach (f := 8) (by decide +kernel) hn.2.1 | exact hc.reach (f := 8) (by decide +kernel) hn.2.2)
      subst ex
      subst ea
      simp only [puts, Act.put, List.setIfInBounds_toArray, List.set_cons_zero, List.set_cons_succ]
      go_simp
      with_reducible refine (tmul_any _ _ _ (digs C) _ _ _ (digs D) _ hC.toNatAt hD.toNatAt (by have := hC.len; have := LC.out; omega) (by have := hD.len; have := LD.out; omega)).mono ?_
      rintro e w1 ⟨ahE, nhE, chE, rfl, hE, h1⟩
      rw [EE.out] at hE
      refine hK.out _ _ ?_
      exact ⟨y39, y40, y41, y42, .slice ahC nhC chC, y44, y45, y46, .slice ahD nhD chD, .slice ahE nhE chE, y49, by simp only [puts, Act.put, List.setIfInBounds_toArray, List.set_cons_zero, List.set_cons_succ], below_later hb h1, Nat.le_trans hsz h1.size, vg1.past h1, vg2.past h1, vg3.past h1, vg4.past h1, vhG.past h1, vhH.past h1, vhN.past h1, cx.past h1 (Nat.lt_of_lt_of_le lx hsz), cy.past h1 (Nat.lt_of_lt_of_le ly hsz), cs.past h1 (Nat.lt_of_lt_of_le ls hsz), xr.past h1 (Nat.lt_of_lt_of_le lr hsz), fun h => (pr.out (upd_off h)).past h1 (Nat.lt_of_lt_of_le lr hsz), fun h => (f0.out (upd_of rfl h)), fun h => (f1.out (upd_of rfl h)), fun h => (f2.out (upd_of rfl h)), fun h => (f3.out (upd_of rfl h)), fun h => (f4.out (upd_of rfl h)).past h1, fun h => (f5.out (upd_of rfl h)), fun h => (f6.out (upd_of rfl h)), fun h => (f7.out (upd_of rfl h)), fun h => (f8.out (upd_of rfl h)).past h1, fun _ => ⟨_, _, _, rfl, hE.mono hsz⟩, fun h => absurd (hc.reach (f := 8) (s := 10) (l := 9) (by kernel_rfl) (upd_of rfl h)) (by rw [hun]; decide), fun h => (f11.out (upd_of rfl h)).past h1 (Nat.lt_of_lt_of_le lr hsz), trivial⟩
    · intro dd aa ww K hc hun hn hI hK
      obtain ⟨y39, y40, y41, y42, y43, y44, y45, y46, y47, y48, y49, ea, hb, hsz, vg1, vg2, vg3, vg4, vhG, vhH, vhN, cx, cy, cs, xr, pr, f0, f1, f2, f3, f4, f5, f6, f7, f8, f9, f10, f11, _⟩ := hI
      try simp [Region.binds] at hn
      have ex := f0.out (by first | (simp [hn]; done) | exact hc.reach (f := 8) (by decide +kernel) hn | exact hc.reach (f := 8) (by decide +kernel) hn.1 | exact hc.reach (f := 8) (by decide +kernel) hn.2 | exact hc.reach (f := 8) (by decide +kernel) hn.2.1 | exact hc.reach (f := 8) (by decide +kernel) hn.2.2)
      subst ex
      obtain ⟨ahE, nhE, chE, ex, hE⟩ := f9.out (by first | (simp [hn]; done) | exact hc.reach (f := 8) (by decide +kernel) hn | exact hc.reach (f := 8) (by decide +kernel) hn.1 | exact hc.reach (f := 8) (by decide +kernel) hn.2 | exact hc.reach (f := 8) (by decide +kernel) hn.2.1 | exact hc.reach (f := 8) (by decide +kernel) hn.2.2)
      subst ex
      subst ea
      simp only [puts, Act.put, List.setIfInBounds_toArray, List.set_cons_zero, List.set_cons_succ]
      go_simp
      refine hK.out _ _ ?_
      exact ⟨.agg #[.bool (neg R.num), .slice ahN nhN chN], y40, y41, y42, y43, y44, y45, y46, y47, .slice ahE nhE chE, .agg #[.bool (neg R.num), .slice ahN nhN chN, .slice ahE nhE chE], by simp only [puts, Act.put, List.setIfInBounds_toArray, List.set_cons_zero, List.set_cons_succ], hb, hsz, vg1, vg2, vg3, vg4, vhG, vhH, vhN, cx, cy, cs, xr, fun h => (pr.out (upd_off h)), fun h => rfl, fun h => (f1.out (upd_of rfl h)), fun h => (f2.out (upd_of rfl h)), fun h => (f3.out (upd_of rfl h)), fun h => (f4.out (upd_of rfl h)), fun h => (f5.out (upd_of rfl h)), fun h => (f6.out (upd_of rfl h)), fun h => (f7.out (upd_of rfl h)), fun h => (f8.out (upd_of rfl h)), fun h => (f9.out (upd_of rfl h)), fun _ => rfl, fun h => absurd (hc.reach (f := 8) (s := 11) (l := 10) (by kernel_rfl) (upd_of rfl h)) (by rw [hun]; decide), trivial⟩
    · intro dd aa ww K hc hun hn hI hK
      obtain ⟨y39, y40, y41, y42, y43, y44, y45, y46, y47, y48, y49, ea, hb, hsz, vg1, vg2, vg3, vg4, vhG, vhH, vhN, cx, cy, cs, xr, pr, f0, f1, f2, f3, f4, f5, f6, f7, f8, f9, f10, f11, _⟩ := hI
      try simp [Region.binds] at hn
      have ex := f0.out (by first | (simp [hn]; done) | exact hc.reach (f := 8) (by decide +kernel) hn | exact hc.reach (f := 8) (by decide +kernel) hn.1 | exact hc.reach (f := 8) (by decide +kernel) hn.2 | exact hc.reach (f := 8) (by decide +kernel) hn.2.1 | exact hc.reach (f := 8) (by decide +kernel) hn.2.2)
      subst ex
      obtain ⟨ahE, nhE, chE, ex, hE⟩ := f9.out (by first | (simp [hn]; done) | exact hc.reach (f := 8) (by decide +kernel) hn | exact hc.reach (f := 8) (by decide +kernel) hn.1 | exact hc.reach (f := 8) (by decide +kernel) hn.2 | exact hc.reach (f := 8) (by decide +kernel) hn.2.1 | exact hc.reach (f := 8) (by decide +kernel) hn.2.2)
      subst ex
      have ex : y49 = .agg #[.bool (neg R.num), .slice ahN nhN chN, .slice ahE nhE chE] := f10.out (by first | (simp [hn]; done) | exact hc.reach (f := 8) (by decide +kernel) hn | exact hc.reach (f := 8) (by decide +kernel) hn.1 | exact hc.reach (f := 8) (by decide +kernel) hn.2 | exact hc.reach (f := 8) (by decide +kernel) hn.2.1 | exact hc.reach (f := 8) (by decide +kernel) hn.2.2)
      subst ex
      have x3 := xr
      obtain ⟨v0, v1, v2, z0, z1, z2, z3, z4, z5, _, _, _⟩ := x3.three
      have hv : ∀ v ∈ ([.bool (neg R.num), .slice ahN nhN chN, .slice ahE nhE chE] : List Value), notU v := by simp [notU_bool, notU_slice, notU_i64]
      subst ea
      simp only [puts, Act.put, List.setIfInBounds_toArray, List.set_cons_zero, List.set_cons_succ]
      go_simp
      refine hK.out _ _ ?_
      exact ⟨.agg #[.bool (neg R.num), .slice ahN nhN chN], y40, y41, y42, y43, y44, y45, y46, y47, .slice ahE nhE chE, .agg #[.bool (neg R.num), .slice ahN nhN chN, .slice ahE nhE chE], by simp only [puts, Act.put, List.setIfInBounds_toArray, List.set_cons_zero, List.set_cons_succ], hb.trans (below_setCells _ _ (by omega) [.bool (neg R.num), .slice ahN nhN chN, .slice ahE nhE chE] 0 _), (by simpa using hsz), NatAt.sets [.bool (neg R.num), .slice ahN nhN chN, .slice ahE nhE chE] 0 _ vg1 x3 (by simp) hv, NatAt.sets [.bool (neg R.num), .slice ahN nhN chN, .slice ahE nhE chE] 0 _ vg2 x3 (by simp) hv, NatAt.sets [.bool (neg R.num), .slice ahN nhN chN, .slice ahE nhE chE] 0 _ vg3 x3 (by simp) hv, NatAt.sets [.bool (neg R.num), .slice ahN nhN chN, .slice ahE nhE chE] 0 _ vg4 x3 (by simp) hv, OwnAt.sets [.bool (neg R.num), .slice ahN nhN chN, .slice ahE nhE chE] 0 _ vhG x3 (by simp) hv, OwnAt.sets [.bool (neg R.num), .slice ahN nhN chN, .slice ahE nhE chE] 0 _ vhH x3 (by simp) hv, OwnAt.sets [.bool (neg R.num), .slice ahN nhN chN, .slice ahE nhE chE] 0 _ vhN x3 (by simp) hv, Cells.sets (by omega) [.bool (neg R.num), .slice ahN nhN chN, .slice ahE nhE chE] 0 _ cx, Cells.sets (by omega) [.bool (neg R.num), .slice ahN nhN chN, .slice ahE nhE chE] 0 _ cy, Cells.sets (by omega) [.bool (neg R.num), .slice ahN nhN chN, .slice ahE nhE chE] 0 _ cs, BoxAt.sets [.bool (neg R.num), .slice ahN nhN chN, .slice ahE nhE chE] _ 0 _ xr hv, fun h => absurd h (by simp [upd]), fun h => rfl, fun h => (f1.out (upd_of rfl h)), fun h => (f2.out (upd_of rfl h)), fun h => (f3.out (upd_of rfl h)), fun h => ((f4.out (upd_of rfl h)).setsOff lr [.bool (neg R.num), .slice ahN nhN chN, .slice ahE nhE chE]), fun h => (f5.out (upd_of rfl h)), fun h => (f6.out (upd_of rfl h)), fun h => (f7.out (upd_of rfl h)), fun h => ((f8.out (upd_of rfl h)).setsOff lr [.bool (neg R.num), .slice ahN nhN chN, .slice ahE nhE chE]), fun h => ((f9.out (upd_of rfl h)).setsOff lr [.bool (neg R.num), .slice ahN nhN chN, .slice ahE nhE chE]), fun h => rfl, fun _ => ⟨[.bool (neg R.num), .slice ahN nhN chN, .slice ahE nhE chE], rfl, Cells.new x3 [.bool (neg R.num), .slice ahN nhN chN, .slice ahE nhE chE] (by simp)⟩, trivial⟩
  intro dd aa w6 hd hI
  obtain ⟨y39, y40, y41, y42, y43, y44, y45, y46, y47, y48, y49, ea, hb, hsz, vg1, vg2, vg3, vg4, vhG, vhH, vhN, cx, cy, cs, xr, pr, f0, f1, f2, f3, f4, f5, f6, f7, f8, f9, f10, f11, _⟩ := hI
  have ex := f0.out (hd 0 (by simp))
  subst ex
  have ex := f1.out (hd 1 (by simp))
  subst ex
  have ex := f2.out (hd 2 (by simp))
  subst ex
  have ex := f3.out (hd 3 (by simp))
  subst ex
  obtain ⟨ahC, nhC, chC, ex, hC⟩ := f4.out (hd 4 (by simp))
  subst ex
  have ex := f5.out (hd 5 (by simp))
  subst ex
  have ex := f6.out (hd 6 (by simp))
  subst ex
  have ex := f7.out (hd 7 (by simp))
  subst ex
  obtain ⟨ahD, nhD, chD, ex, hD⟩ := f8.out (hd 8 (by simp))
  subst ex
  obtain ⟨ahE, nhE, chE, ex, hE⟩ := f9.out (hd 9 (by simp))
  subst ex
  have ex : y49 = .agg #[.bool (neg R.num), .slice ahN nhN chN, .slice ahE nhE chE] := f10.out (hd 10 (by simp))
  subst ex
  obtain ⟨vs11, e, h11⟩ := f11.out (hd 11 (by simp))
  cases e
  have lr := Nat.lt_of_lt_of_le lr hsz
  have qr0 := h11 0 (by simp)
  simp only [List.getElem?_cons_zero, List.getElem?_cons_succ] at qr0
  have qr1 := h11 1 (by simp)
  simp only [List.getElem?_cons_zero, List.getElem?_cons_succ] at qr1
  have qr2 := h11 2 (by simp)
  simp only [List.getElem?_cons_zero, List.getElem?_cons_succ] at qr2
  subst ea
  simp only [puts, Act.put, List.setIfInBounds_toArray, List.set_cons_zero, List.set_cons_succ]
  have hC := hC.mono szW
  have hD := hD.mono szW
  have hE := hE.mono szW
  have g1 := vg1
  have g2 := vg2
  have g3 := vg3
  have g4 := vg4
  have hG := vhG
  have hH := vhH
  have hN := vhN
  have lx := Nat.lt_of_lt_of_le lx hsz
  have qx0 := cx 0 (by simp)
  simp only [List.getElem?_cons_zero, List.getElem?_cons_succ] at qx0
  have qx1 := cx 1 (by simp)
  simp only [List.getElem?_cons_zero, List.getElem?_cons_succ] at qx1
  have qx2 := cx 2 (by simp)
  simp only [List.getElem?_cons_zero, List.getElem?_cons_succ] at qx2
  clear cx
  have ly := Nat.lt_of_lt_of_le ly hsz
  have qy0 := cy 0 (by simp)
  simp only [List.getElem?_cons_zero, List.getElem?_cons_succ] at qy0
  have qy1 := cy 1 (by simp)
  simp only [List.getElem?_cons_zero, List.getElem?_cons_succ] at qy1
  have qy2 := cy 2 (by simp)
  simp only [List.getElem?_cons_zero, List.getElem?_cons_succ] at qy2
  clear cy
  have ls := Nat.lt_of_lt_of_le ls hsz
  have qs0 := cs 0 (by simp)
  simp only [List.getElem?_cons_zero, List.getElem?_cons_succ] at qs0
  have qs1 := cs 1 (by simp)
  simp only [List.getElem?_cons_zero, List.getElem?_cons_succ] at qs1
  clear cs
  have hB := hb
  clear pr
  clear hb hd
  go_wp2
  refine bodyPost_ret (v := .agg #[.bool (neg R.num), .slice ahN nhN chN, .slice ahE nhE chE]) ?_ rfl ⟨_, _, _, _, _, _, rfl, hN, hE, hB⟩
  simp [results, Try.f65, go_sem, qr0, qr1, qr2]

end Go.Proofs.Ytlkoenpdmlbhlaa
