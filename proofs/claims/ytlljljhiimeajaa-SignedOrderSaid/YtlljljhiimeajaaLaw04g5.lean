/- the laws of signed: SignedOrder. -/
import Derived.Test.YtlljljhiimeajaaLaw04d
import Derived.Test.YtlljljhiimeajaaReg2
import Derived.Test.YtlljljhiimeajaaLaw04g0
set_option linter.unusedVariables false
set_option linter.unusedSimpArgs false
namespace Go.Proofs.Ytlljljhiimeajaa
open Go.RowKit

set_option maxRecDepth 100000 in
set_option maxHeartbeats 16000000 in
theorem signedOrder4_main (b : Bool) (a : Option Addr) (n c : Nat) (l : List Nat) (b2 : Bool) (a2 : Option Addr) (n2 c2 : Nat) (l2 : List Nat) (b3 : Bool) (a3 : Option Addr) (n3 c3 : Nat) (l3 : List Nat) (w : World) (g1 : NatAt w a n c l) (g2 : NatAt w a2 n2 c2 l2) (g3 : NatAt w a3 n3 c3 l3) (q0 : n ≤ 10) (q1 : n2 ≤ 10) (q2 : n3 ≤ 10) (o1 : sg b2 (val l2) < sg b (val l)) :
    Calls Try.prog 12 #[.agg #[.bool b, .slice a n c], .agg #[.bool b2, .slice a2 n2 c2], .agg #[.bool b3, .slice a3 n3 c3]] w (RetVal w (.bool true)) := by
  have hc1 := Nat.le_trans g1.le g1.cle
  have hc2 := Nat.le_trans g2.le g2.cle
  have hc3 := Nat.le_trans g3.le g3.cle
  have t0 : decide ((10 : Int) < (n : Int)) = false := by simp; omega
  have t1 : decide ((10 : Int) < (n2 : Int)) = false := by simp; omega
  have t2 : decide ((10 : Int) < (n3 : Int)) = false := by simp; omega
  obtain ⟨x, hx⟩ : ∃ v, sg b (val l) = v := ⟨_, rfl⟩
  have kx : (digs (x).natAbs).length ≤ 10 := by rw [← hx, natAbs_sg]; exact Nat.le_trans g1.short q0
  obtain ⟨y, hy⟩ : ∃ v, sg b2 (val l2) = v := ⟨_, rfl⟩
  have ky : (digs (y).natAbs).length ≤ 10 := by rw [← hy, natAbs_sg]; exact Nat.le_trans g2.short q1
  obtain ⟨z, hz⟩ : ∃ v, sg b3 (val l3) = v := ⟨_, rfl⟩
  have kz : (digs (z).natAbs).length ≤ 10 := by rw [← hz, natAbs_sg]; exact Nat.le_trans g3.short q2
  have Lxz := Lib.hid (ilen_add kx kz)
  have Lyz := Lib.hid (ilen_add ky kz)
  have Mxz := Lib.hid (ilen_mul kx kz)
  have Myz := Lib.hid (ilen_mul ky kz)
  have Lxy := Lib.hid (ilen_sub kx ky)
  rw [hx, hy] at o1
  have e1 : (x - y).sign = 1 := Int.sign_eq_one_of_pos (by omega)
  have e2 : (y - x).sign = -1 := Int.sign_eq_neg_one_of_neg (by omega)
  have e3 : eqZ x y = false := decide_eq_false (by omega)
  have e4 : (x + z - (y + z)).sign = 1 := by rw [show x + z - (y + z) = x - y by omega]; exact e1
  obtain ⟨t, ht⟩ : ∃ t, z.sign = t := ⟨_, rfl⟩
  have z1 : -1 ≤ t := by rcases sign_cases z with h | h | h <;> omega
  have z2 : t ≤ 1 := by rcases sign_cases z with h | h | h <;> omega
  have hu : (x * z - y * z).sign = t := by rw [← Int.sub_mul, Int.sign_mul, e1, ht]; simp
  have ZS := Lib.hid ht
  have hw1 : IntKind.i64.wrap (1 * t) = t := by rw [IntWalk.i64_in _ (by omega)]; omega
  have hw2 : IntKind.i64.wrap (t) = t := IntWalk.i64_in _ (by omega)
  have SXY := Lib.hid e1
  have SYX := Lib.hid e2
  have EQ := Lib.hid e3
  have A1 := Lib.hid e4
  have M1 := Lib.hid hu
  clear e1 e2 e3 e4 hu ht o1
  have HX := Lib.hid hx
  have HY := Lib.hid hy
  have HZ := Lib.hid hz
  clear hx hy hz
  have G1 := g1
  have G2 := g2
  have G3 := g3
  go_enter Try.func12, Try.ntmps12
  have hB := Below.refl w.heap.size w
  go_wp2_with fail
  obtain ⟨w1, hW, hz0, hb, q, f⟩ := box1g w (w.heap.size) (by omega) #[.bool b, .slice a n c] 42
  rw [hW]
  clear hW
  have g1 := g1.past hb
  have g2 := g2.past hb
  have g3 := g3.past hb
  have hB := below_later hB hb
  clear hb
  have lb1 : w.heap.size < w1.heap.size := by omega
  have qb10 := q 0
  simp only [List.getElem?_toArray, List.getElem?_cons_zero, List.getElem?_cons_succ] at qb10
  have qb11 := q 1
  simp only [List.getElem?_toArray, List.getElem?_cons_zero, List.getElem?_cons_succ] at qb11
  have xb1 : BoxAt w1 (w.heap.size) 2 := BoxAt.of q f rfl (by simp [notU_bool, notU_slice, notU_i64])
  clear q f
  obtain ⟨w2, hW, hz1, hb, q, f⟩ := box1g w1 (w.heap.size + 1) (by omega) #[.bool b2, .slice a2 n2 c2] 42
  rw [hW]
  clear hW
  have g1 := g1.past hb
  have g2 := g2.past hb
  have g3 := g3.past hb
  have qb10 := (hb.cell (p := ⟨w.heap.size, 0, none⟩) lb1).trans qb10
  have qb11 := (hb.cell (p := ⟨w.heap.size, 1, none⟩) lb1).trans qb11
  have xb1 := xb1.past hb lb1
  have lb1 := Nat.lt_of_lt_of_le lb1 hb.size
  have hB := below_later hB hb
  clear hb
  have lb2 : w.heap.size + 1 < w2.heap.size := by omega
  have qb20 := q 0
  simp only [List.getElem?_toArray, List.getElem?_cons_zero, List.getElem?_cons_succ] at qb20
  have qb21 := q 1
  simp only [List.getElem?_toArray, List.getElem?_cons_zero, List.getElem?_cons_succ] at qb21
  have xb2 : BoxAt w2 (w.heap.size + 1) 2 := BoxAt.of q f rfl (by simp [notU_bool, notU_slice, notU_i64])
  clear q f
  obtain ⟨w3, hW, hz2, hb, q, f⟩ := box1g w2 (w.heap.size + 1 + 1) (by omega) #[.bool b3, .slice a3 n3 c3] 42
  rw [hW]
  clear hW
  have g1 := g1.past hb
  have g2 := g2.past hb
  have g3 := g3.past hb
  have qb10 := (hb.cell (p := ⟨w.heap.size, 0, none⟩) lb1).trans qb10
  have qb11 := (hb.cell (p := ⟨w.heap.size, 1, none⟩) lb1).trans qb11
  have xb1 := xb1.past hb lb1
  have lb1 := Nat.lt_of_lt_of_le lb1 hb.size
  have qb20 := (hb.cell (p := ⟨w.heap.size + 1, 0, none⟩) lb2).trans qb20
  have qb21 := (hb.cell (p := ⟨w.heap.size + 1, 1, none⟩) lb2).trans qb21
  have xb2 := xb2.past hb lb2
  have lb2 := Nat.lt_of_lt_of_le lb2 hb.size
  have hB := below_later hB hb
  clear hb
  have lb3 : w.heap.size + 1 + 1 < w3.heap.size := by omega
  have qb30 := q 0
  simp only [List.getElem?_toArray, List.getElem?_cons_zero, List.getElem?_cons_succ] at qb30
  have qb31 := q 1
  simp only [List.getElem?_toArray, List.getElem?_cons_zero, List.getElem?_cons_succ] at qb31
  have xb3 : BoxAt w3 (w.heap.size + 1 + 1) 2 := BoxAt.of q f rfl (by simp [notU_bool, notU_slice, notU_i64])
  clear q f
  clear hz0
  clear hz1
  clear hz2
  with_reducible refine (signedKnown_any _).mono ?_
  rintro e w4 ⟨rfl, hb⟩
  have g1 := g1.past hb
  have g2 := g2.past hb
  have g3 := g3.past hb
  have qb10 := (hb.cell (p := ⟨w.heap.size, 0, none⟩) lb1).trans qb10
  have qb11 := (hb.cell (p := ⟨w.heap.size, 1, none⟩) lb1).trans qb11
  have xb1 := xb1.past hb lb1
  have lb1 := Nat.lt_of_lt_of_le lb1 hb.size
  have qb20 := (hb.cell (p := ⟨w.heap.size + 1, 0, none⟩) lb2).trans qb20
  have qb21 := (hb.cell (p := ⟨w.heap.size + 1, 1, none⟩) lb2).trans qb21
  have xb2 := xb2.past hb lb2
  have lb2 := Nat.lt_of_lt_of_le lb2 hb.size
  have qb30 := (hb.cell (p := ⟨w.heap.size + 1 + 1, 0, none⟩) lb3).trans qb30
  have qb31 := (hb.cell (p := ⟨w.heap.size + 1 + 1, 1, none⟩) lb3).trans qb31
  have xb3 := xb3.past hb lb3
  have lb3 := Nat.lt_of_lt_of_le lb3 hb.size
  have hB := below_later hB hb
  clear hb
  go_wp2_with fail
  with_reducible refine (longNat_any _ _ _ _ _ hc1).mono ?_
  rintro e w' ⟨rfl, rfl⟩
  go_wp2_with fail
  with_reducible refine (longNat_any _ _ _ _ _ hc2).mono ?_
  rintro e w' ⟨rfl, rfl⟩
  go_wp2_with fail
  with_reducible refine (longNat_any _ _ _ _ _ hc3).mono ?_
  rintro e w' ⟨rfl, rfl⟩
  go_wp2_with fail
  refine wp_region_inv (by kernel_rfl) rfl (by kernel_rfl) (fun A0 V0 dd aa ww => ∃ (y24 y25 y26 y27 y28 y29 y30 y31 y32 y33 y34 y35 y36 y37 y38 : Value), aa = puts A0 [(24, y24), (25, y25), (26, y26), (27, y27), (28, y28), (29, y29), (30, y30), (31, y31), (32, y32), (33, y33), (34, y34), (35, y35), (36, y36), (37, y37), (38, y38)] ∧ Below (w).heap.size (w) ww ∧ V0.heap.size ≤ ww.heap.size ∧ BoxAt ww (w.heap.size) 2 ∧ Shut (dd 15 = false → Cells ww (w.heap.size) [.bool b, .slice a n c]) ∧ BoxAt ww (w.heap.size + 1) 2 ∧ Shut (dd 16 = false → Cells ww (w.heap.size + 1) [.bool b2, .slice a2 n2 c2]) ∧ BoxAt ww (w.heap.size + 1 + 1) 2 ∧ Shut (dd 17 = false → Cells ww (w.heap.size + 1 + 1) [.bool b3, .slice a3 n3 c3]) ∧ Shut (dd 0 = true → y24 = .pointer (some ⟨w.heap.size, 0, none⟩)) ∧ Shut (dd 1 = true → y25 = .bool b) ∧ Shut (dd 2 = true → y26 = .pointer (some ⟨w.heap.size, 1, none⟩)) ∧ Shut (dd 3 = true → y27 = .slice a n c) ∧ Shut (dd 4 = true → CopyV V0.heap.size (neg (x)) (digs (x).natAbs) y28 ww) ∧ Shut (dd 5 = true → y29 = .pointer (some ⟨w.heap.size + 1, 0, none⟩)) ∧ Shut (dd 6 = true → y30 = .bool b2) ∧ Shut (dd 7 = true → y31 = .pointer (some ⟨w.heap.size + 1, 1, none⟩)) ∧ Shut (dd 8 = true → y32 = .slice a2 n2 c2) ∧ Shut (dd 9 = true → CopyV V0.heap.size (neg (y)) (digs (y).natAbs) y33 ww) ∧ Shut (dd 10 = true → y34 = .pointer (some ⟨w.heap.size + 1 + 1, 0, none⟩)) ∧ Shut (dd 11 = true → y35 = .bool b3) ∧ Shut (dd 12 = true → y36 = .pointer (some ⟨w.heap.size + 1 + 1, 1, none⟩)) ∧ Shut (dd 13 = true → y37 = .slice a3 n3 c3) ∧ Shut (dd 14 = true → CopyV V0.heap.size (neg (z)) (digs (z).natAbs) y38 ww) ∧ Shut (dd 15 = true → CellsV (w.heap.size) y28 ww) ∧ Shut (dd 16 = true → CellsV (w.heap.size + 1) y33 ww) ∧ Shut (dd 17 = true → CellsV (w.heap.size + 1 + 1) y38 ww) ∧ True) ?_ ?_ ?_
  · exact ⟨_, _, _, _, _, _, _, _, _, _, _, _, _, _, _, puts_self _ [24, 25, 26, 27, 28, 29, 30, 31, 32, 33, 34, 35, 36, 37, 38], hB.drew, Nat.le_refl _, xb1.drew, (fun _ => by intro k hk; simp at hk; rcases (by omega : k = 0 ∨ k = 1) with rfl | rfl <;> assumption), xb2.drew, (fun _ => by intro k hk; simp at hk; rcases (by omega : k = 0 ∨ k = 1) with rfl | rfl <;> assumption), xb3.drew, (fun _ => by intro k hk; simp at hk; rcases (by omega : k = 0 ∨ k = 1) with rfl | rfl <;> assumption), fun h => (by cases h), fun h => (by cases h), fun h => (by cases h), fun h => (by cases h), fun h => (by cases h), fun h => (by cases h), fun h => (by cases h), fun h => (by cases h), fun h => (by cases h), fun h => (by cases h), fun h => (by cases h), fun h => (by cases h), fun h => (by cases h), fun h => (by cases h), fun h => (by cases h), fun h => (by cases h), fun h => (by cases h), fun h => (by cases h), trivial⟩
  · refine Steps.cons ?_ (Steps.cons ?_ (Steps.cons ?_ (Steps.cons ?_ (Steps.cons ?_ (Steps.cons ?_ (Steps.cons ?_ (Steps.cons ?_ (Steps.cons ?_ (Steps.cons ?_ (Steps.cons ?_ (Steps.cons ?_ (Steps.cons ?_ (Steps.cons ?_ (Steps.cons ?_ (Steps.cons ?_ (Steps.cons ?_ (Steps.cons ?_ (Steps.nil))))))))))))))))))
    · intro dd aa ww K hc hun hn hI hK
      obtain ⟨y24, y25, y26, y27, y28, y29, y30, y31, y32, y33, y34, y35, y36, y37, y38, ea, hb, hsz, xb1, pb1, xb2, pb2, xb3, pb3, f0, f1, f2, f3, f4, f5, f6, f7, f8, f9, f10, f11, f12, f13, f14, f15, f16, f17, _⟩ := hI
      try simp [Region.binds] at hn
      subst ea
      simp only [puts, Act.put, List.setIfInBounds_toArray, List.set_cons_zero, List.set_cons_succ]
      go_simp
      refine hK.out _ _ ?_
      exact ⟨.pointer (some ⟨w.heap.size, 0, none⟩), y25, y26, y27, y28, y29, y30, y31, y32, y33, y34, y35, y36, y37, y38, by simp only [puts, Act.put, List.setIfInBounds_toArray, List.set_cons_zero, List.set_cons_succ], hb, hsz, xb1, fun h => (pb1.out (upd_off h)), xb2, fun h => (pb2.out (upd_off h)), xb3, fun h => (pb3.out (upd_off h)), fun _ => rfl, fun h => (f1.out (upd_of rfl h)), fun h => (f2.out (upd_of rfl h)), fun h => (f3.out (upd_of rfl h)), fun h => (f4.out (upd_of rfl h)), fun h => (f5.out (upd_of rfl h)), fun h => (f6.out (upd_of rfl h)), fun h => (f7.out (upd_of rfl h)), fun h => (f8.out (upd_of rfl h)), fun h => (f9.out (upd_of rfl h)), fun h => (f10.out (upd_of rfl h)), fun h => (f11.out (upd_of rfl h)), fun h => (f12.out (upd_of rfl h)), fun h => (f13.out (upd_of rfl h)), fun h => (f14.out (upd_of rfl h)), fun h => (f15.out (upd_of rfl h)), fun h => (f16.out (upd_of rfl h)), fun h => (f17.out (upd_of rfl h)), trivial⟩
    · intro dd aa ww K hc hun hn hI hK
      obtain ⟨y24, y25, y26, y27, y28, y29, y30, y31, y32, y33, y34, y35, y36, y37, y38, ea, hb, hsz, xb1, pb1, xb2, pb2, xb3, pb3, f0, f1, f2, f3, f4, f5, f6, f7, f8, f9, f10, f11, f12, f13, f14, f15, f16, f17, _⟩ := hI
      try simp [Region.binds] at hn
      have ex := f0.out (by simp [hn])
      subst ex
      have hs := hc.not (f := 8) (s := 15) (l := 1) (by kernel_rfl) hun
      have e0 := pb1.out hs 0 (by simp)
      simp only [List.getElem?_cons_zero, List.getElem?_cons_succ] at e0
      subst ea
      simp only [puts, Act.put, List.setIfInBounds_toArray, List.set_cons_zero, List.set_cons_succ]
      go_simp
      refine hK.out _ _ ?_
      exact ⟨.pointer (some ⟨w.heap.size, 0, none⟩), .bool b, y26, y27, y28, y29, y30, y31, y32, y33, y34, y35, y36, y37, y38, by simp only [puts, Act.put, List.setIfInBounds_toArray, List.set_cons_zero, List.set_cons_succ], hb, hsz, xb1, fun h => (pb1.out (upd_off h)), xb2, fun h => (pb2.out (upd_off h)), xb3, fun h => (pb3.out (upd_off h)), fun h => rfl, fun _ => rfl, fun h => (f2.out (upd_of rfl h)), fun h => (f3.out (upd_of rfl h)), fun h => (f4.out (upd_of rfl h)), fun h => (f5.out (upd_of rfl h)), fun h => (f6.out (upd_of rfl h)), fun h => (f7.out (upd_of rfl h)), fun h => (f8.out (upd_of rfl h)), fun h => (f9.out (upd_of rfl h)), fun h => (f10.out (upd_of rfl h)), fun h => (f11.out (upd_of rfl h)), fun h => (f12.out (upd_of rfl h)), fun h => (f13.out (upd_of rfl h)), fun h => (f14.out (upd_of rfl h)), fun h => (f15.out (upd_of rfl h)), fun h => (f16.out (upd_of rfl h)), fun h => (f17.out (upd_of rfl h)), trivial⟩
    · intro dd aa ww K hc hun hn hI hK
      obtain ⟨y24, y25, y26, y27, y28, y29, y30, y31, y32, y33, y34, y35, y36, y37, y38, ea, hb, hsz, xb1, pb1, xb2, pb2, xb3, pb3, f0, f1, f2, f3, f4, f5, f6, f7, f8, f9, f10, f11, f12, f13, f14, f15, f16, f17, _⟩ := hI
      try simp [Region.binds] at hn
      subst ea
      simp only [puts, Act.put, List.setIfInBounds_toArray, List.set_cons_zero, List.set_cons_succ]
      go_simp
      refine hK.out _ _ ?_
      exact ⟨y24, y25, .pointer (some ⟨w.heap.size, 1, none⟩), y27, y28, y29, y30, y31, y32, y33, y34, y35, y36, y37, y38, by simp only [puts, Act.put, List.setIfInBounds_toArray, List.set_cons_zero, List.set_cons_succ], hb, hsz, xb1, fun h => (pb1.out (upd_off h)), xb2, fun h => (pb2.out (upd_off h)), xb3, fun h => (pb3.out (upd_off h)), fun h => (f0.out (upd_of rfl h)), fun h => (f1.out (upd_of rfl h)), fun _ => rfl, fun h => (f3.out (upd_of rfl h)), fun h => (f4.out (upd_of rfl h)), fun h => (f5.out (upd_of rfl h)), fun h => (f6.out (upd_of rfl h)), fun h => (f7.out (upd_of rfl h)), fun h => (f8.out (upd_of rfl h)), fun h => (f9.out (upd_of rfl h)), fun h => (f10.out (upd_of rfl h)), fun h => (f11.out (upd_of rfl h)), fun h => (f12.out (upd_of rfl h)), fun h => (f13.out (upd_of rfl h)), fun h => (f14.out (upd_of rfl h)), fun h => (f15.out (upd_of rfl h)), fun h => (f16.out (upd_of rfl h)), fun h => (f17.out (upd_of rfl h)), trivial⟩
    · intro dd aa ww K hc hun hn hI hK
      obtain ⟨y24, y25, y26, y27, y28, y29, y30, y31, y32, y33, y34, y35, y36, y37, y38, ea, hb, hsz, xb1, pb1, xb2, pb2, xb3, pb3, f0, f1, f2, f3, f4, f5, f6, f7, f8, f9, f10, f11, f12, f13, f14, f15, f16, f17, _⟩ := hI
      try simp [Region.binds] at hn
      have ex := f2.out (by simp [hn])
      subst ex
      have hs := hc.not (f := 8) (s := 15) (l := 3) (by kernel_rfl) hun
      have e1 := pb1.out hs 1 (by simp)
      simp only [List.getElem?_cons_zero, List.getElem?_cons_succ] at e1
      subst ea
      simp only [puts, Act.put, List.setIfInBounds_toArray, List.set_cons_zero, List.set_cons_succ]
      go_simp
      refine hK.out _ _ ?_
      exact ⟨y24, y25, .pointer (some ⟨w.heap.size, 1, none⟩), .slice a n c, y28, y29, y30, y31, y32, y33, y34, y35, y36, y37, y38, by simp only [puts, Act.put, List.setIfInBounds_toArray, List.set_cons_zero, List.set_cons_succ], hb, hsz, xb1, fun h => (pb1.out (upd_off h)), xb2, fun h => (pb2.out (upd_off h)), xb3, fun h => (pb3.out (upd_off h)), fun h => (f0.out (upd_of rfl h)), fun h => (f1.out (upd_of rfl h)), fun h => rfl, fun _ => rfl, fun h => (f4.out (upd_of rfl h)), fun h => (f5.out (upd_of rfl h)), fun h => (f6.out (upd_of rfl h)), fun h => (f7.out (upd_of rfl h)), fun h => (f8.out (upd_of rfl h)), fun h => (f9.out (upd_of rfl h)), fun h => (f10.out (upd_of rfl h)), fun h => (f11.out (upd_of rfl h)), fun h => (f12.out (upd_of rfl h)), fun h => (f13.out (upd_of rfl h)), fun h => (f14.out (upd_of rfl h)), fun h => (f15.out (upd_of rfl h)), fun h => (f16.out (upd_of rfl h)), fun h => (f17.out (upd_of rfl h)), trivial⟩
    · intro dd aa ww K hc hun hn hI hK
      obtain ⟨y24, y25, y26, y27, y28, y29, y30, y31, y32, y33, y34, y35, y36, y37, y38, ea, hb, hsz, xb1, pb1, xb2, pb2, xb3, pb3, f0, f1, f2, f3, f4, f5, f6, f7, f8, f9, f10, f11, f12, f13, f14, f15, f16, f17, _⟩ := hI
      try simp [Region.binds] at hn
      have ex := f1.out (by simp [hn])
      subst ex
      have ex := f3.out (by simp [hn])
      subst ex
      subst ea
      simp only [puts, Act.put, List.setIfInBounds_toArray, List.set_cons_zero, List.set_cons_succ]
      go_simp
      with_reducible refine (make_any _ _ _ _ l _ (G1.past hb) (by omega)).mono ?_
      rintro e w1 ⟨ahA, nhA, chA, rfl, hA, h1⟩
      rw [HX.out] at hA ⊢
      refine hK.out _ _ ?_
      exact ⟨y24, .bool b, y26, .slice a n c, .agg #[.bool (neg (x)), .slice ahA nhA chA], y29, y30, y31, y32, y33, y34, y35, y36, y37, y38, by simp only [puts, Act.put, List.setIfInBounds_toArray, List.set_cons_zero, List.set_cons_succ], below_later hb h1, Nat.le_trans hsz h1.size, xb1.past h1 (Nat.lt_of_lt_of_le lb1 hsz), fun h => (pb1.out (upd_off h)).past h1 (Nat.lt_of_lt_of_le lb1 hsz), xb2.past h1 (Nat.lt_of_lt_of_le lb2 hsz), fun h => (pb2.out (upd_off h)).past h1 (Nat.lt_of_lt_of_le lb2 hsz), xb3.past h1 (Nat.lt_of_lt_of_le lb3 hsz), fun h => (pb3.out (upd_off h)).past h1 (Nat.lt_of_lt_of_le lb3 hsz), fun h => (f0.out (upd_of rfl h)), fun h => rfl, fun h => (f2.out (upd_of rfl h)), fun h => rfl, fun _ => ⟨_, _, _, rfl, hA.mono hsz⟩, fun h => (f5.out (upd_of rfl h)), fun h => (f6.out (upd_of rfl h)), fun h => (f7.out (upd_of rfl h)), fun h => (f8.out (upd_of rfl h)), fun h => (f9.out (upd_of rfl h)).past h1, fun h => (f10.out (upd_of rfl h)), fun h => (f11.out (upd_of rfl h)), fun h => (f12.out (upd_of rfl h)), fun h => (f13.out (upd_of rfl h)), fun h => (f14.out (upd_of rfl h)).past h1, fun h => absurd (hc.reach (f := 8) (s := 15) (l := 4) (by kernel_rfl) (upd_of rfl h)) (by rw [hun]; decide), fun h => (f16.out (upd_of rfl h)).past h1 (Nat.lt_of_lt_of_le lb2 hsz), fun h => (f17.out (upd_of rfl h)).past h1 (Nat.lt_of_lt_of_le lb3 hsz), trivial⟩
    · intro dd aa ww K hc hun hn hI hK
      obtain ⟨y24, y25, y26, y27, y28, y29, y30, y31, y32, y33, y34, y35, y36, y37, y38, ea, hb, hsz, xb1, pb1, xb2, pb2, xb3, pb3, f0, f1, f2, f3, f4, f5, f6, f7, f8, f9, f10, f11, f12, f13, f14, f15, f16, f17, _⟩ := hI
      try simp [Region.binds] at hn
      subst ea
      simp only [puts, Act.put, List.setIfInBounds_toArray, List.set_cons_zero, List.set_cons_succ]
      go_simp
      refine hK.out _ _ ?_
      exact ⟨y24, y25, y26, y27, y28, .pointer (some ⟨w.heap.size + 1, 0, none⟩), y30, y31, y32, y33, y34, y35, y36, y37, y38, by simp only [puts, Act.put, List.setIfInBounds_toArray, List.set_cons_zero, List.set_cons_succ], hb, hsz, xb1, fun h => (pb1.out (upd_off h)), xb2, fun h => (pb2.out (upd_off h)), xb3, fun h => (pb3.out (upd_off h)), fun h => (f0.out (upd_of rfl h)), fun h => (f1.out (upd_of rfl h)), fun h => (f2.out (upd_of rfl h)), fun h => (f3.out (upd_of rfl h)), fun h => (f4.out (upd_of rfl h)), fun _ => rfl, fun h => (f6.out (upd_of rfl h)), fun h => (f7.out (upd_of rfl h)), fun h => (f8.out (upd_of rfl h)), fun h => (f9.out (upd_of rfl h)), fun h => (f10.out (upd_of rfl h)), fun h => (f11.out (upd_of rfl h)), fun h => (f12.out (upd_of rfl h)), fun h => (f13.out (upd_of rfl h)), fun h => (f14.out (upd_of rfl h)), fun h => (f15.out (upd_of rfl h)), fun h => (f16.out (upd_of rfl h)), fun h => (f17.out (upd_of rfl h)), trivial⟩
    · intro dd aa ww K hc hun hn hI hK
      obtain ⟨y24, y25, y26, y27, y28, y29, y30, y31, y32, y33, y34, y35, y36, y37, y38, ea, hb, hsz, xb1, pb1, xb2, pb2, xb3, pb3, f0, f1, f2, f3, f4, f5, f6, f7, f8, f9, f10, f11, f12, f13, f14, f15, f16, f17, _⟩ := hI
      try simp [Region.binds] at hn
      have ex := f5.out (by simp [hn])
      subst ex
      have hs := hc.not (f := 8) (s := 16) (l := 6) (by kernel_rfl) hun
      have e0 := pb2.out hs 0 (by simp)
      simp only [List.getElem?_cons_zero, List.getElem?_cons_succ] at e0
      subst ea
      simp only [puts, Act.put, List.setIfInBounds_toArray, List.set_cons_zero, List.set_cons_succ]
      go_simp
      refine hK.out _ _ ?_
      exact ⟨y24, y25, y26, y27, y28, .pointer (some ⟨w.heap.size + 1, 0, none⟩), .bool b2, y31, y32, y33, y34, y35, y36, y37, y38, by simp only [puts, Act.put, List.setIfInBounds_toArray, List.set_cons_zero, List.set_cons_succ], hb, hsz, xb1, fun h => (pb1.out (upd_off h)), xb2, fun h => (pb2.out (upd_off h)), xb3, fun h => (pb3.out (upd_off h)), fun h => (f0.out (upd_of rfl h)), fun h => (f1.out (upd_of rfl h)), fun h => (f2.out (upd_of rfl h)), fun h => (f3.out (upd_of rfl h)), fun h => (f4.out (upd_of rfl h)), fun h => rfl, fun _ => rfl, fun h => (f7.out (upd_of rfl h)), fun h => (f8.out (upd_of rfl h)), fun h => (f9.out (upd_of rfl h)), fun h => (f10.out (upd_of rfl h)), fun h => (f11.out (upd_of rfl h)), fun h => (f12.out (upd_of rfl h)), fun h => (f13.out (upd_of rfl h)), fun h => (f14.out (upd_of rfl h)), fun h => (f15.out (upd_of rfl h)), fun h => (f16.out (upd_of rfl h)), fun h => (f17.out (upd_of rfl h)), trivial⟩
    · intro dd aa ww K hc hun hn hI hK
      obtain ⟨y24, y25, y26, y27, y28, y29, y30, y31, y32, y33, y34, y35, y36, y37, y38, ea, hb, hsz, xb1, pb1, xb2, pb2, xb3, pb3, f0, f1, f2, f3, f4, f5, f6, f7, f8, f9, f10, f11, f12, f13, f14, f15, f16, f17, _⟩ := hI
      try simp [Region.binds] at hn
      subst ea
      simp only [puts, Act.put, List.setIfInBounds_toArray, List.set_cons_zero, List.set_cons_succ]
      go_simp
      refine hK.out _ _ ?_
      exact ⟨y24, y25, y26, y27, y28, y29, y30, .pointer (some ⟨w.heap.size + 1, 1, none⟩), y32, y33, y34, y35, y36, y37, y38, by simp only [puts, Act.put, List.setIfInBounds_toArray, List.set_cons_zero, List.set_cons_succ], hb, hsz, xb1, fun h => (pb1.out (upd_off h)), xb2, fun h => (pb2.out (upd_off h)), xb3, fun h => (pb3.out (upd_off h)), fun h => (f0.out (upd_of rfl h)), fun h => (f1.out (upd_of rfl h)), fun h => (f2.out (upd_of rfl h)), fun h => (f3.out (upd_of rfl h)), fun h => (f4.out (upd_of rfl h)), fun h => (f5.out (upd_of rfl h)), fun h => (f6.out (upd_of rfl h)), fun _ => rfl, fun h => (f8.out (upd_of rfl h)), fun h => (f9.out (upd_of rfl h)), fun h => (f10.out (upd_of rfl h)), fun h => (f11.out (upd_of rfl h)), fun h => (f12.out (upd_of rfl h)), fun h => (f13.out (upd_of rfl h)), fun h => (f14.out (upd_of rfl h)), fun h => (f15.out (upd_of rfl h)), fun h => (f16.out (upd_of rfl h)), fun h => (f17.out (upd_of rfl h)), trivial⟩
    · intro dd aa ww K hc hun hn hI hK
      obtain ⟨y24, y25, y26, y27, y28, y29, y30, y31, y32, y33, y34, y35, y36, y37, y38, ea, hb, hsz, xb1, pb1, xb2, pb2, xb3, pb3, f0, f1, f2, f3, f4, f5, f6, f7, f8, f9, f10, f11, f12, f13, f14, f15, f16, f17, _⟩ := hI
      try simp [Region.binds] at hn
      have ex := f7.out (by simp [hn])
      subst ex
      have hs := hc.not (f := 8) (s := 16) (l := 8) (by kernel_rfl) hun
      have e1 := pb2.out hs 1 (by simp)
      simp only [List.getElem?_cons_zero, List.getElem?_cons_succ] at e1
      subst ea
      simp only [puts, Act.put, List.setIfInBounds_toArray, List.set_cons_zero, List.set_cons_succ]
      go_simp
      refine hK.out _ _ ?_
      exact ⟨y24, y25, y26, y27, y28, y29, y30, .pointer (some ⟨w.heap.size + 1, 1, none⟩), .slice a2 n2 c2, y33, y34, y35, y36, y37, y38, by simp only [puts, Act.put, List.setIfInBounds_toArray, List.set_cons_zero, List.set_cons_succ], hb, hsz, xb1, fun h => (pb1.out (upd_off h)), xb2, fun h => (pb2.out (upd_off h)), xb3, fun h => (pb3.out (upd_off h)), fun h => (f0.out (upd_of rfl h)), fun h => (f1.out (upd_of rfl h)), fun h => (f2.out (upd_of rfl h)), fun h => (f3.out (upd_of rfl h)), fun h => (f4.out (upd_of rfl h)), fun h => (f5.out (upd_of rfl h)), fun h => (f6.out (upd_of rfl h)), fun h => rfl, fun _ => rfl, fun h => (f9.out (upd_of rfl h)), fun h => (f10.out (upd_of rfl h)), fun h => (f11.out (upd_of rfl h)), fun h => (f12.out (upd_of rfl h)), fun h => (f13.out (upd_of rfl h)), fun h => (f14.out (upd_of rfl h)), fun h => (f15.out (upd_of rfl h)), fun h => (f16.out (upd_of rfl h)), fun h => (f17.out (upd_of rfl h)), trivial⟩
    · intro dd aa ww K hc hun hn hI hK
      obtain ⟨y24, y25, y26, y27, y28, y29, y30, y31, y32, y33, y34, y35, y36, y37, y38, ea, hb, hsz, xb1, pb1, xb2, pb2, xb3, pb3, f0, f1, f2, f3, f4, f5, f6, f7, f8, f9, f10, f11, f12, f13, f14, f15, f16, f17, _⟩ := hI
      try simp [Region.binds] at hn
      have ex := f6.out (by simp [hn])
      subst ex
      have ex := f8.out (by simp [hn])
      subst ex
      subst ea
      simp only [puts, Act.put, List.setIfInBounds_toArray, List.set_cons_zero, List.set_cons_succ]
      go_simp
      with_reducible refine (make_any _ _ _ _ l2 _ (G2.past hb) (by omega)).mono ?_
      rintro e w1 ⟨ahC, nhC, chC, rfl, hC, h1⟩
      rw [HY.out] at hC ⊢
      refine hK.out _ _ ?_
      exact ⟨y24, y25, y26, y27, y28, y29, .bool b2, y31, .slice a2 n2 c2, .agg #[.bool (neg (y)), .slice ahC nhC chC], y34, y35, y36, y37, y38, by simp only [puts, Act.put, List.setIfInBounds_toArray, List.set_cons_zero, List.set_cons_succ], below_later hb h1, Nat.le_trans hsz h1.size, xb1.past h1 (Nat.lt_of_lt_of_le lb1 hsz), fun h => (pb1.out (upd_off h)).past h1 (Nat.lt_of_lt_of_le lb1 hsz), xb2.past h1 (Nat.lt_of_lt_of_le lb2 hsz), fun h => (pb2.out (upd_off h)).past h1 (Nat.lt_of_lt_of_le lb2 hsz), xb3.past h1 (Nat.lt_of_lt_of_le lb3 hsz), fun h => (pb3.out (upd_off h)).past h1 (Nat.lt_of_lt_of_le lb3 hsz), fun h => (f0.out (upd_of rfl h)), fun h => (f1.out (upd_of rfl h)), fun h => (f2.out (upd_of rfl h)), fun h => (f3.out (upd_of rfl h)), fun h => (f4.out (upd_of rfl h)).past h1, fun h => (f5.out (upd_of rfl h)), fun h => rfl, fun h => (f7.out (upd_of rfl h)), fun h => rfl, fun _ => ⟨_, _, _, rfl, hC.mono hsz⟩, fun h => (f10.out (upd_of rfl h)), fun h => (f11.out (upd_of rfl h)), fun h => (f12.out (upd_of rfl h)), fun h => (f13.out (upd_of rfl h)), fun h => (f14.out (upd_of rfl h)).past h1, fun h => (f15.out (upd_of rfl h)).past h1 (Nat.lt_of_lt_of_le lb1 hsz), fun h => absurd (hc.reach (f := 8) (s := 16) (l := 9) (by kernel_rfl) (upd_of rfl h)) (by rw [hun]; decide), fun h => (f17.out (upd_of rfl h)).past h1 (Nat.lt_of_lt_of_le lb3 hsz), trivial⟩
    · intro dd aa ww K hc hun hn hI hK
      obtain ⟨y24, y25, y26, y27, y28, y29, y30, y31, y32, y33, y34, y35, y36, y37, y38, ea, hb, hsz, xb1, pb1, xb2, pb2, xb3, pb3, f0, f1, f2, f3, f4, f5, f6, f7, f8, f9, f10, f11, f12, f13, f14, f15, f16, f17, _⟩ := hI
      try simp [Region.binds] at hn
      subst ea
      simp only [puts, Act.put, List.setIfInBounds_toArray, List.set_cons_zero, List.set_cons_succ]
      go_simp
      refine hK.out _ _ ?_
      exact ⟨y24, y25, y26, y27, y28, y29, y30, y31, y32, y33, .pointer (some ⟨w.heap.size + 1 + 1, 0, none⟩), y35, y36, y37, y38, by simp only [puts, Act.put, List.setIfInBounds_toArray, List.set_cons_zero, List.set_cons_succ], hb, hsz, xb1, fun h => (pb1.out (upd_off h)), xb2, fun h => (pb2.out (upd_off h)), xb3, fun h => (pb3.out (upd_off h)), fun h => (f0.out (upd_of rfl h)), fun h => (f1.out (upd_of rfl h)), fun h => (f2.out (upd_of rfl h)), fun h => (f3.out (upd_of rfl h)), fun h => (f4.out (upd_of rfl h)), fun h => (f5.out (upd_of rfl h)), fun h => (f6.out (upd_of rfl h)), fun h => (f7.out (upd_of rfl h)), fun h => (f8.out (upd_of rfl h)), fun h => (f9.out (upd_of rfl h)), fun _ => rfl, fun h => (f11.out (upd_of rfl h)), fun h => (f12.out (upd_of rfl h)), fun h => (f13.out (upd_of rfl h)), fun h => (f14.out (upd_of rfl h)), fun h => (f15.out (upd_of rfl h)), fun h => (f16.out (upd_of rfl h)), fun h => (f17.out (upd_of rfl h)), trivial⟩
    · intro dd aa ww K hc hun hn hI hK
      obtain ⟨y24, y25, y26, y27, y28, y29, y30, y31, y32, y33, y34, y35, y36, y37, y38, ea, hb, hsz, xb1, pb1, xb2, pb2, xb3, pb3, f0, f1, f2, f3, f4, f5, f6, f7, f8, f9, f10, f11, f12, f13, f14, f15, f16, f17, _⟩ := hI
      try simp [Region.binds] at hn
      have ex := f10.out (by simp [hn])
      subst ex
      have hs := hc.not (f := 8) (s := 17) (l := 11) (by kernel_rfl) hun
      have e0 := pb3.out hs 0 (by simp)
      simp only [List.getElem?_cons_zero, List.getElem?_cons_succ] at e0
      subst ea
      simp only [puts, Act.put, List.setIfInBounds_toArray, List.set_cons_zero, List.set_cons_succ]
      go_simp
      refine hK.out _ _ ?_
      exact ⟨y24, y25, y26, y27, y28, y29, y30, y31, y32, y33, .pointer (some ⟨w.heap.size + 1 + 1, 0, none⟩), .bool b3, y36, y37, y38, by simp only [puts, Act.put, List.setIfInBounds_toArray, List.set_cons_zero, List.set_cons_succ], hb, hsz, xb1, fun h => (pb1.out (upd_off h)), xb2, fun h => (pb2.out (upd_off h)), xb3, fun h => (pb3.out (upd_off h)), fun h => (f0.out (upd_of rfl h)), fun h => (f1.out (upd_of rfl h)), fun h => (f2.out (upd_of rfl h)), fun h => (f3.out (upd_of rfl h)), fun h => (f4.out (upd_of rfl h)), fun h => (f5.out (upd_of rfl h)), fun h => (f6.out (upd_of rfl h)), fun h => (f7.out (upd_of rfl h)), fun h => (f8.out (upd_of rfl h)), fun h => (f9.out (upd_of rfl h)), fun h => rfl, fun _ => rfl, fun h => (f12.out (upd_of rfl h)), fun h => (f13.out (upd_of rfl h)), fun h => (f14.out (upd_of rfl h)), fun h => (f15.out (upd_of rfl h)), fun h => (f16.out (upd_of rfl h)), fun h => (f17.out (upd_of rfl h)), trivial⟩
    · intro dd aa ww K hc hun hn hI hK
      obtain ⟨y24, y25, y26, y27, y28, y29, y30, y31, y32, y33, y34, y35, y36, y37, y38, ea, hb, hsz, xb1, pb1, xb2, pb2, xb3, pb3, f0, f1, f2, f3, f4, f5, f6, f7, f8, f9, f10, f11, f12, f13, f14, f15, f16, f17, _⟩ := hI
      try simp [Region.binds] at hn
      subst ea
      simp only [puts, Act.put, List.setIfInBounds_toArray, List.set_cons_zero, List.set_cons_succ]
      go_simp
      refine hK.out _ _ ?_
      exact ⟨y24, y25, y26, y27, y28, y29, y30, y31, y32, y33, y34, y35, .pointer (some ⟨w.heap.size + 1 + 1, 1, none⟩), y37, y38, by simp only [puts, Act.put, List.setIfInBounds_toArray, List.set_cons_zero, List.set_cons_succ], hb, hsz, xb1, fun h => (pb1.out (upd_off h)), xb2, fun h => (pb2.out (upd_off h)), xb3, fun h => (pb3.out (upd_off h)), fun h => (f0.out (upd_of rfl h)), fun h => (f1.out (upd_of rfl h)), fun h => (f2.out (upd_of rfl h)), fun h => (f3.out (upd_of rfl h)), fun h => (f4.out (upd_of rfl h)), fun h => (f5.out (upd_of rfl h)), fun h => (f6.out (upd_of rfl h)), fun h => (f7.out (upd_of rfl h)), fun h => (f8.out (upd_of rfl h)), fun h => (f9.out (upd_of rfl h)), fun h => (f10.out (upd_of rfl h)), fun h => (f11.out (upd_of rfl h)), fun _ => rfl, fun h => (f13.out (upd_of rfl h)), fun h => (f14.out (upd_of rfl h)), fun h => (f15.out (upd_of rfl h)), fun h => (f16.out (upd_of rfl h)), fun h => (f17.out (upd_of rfl h)), trivial⟩
    · intro dd aa ww K hc hun hn hI hK
      obtain ⟨y24, y25, y26, y27, y28, y29, y30, y31, y32, y33, y34, y35, y36, y37, y38, ea, hb, hsz, xb1, pb1, xb2, pb2, xb3, pb3, f0, f1, f2, f3, f4, f5, f6, f7, f8, f9, f10, f11, f12, f13, f14, f15, f16, f17, _⟩ := hI
      try simp [Region.binds] at hn
      have ex := f12.out (by simp [hn])
      subst ex
      have hs := hc.not (f := 8) (s := 17) (l := 13) (by kernel_rfl) hun
      have e1 := pb3.out hs 1 (by simp)
      simp only [List.getElem?_cons_zero, List.getElem?_cons_succ] at e1
      subst ea
      simp only [puts, Act.put, List.setIfInBounds_toArray, List.set_cons_zero, List.set_cons_succ]
      go_simp
      refine hK.out _ _ ?_
      exact ⟨y24, y25, y26, y27, y28, y29, y30, y31, y32, y33, y34, y35, .pointer (some ⟨w.heap.size + 1 + 1, 1, none⟩), .slice a3 n3 c3, y38, by simp only [puts, Act.put, List.setIfInBounds_toArray, List.set_cons_zero, List.set_cons_succ], hb, hsz, xb1, fun h => (pb1.out (upd_off h)), xb2, fun h => (pb2.out (upd_off h)), xb3, fun h => (pb3.out (upd_off h)), fun h => (f0.out (upd_of rfl h)), fun h => (f1.out (upd_of rfl h)), fun h => (f2.out (upd_of rfl h)), fun h => (f3.out (upd_of rfl h)), fun h => (f4.out (upd_of rfl h)), fun h => (f5.out (upd_of rfl h)), fun h => (f6.out (upd_of rfl h)), fun h => (f7.out (upd_of rfl h)), fun h => (f8.out (upd_of rfl h)), fun h => (f9.out (upd_of rfl h)), fun h => (f10.out (upd_of rfl h)), fun h => (f11.out (upd_of rfl h)), fun h => rfl, fun _ => rfl, fun h => (f14.out (upd_of rfl h)), fun h => (f15.out (upd_of rfl h)), fun h => (f16.out (upd_of rfl h)), fun h => (f17.out (upd_of rfl h)), trivial⟩
    · intro dd aa ww K hc hun hn hI hK
      obtain ⟨y24, y25, y26, y27, y28, y29, y30, y31, y32, y33, y34, y35, y36, y37, y38, ea, hb, hsz, xb1, pb1, xb2, pb2, xb3, pb3, f0, f1, f2, f3, f4, f5, f6, f7, f8, f9, f10, f11, f12, f13, f14, f15, f16, f17, _⟩ := hI
      try simp [Region.binds] at hn
      have ex := f11.out (by simp [hn])
      subst ex
      have ex := f13.out (by simp [hn])
      subst ex
      subst ea
      simp only [puts, Act.put, List.setIfInBounds_toArray, List.set_cons_zero, List.set_cons_succ]
      go_simp
      with_reducible refine (make_any _ _ _ _ l3 _ (G3.past hb) (by omega)).mono ?_
      rintro e w1 ⟨ahD, nhD, chD, rfl, hD, h1⟩
      rw [HZ.out] at hD ⊢
      refine hK.out _ _ ?_
      exact ⟨y24, y25, y26, y27, y28, y29, y30, y31, y32, y33, y34, .bool b3, y36, .slice a3 n3 c3, .agg #[.bool (neg (z)), .slice ahD nhD chD], by simp only [puts, Act.put, List.setIfInBounds_toArray, List.set_cons_zero, List.set_cons_succ], below_later hb h1, Nat.le_trans hsz h1.size, xb1.past h1 (Nat.lt_of_lt_of_le lb1 hsz), fun h => (pb1.out (upd_off h)).past h1 (Nat.lt_of_lt_of_le lb1 hsz), xb2.past h1 (Nat.lt_of_lt_of_le lb2 hsz), fun h => (pb2.out (upd_off h)).past h1 (Nat.lt_of_lt_of_le lb2 hsz), xb3.past h1 (Nat.lt_of_lt_of_le lb3 hsz), fun h => (pb3.out (upd_off h)).past h1 (Nat.lt_of_lt_of_le lb3 hsz), fun h => (f0.out (upd_of rfl h)), fun h => (f1.out (upd_of rfl h)), fun h => (f2.out (upd_of rfl h)), fun h => (f3.out (upd_of rfl h)), fun h => (f4.out (upd_of rfl h)).past h1, fun h => (f5.out (upd_of rfl h)), fun h => (f6.out (upd_of rfl h)), fun h => (f7.out (upd_of rfl h)), fun h => (f8.out (upd_of rfl h)), fun h => (f9.out (upd_of rfl h)).past h1, fun h => (f10.out (upd_of rfl h)), fun h => rfl, fun h => (f12.out (upd_of rfl h)), fun h => rfl, fun _ => ⟨_, _, _, rfl, hD.mono hsz⟩, fun h => (f15.out (upd_of rfl h)).past h1 (Nat.lt_of_lt_of_le lb1 hsz), fun h => (f16.out (upd_of rfl h)).past h1 (Nat.lt_of_lt_of_le lb2 hsz), fun h => absurd (hc.reach (f := 8) (s := 17) (l := 14) (by kernel_rfl) (upd_of rfl h)) (by rw [hun]; decide), trivial⟩
    · intro dd aa ww K hc hun hn hI hK
      obtain ⟨y24, y25, y26, y27, y28, y29, y30, y31, y32, y33, y34, y35, y36, y37, y38, ea, hb, hsz, xb1, pb1, xb2, pb2, xb3, pb3, f0, f1, f2, f3, f4, f5, f6, f7, f8, f9, f10, f11, f12, f13, f14, f15, f16, f17, _⟩ := hI
      try simp [Region.binds] at hn
      obtain ⟨ahA, nhA, chA, ex, hA⟩ := f4.out (by simp [hn])
      subst ex
      have x3 := xb1
      obtain ⟨v0, v1, z0, z1, z2, z3, _, _⟩ := x3.two
      have hv : ∀ v ∈ ([.bool (neg (x)), .slice ahA nhA chA] : List Value), notU v := by simp [notU_bool, notU_slice, notU_i64]
      subst ea
      simp only [puts, Act.put, List.setIfInBounds_toArray, List.set_cons_zero, List.set_cons_succ]
      go_simp
      refine hK.out _ _ ?_
      exact ⟨y24, y25, y26, y27, .agg #[.bool (neg (x)), .slice ahA nhA chA], y29, y30, y31, y32, y33, y34, y35, y36, y37, y38, by simp only [puts, Act.put, List.setIfInBounds_toArray, List.set_cons_zero, List.set_cons_succ], hb.trans (below_setCells _ _ (by omega) [.bool (neg (x)), .slice ahA nhA chA] 0 _), (by simpa using hsz), BoxAt.sets [.bool (neg (x)), .slice ahA nhA chA] _ 0 _ xb1 hv, fun h => absurd h (by simp [upd]), BoxAt.sets [.bool (neg (x)), .slice ahA nhA chA] _ 0 _ xb2 hv, fun h => Cells.sets (by omega) [.bool (neg (x)), .slice ahA nhA chA] 0 _ (pb2.out (upd_off h)), BoxAt.sets [.bool (neg (x)), .slice ahA nhA chA] _ 0 _ xb3 hv, fun h => Cells.sets (by omega) [.bool (neg (x)), .slice ahA nhA chA] 0 _ (pb3.out (upd_off h)), fun h => (f0.out (upd_of rfl h)), fun h => (f1.out (upd_of rfl h)), fun h => (f2.out (upd_of rfl h)), fun h => (f3.out (upd_of rfl h)), fun h => ((f4.out (upd_of rfl h)).setsOff lb1 [.bool (neg (x)), .slice ahA nhA chA]), fun h => (f5.out (upd_of rfl h)), fun h => (f6.out (upd_of rfl h)), fun h => (f7.out (upd_of rfl h)), fun h => (f8.out (upd_of rfl h)), fun h => ((f9.out (upd_of rfl h)).setsOff lb1 [.bool (neg (x)), .slice ahA nhA chA]), fun h => (f10.out (upd_of rfl h)), fun h => (f11.out (upd_of rfl h)), fun h => (f12.out (upd_of rfl h)), fun h => (f13.out (upd_of rfl h)), fun h => ((f14.out (upd_of rfl h)).setsOff lb1 [.bool (neg (x)), .slice ahA nhA chA]), fun _ => ⟨[.bool (neg (x)), .slice ahA nhA chA], rfl, Cells.new x3 [.bool (neg (x)), .slice ahA nhA chA] (by simp)⟩, fun h => (f16.out (upd_of rfl h)).sets (by omega) [.bool (neg (x)), .slice ahA nhA chA], fun h => (f17.out (upd_of rfl h)).sets (by omega) [.bool (neg (x)), .slice ahA nhA chA], trivial⟩
    · intro dd aa ww K hc hun hn hI hK
      obtain ⟨y24, y25, y26, y27, y28, y29, y30, y31, y32, y33, y34, y35, y36, y37, y38, ea, hb, hsz, xb1, pb1, xb2, pb2, xb3, pb3, f0, f1, f2, f3, f4, f5, f6, f7, f8, f9, f10, f11, f12, f13, f14, f15, f16, f17, _⟩ := hI
      try simp [Region.binds] at hn
      obtain ⟨ahC, nhC, chC, ex, hC⟩ := f9.out (by simp [hn])
      subst ex
      have x3 := xb2
      obtain ⟨v0, v1, z0, z1, z2, z3, _, _⟩ := x3.two
      have hv : ∀ v ∈ ([.bool (neg (y)), .slice ahC nhC chC] : List Value), notU v := by simp [notU_bool, notU_slice, notU_i64]
      subst ea
      simp only [puts, Act.put, List.setIfInBounds_toArray, List.set_cons_zero, List.set_cons_succ]
      go_simp
      refine hK.out _ _ ?_
      exact ⟨y24, y25, y26, y27, y28, y29, y30, y31, y32, .agg #[.bool (neg (y)), .slice ahC nhC chC], y34, y35, y36, y37, y38, by simp only [puts, Act.put, List.setIfInBounds_toArray, List.set_cons_zero, List.set_cons_succ], hb.trans (below_setCells _ _ (by omega) [.bool (neg (y)), .slice ahC nhC chC] 0 _), (by simpa using hsz), BoxAt.sets [.bool (neg (y)), .slice ahC nhC chC] _ 0 _ xb1 hv, fun h => Cells.sets (by omega) [.bool (neg (y)), .slice ahC nhC chC] 0 _ (pb1.out (upd_off h)), BoxAt.sets [.bool (neg (y)), .slice ahC nhC chC] _ 0 _ xb2 hv, fun h => absurd h (by simp [upd]), BoxAt.sets [.bool (neg (y)), .slice ahC nhC chC] _ 0 _ xb3 hv, fun h => Cells.sets (by omega) [.bool (neg (y)), .slice ahC nhC chC] 0 _ (pb3.out (upd_off h)), fun h => (f0.out (upd_of rfl h)), fun h => (f1.out (upd_of rfl h)), fun h => (f2.out (upd_of rfl h)), fun h => (f3.out (upd_of rfl h)), fun h => ((f4.out (upd_of rfl h)).setsOff lb2 [.bool (neg (y)), .slice ahC nhC chC]), fun h => (f5.out (upd_of rfl h)), fun h => (f6.out (upd_of rfl h)), fun h => (f7.out (upd_of rfl h)), fun h => (f8.out (upd_of rfl h)), fun h => ((f9.out (upd_of rfl h)).setsOff lb2 [.bool (neg (y)), .slice ahC nhC chC]), fun h => (f10.out (upd_of rfl h)), fun h => (f11.out (upd_of rfl h)), fun h => (f12.out (upd_of rfl h)), fun h => (f13.out (upd_of rfl h)), fun h => ((f14.out (upd_of rfl h)).setsOff lb2 [.bool (neg (y)), .slice ahC nhC chC]), fun h => (f15.out (upd_of rfl h)).sets (by omega) [.bool (neg (y)), .slice ahC nhC chC], fun _ => ⟨[.bool (neg (y)), .slice ahC nhC chC], rfl, Cells.new x3 [.bool (neg (y)), .slice ahC nhC chC] (by simp)⟩, fun h => (f17.out (upd_of rfl h)).sets (by omega) [.bool (neg (y)), .slice ahC nhC chC], trivial⟩
    · intro dd aa ww K hc hun hn hI hK
      obtain ⟨y24, y25, y26, y27, y28, y29, y30, y31, y32, y33, y34, y35, y36, y37, y38, ea, hb, hsz, xb1, pb1, xb2, pb2, xb3, pb3, f0, f1, f2, f3, f4, f5, f6, f7, f8, f9, f10, f11, f12, f13, f14, f15, f16, f17, _⟩ := hI
      try simp [Region.binds] at hn
      obtain ⟨ahD, nhD, chD, ex, hD⟩ := f14.out (by simp [hn])
      subst ex
      have x3 := xb3
      obtain ⟨v0, v1, z0, z1, z2, z3, _, _⟩ := x3.two
      have hv : ∀ v ∈ ([.bool (neg (z)), .slice ahD nhD chD] : List Value), notU v := by simp [notU_bool, notU_slice, notU_i64]
      subst ea
      simp only [puts, Act.put, List.setIfInBounds_toArray, List.set_cons_zero, List.set_cons_succ]
      go_simp
      refine hK.out _ _ ?_
      exact ⟨y24, y25, y26, y27, y28, y29, y30, y31, y32, y33, y34, y35, y36, y37, .agg #[.bool (neg (z)), .slice ahD nhD chD], by simp only [puts, Act.put, List.setIfInBounds_toArray, List.set_cons_zero, List.set_cons_succ], hb.trans (below_setCells _ _ (by omega) [.bool (neg (z)), .slice ahD nhD chD] 0 _), (by simpa using hsz), BoxAt.sets [.bool (neg (z)), .slice ahD nhD chD] _ 0 _ xb1 hv, fun h => Cells.sets (by omega) [.bool (neg (z)), .slice ahD nhD chD] 0 _ (pb1.out (upd_off h)), BoxAt.sets [.bool (neg (z)), .slice ahD nhD chD] _ 0 _ xb2 hv, fun h => Cells.sets (by omega) [.bool (neg (z)), .slice ahD nhD chD] 0 _ (pb2.out (upd_off h)), BoxAt.sets [.bool (neg (z)), .slice ahD nhD chD] _ 0 _ xb3 hv, fun h => absurd h (by simp [upd]), fun h => (f0.out (upd_of rfl h)), fun h => (f1.out (upd_of rfl h)), fun h => (f2.out (upd_of rfl h)), fun h => (f3.out (upd_of rfl h)), fun h => ((f4.out (upd_of rfl h)).setsOff lb3 [.bool (neg (z)), .slice ahD nhD chD]), fun h => (f5.out (upd_of rfl h)), fun h => (f6.out (upd_of rfl h)), fun h => (f7.out (upd_of rfl h)), fun h => (f8.out (upd_of rfl h)), fun h => ((f9.out (upd_of rfl h)).setsOff lb3 [.bool (neg (z)), .slice ahD nhD chD]), fun h => (f10.out (upd_of rfl h)), fun h => (f11.out (upd_of rfl h)), fun h => (f12.out (upd_of rfl h)), fun h => (f13.out (upd_of rfl h)), fun h => ((f14.out (upd_of rfl h)).setsOff lb3 [.bool (neg (z)), .slice ahD nhD chD]), fun h => (f15.out (upd_of rfl h)).sets (by omega) [.bool (neg (z)), .slice ahD nhD chD], fun h => (f16.out (upd_of rfl h)).sets (by omega) [.bool (neg (z)), .slice ahD nhD chD], fun _ => ⟨[.bool (neg (z)), .slice ahD nhD chD], rfl, Cells.new x3 [.bool (neg (z)), .slice ahD nhD chD] (by simp)⟩, trivial⟩
  intro dd aa w5 hd hI
  obtain ⟨y24, y25, y26, y27, y28, y29, y30, y31, y32, y33, y34, y35, y36, y37, y38, ea, hb, hsz, xb1, pb1, xb2, pb2, xb3, pb3, f0, f1, f2, f3, f4, f5, f6, f7, f8, f9, f10, f11, f12, f13, f14, f15, f16, f17, _⟩ := hI
  have ex := f0.out (hd 0 (by simp))
  subst ex
  have ex := f1.out (hd 1 (by simp))
  subst ex
  have ex := f2.out (hd 2 (by simp))
  subst ex
  have ex := f3.out (hd 3 (by simp))
  subst ex
  obtain ⟨ahA, nhA, chA, ex, hA⟩ := f4.out (hd 4 (by simp))
  subst ex
  have ex := f5.out (hd 5 (by simp))
  subst ex
  have ex := f6.out (hd 6 (by simp))
  subst ex
  have ex := f7.out (hd 7 (by simp))
  subst ex
  have ex := f8.out (hd 8 (by simp))
  subst ex
  obtain ⟨ahC, nhC, chC, ex, hC⟩ := f9.out (hd 9 (by simp))
  subst ex
  have ex := f10.out (hd 10 (by simp))
  subst ex
  have ex := f11.out (hd 11 (by simp))
  subst ex
  have ex := f12.out (hd 12 (by simp))
  subst ex
  have ex := f13.out (hd 13 (by simp))
  subst ex
  obtain ⟨ahD, nhD, chD, ex, hD⟩ := f14.out (hd 14 (by simp))
  subst ex
  obtain ⟨vs15, e, h15⟩ := f15.out (hd 15 (by simp))
  cases e
  obtain ⟨vs16, e, h16⟩ := f16.out (hd 16 (by simp))
  cases e
  obtain ⟨vs17, e, h17⟩ := f17.out (hd 17 (by simp))
  cases e
  have lb1 := Nat.lt_of_lt_of_le lb1 hsz
  have qb10 := h15 0 (by simp)
  simp only [List.getElem?_cons_zero, List.getElem?_cons_succ] at qb10
  have qb11 := h15 1 (by simp)
  simp only [List.getElem?_cons_zero, List.getElem?_cons_succ] at qb11
  have lb2 := Nat.lt_of_lt_of_le lb2 hsz
  have qb20 := h16 0 (by simp)
  simp only [List.getElem?_cons_zero, List.getElem?_cons_succ] at qb20
  have qb21 := h16 1 (by simp)
  simp only [List.getElem?_cons_zero, List.getElem?_cons_succ] at qb21
  have lb3 := Nat.lt_of_lt_of_le lb3 hsz
  have qb30 := h17 0 (by simp)
  simp only [List.getElem?_cons_zero, List.getElem?_cons_succ] at qb30
  have qb31 := h17 1 (by simp)
  simp only [List.getElem?_cons_zero, List.getElem?_cons_succ] at qb31
  subst ea
  simp only [puts, Act.put, List.setIfInBounds_toArray, List.set_cons_zero, List.set_cons_succ]
  have g1 := G1.past hb
  have g2 := G2.past hb
  have g3 := G3.past hb
  have hB := hb
  clear pb1
  clear pb2
  clear pb3
  clear hb hd
  have shA : nhA ≤ 10 := Nat.le_trans (Nat.le_of_eq hA.len.symm) kx
  have shC : nhC ≤ 10 := Nat.le_trans (Nat.le_of_eq hC.len.symm) ky
  have shD : nhD ≤ 10 := Nat.le_trans (Nat.le_of_eq hD.len.symm) kz
  go_wp2_with fail
  with_reducible refine (scmp_c hA.toNatAt hC.toNatAt (by omega) (by omega)).mono ?_
  rintro e w6 ⟨rfl, hb⟩
  have hA := hA.past hb
  have hC := hC.past hb
  have hD := hD.past hb
  have qb10 := (hb.cell (p := ⟨w.heap.size, 0, none⟩) lb1).trans qb10
  have qb11 := (hb.cell (p := ⟨w.heap.size, 1, none⟩) lb1).trans qb11
  have xb1 := xb1.past hb lb1
  have lb1 := Nat.lt_of_lt_of_le lb1 hb.size
  have qb20 := (hb.cell (p := ⟨w.heap.size + 1, 0, none⟩) lb2).trans qb20
  have qb21 := (hb.cell (p := ⟨w.heap.size + 1, 1, none⟩) lb2).trans qb21
  have xb2 := xb2.past hb lb2
  have lb2 := Nat.lt_of_lt_of_le lb2 hb.size
  have qb30 := (hb.cell (p := ⟨w.heap.size + 1 + 1, 0, none⟩) lb3).trans qb30
  have qb31 := (hb.cell (p := ⟨w.heap.size + 1 + 1, 1, none⟩) lb3).trans qb31
  have xb3 := xb3.past hb lb3
  have lb3 := Nat.lt_of_lt_of_le lb3 hb.size
  have hB := below_later hB hb
  clear hb
  rw [SXY.out]
  go_wp2_with fail
  with_reducible refine (scmp_c hC.toNatAt hA.toNatAt (by omega) (by omega)).mono ?_
  rintro e w7 ⟨rfl, hb⟩
  have hA := hA.past hb
  have hC := hC.past hb
  have hD := hD.past hb
  have qb10 := (hb.cell (p := ⟨w.heap.size, 0, none⟩) lb1).trans qb10
  have qb11 := (hb.cell (p := ⟨w.heap.size, 1, none⟩) lb1).trans qb11
  have xb1 := xb1.past hb lb1
  have lb1 := Nat.lt_of_lt_of_le lb1 hb.size
  have qb20 := (hb.cell (p := ⟨w.heap.size + 1, 0, none⟩) lb2).trans qb20
  have qb21 := (hb.cell (p := ⟨w.heap.size + 1, 1, none⟩) lb2).trans qb21
  have xb2 := xb2.past hb lb2
  have lb2 := Nat.lt_of_lt_of_le lb2 hb.size
  have qb30 := (hb.cell (p := ⟨w.heap.size + 1 + 1, 0, none⟩) lb3).trans qb30
  have qb31 := (hb.cell (p := ⟨w.heap.size + 1 + 1, 1, none⟩) lb3).trans qb31
  have xb3 := xb3.past hb lb3
  have lb3 := Nat.lt_of_lt_of_le lb3 hb.size
  have hB := below_later hB hb
  clear hb
  rw [SYX.out]
  go_wp2_with fail
  with_reducible refine (sameInt_any hA.toNatAt hC.toNatAt).mono ?_
  rintro e w8 ⟨rfl, hb⟩
  have hA := hA.past hb
  have hC := hC.past hb
  have hD := hD.past hb
  have qb10 := (hb.cell (p := ⟨w.heap.size, 0, none⟩) lb1).trans qb10
  have qb11 := (hb.cell (p := ⟨w.heap.size, 1, none⟩) lb1).trans qb11
  have xb1 := xb1.past hb lb1
  have lb1 := Nat.lt_of_lt_of_le lb1 hb.size
  have qb20 := (hb.cell (p := ⟨w.heap.size + 1, 0, none⟩) lb2).trans qb20
  have qb21 := (hb.cell (p := ⟨w.heap.size + 1, 1, none⟩) lb2).trans qb21
  have xb2 := xb2.past hb lb2
  have lb2 := Nat.lt_of_lt_of_le lb2 hb.size
  have qb30 := (hb.cell (p := ⟨w.heap.size + 1 + 1, 0, none⟩) lb3).trans qb30
  have qb31 := (hb.cell (p := ⟨w.heap.size + 1 + 1, 1, none⟩) lb3).trans qb31
  have xb3 := xb3.past hb lb3
  have lb3 := Nat.lt_of_lt_of_le lb3 hb.size
  have hB := below_later hB hb
  clear hb
  rw [EQ.out]
  go_wp2_with fail
  go_region_held3 (fun w' => (w'.cell? ⟨w.heap.size, 0, none⟩ = some (.bool (neg (x))) ∧ w'.cell? ⟨w.heap.size, 1, none⟩ = some (.slice ahA nhA chA) ∧ w'.cell? ⟨w.heap.size + 1, 0, none⟩ = some (.bool (neg (y))) ∧ w'.cell? ⟨w.heap.size + 1, 1, none⟩ = some (.slice ahC nhC chC) ∧ w'.cell? ⟨w.heap.size + 1 + 1, 0, none⟩ = some (.bool (neg (z))) ∧ w'.cell? ⟨w.heap.size + 1 + 1, 1, none⟩ = some (.slice ahD nhD chD)) ∧ Below w8.heap.size w8 w')
    (first
      | exact ⟨⟨((Below.refl w8.heap.size w8).drew.cell (p := ⟨w.heap.size, 0, none⟩) lb1).trans qb10, ((Below.refl w8.heap.size w8).drew.cell (p := ⟨w.heap.size, 1, none⟩) lb1).trans qb11, ((Below.refl w8.heap.size w8).drew.cell (p := ⟨w.heap.size + 1, 0, none⟩) lb2).trans qb20, ((Below.refl w8.heap.size w8).drew.cell (p := ⟨w.heap.size + 1, 1, none⟩) lb2).trans qb21, ((Below.refl w8.heap.size w8).drew.cell (p := ⟨w.heap.size + 1 + 1, 0, none⟩) lb3).trans qb30, ((Below.refl w8.heap.size w8).drew.cell (p := ⟨w.heap.size + 1 + 1, 1, none⟩) lb3).trans qb31⟩, (Below.refl _ _).drew⟩
      | (rename _ ∧ Below w8.heap.size w8 _ => hS
         first
           | exact ⟨⟨((below_later hS.2 hbw17).cell (p := ⟨w.heap.size, 0, none⟩) lb1).trans qb10, ((below_later hS.2 hbw17).cell (p := ⟨w.heap.size, 1, none⟩) lb1).trans qb11, ((below_later hS.2 hbw17).cell (p := ⟨w.heap.size + 1, 0, none⟩) lb2).trans qb20, ((below_later hS.2 hbw17).cell (p := ⟨w.heap.size + 1, 1, none⟩) lb2).trans qb21, ((below_later hS.2 hbw17).cell (p := ⟨w.heap.size + 1 + 1, 0, none⟩) lb3).trans qb30, ((below_later hS.2 hbw17).cell (p := ⟨w.heap.size + 1 + 1, 1, none⟩) lb3).trans qb31⟩, below_later hS.2 hbw17⟩
           | exact ⟨⟨((below_later hS.2 hbw16).cell (p := ⟨w.heap.size, 0, none⟩) lb1).trans qb10, ((below_later hS.2 hbw16).cell (p := ⟨w.heap.size, 1, none⟩) lb1).trans qb11, ((below_later hS.2 hbw16).cell (p := ⟨w.heap.size + 1, 0, none⟩) lb2).trans qb20, ((below_later hS.2 hbw16).cell (p := ⟨w.heap.size + 1, 1, none⟩) lb2).trans qb21, ((below_later hS.2 hbw16).cell (p := ⟨w.heap.size + 1 + 1, 0, none⟩) lb3).trans qb30, ((below_later hS.2 hbw16).cell (p := ⟨w.heap.size + 1 + 1, 1, none⟩) lb3).trans qb31⟩, below_later hS.2 hbw16⟩
           | exact ⟨⟨((below_later hS.2 hbw15).cell (p := ⟨w.heap.size, 0, none⟩) lb1).trans qb10, ((below_later hS.2 hbw15).cell (p := ⟨w.heap.size, 1, none⟩) lb1).trans qb11, ((below_later hS.2 hbw15).cell (p := ⟨w.heap.size + 1, 0, none⟩) lb2).trans qb20, ((below_later hS.2 hbw15).cell (p := ⟨w.heap.size + 1, 1, none⟩) lb2).trans qb21, ((below_later hS.2 hbw15).cell (p := ⟨w.heap.size + 1 + 1, 0, none⟩) lb3).trans qb30, ((below_later hS.2 hbw15).cell (p := ⟨w.heap.size + 1 + 1, 1, none⟩) lb3).trans qb31⟩, below_later hS.2 hbw15⟩
           | exact ⟨⟨((below_later hS.2 hbw14).cell (p := ⟨w.heap.size, 0, none⟩) lb1).trans qb10, ((below_later hS.2 hbw14).cell (p := ⟨w.heap.size, 1, none⟩) lb1).trans qb11, ((below_later hS.2 hbw14).cell (p := ⟨w.heap.size + 1, 0, none⟩) lb2).trans qb20, ((below_later hS.2 hbw14).cell (p := ⟨w.heap.size + 1, 1, none⟩) lb2).trans qb21, ((below_later hS.2 hbw14).cell (p := ⟨w.heap.size + 1 + 1, 0, none⟩) lb3).trans qb30, ((below_later hS.2 hbw14).cell (p := ⟨w.heap.size + 1 + 1, 1, none⟩) lb3).trans qb31⟩, below_later hS.2 hbw14⟩
           | exact ⟨⟨((below_later hS.2 hbw13).cell (p := ⟨w.heap.size, 0, none⟩) lb1).trans qb10, ((below_later hS.2 hbw13).cell (p := ⟨w.heap.size, 1, none⟩) lb1).trans qb11, ((below_later hS.2 hbw13).cell (p := ⟨w.heap.size + 1, 0, none⟩) lb2).trans qb20, ((below_later hS.2 hbw13).cell (p := ⟨w.heap.size + 1, 1, none⟩) lb2).trans qb21, ((below_later hS.2 hbw13).cell (p := ⟨w.heap.size + 1 + 1, 0, none⟩) lb3).trans qb30, ((below_later hS.2 hbw13).cell (p := ⟨w.heap.size + 1 + 1, 1, none⟩) lb3).trans qb31⟩, below_later hS.2 hbw13⟩
           | exact ⟨⟨((below_later hS.2 hbw12).cell (p := ⟨w.heap.size, 0, none⟩) lb1).trans qb10, ((below_later hS.2 hbw12).cell (p := ⟨w.heap.size, 1, none⟩) lb1).trans qb11, ((below_later hS.2 hbw12).cell (p := ⟨w.heap.size + 1, 0, none⟩) lb2).trans qb20, ((below_later hS.2 hbw12).cell (p := ⟨w.heap.size + 1, 1, none⟩) lb2).trans qb21, ((below_later hS.2 hbw12).cell (p := ⟨w.heap.size + 1 + 1, 0, none⟩) lb3).trans qb30, ((below_later hS.2 hbw12).cell (p := ⟨w.heap.size + 1 + 1, 1, none⟩) lb3).trans qb31⟩, below_later hS.2 hbw12⟩
           | exact ⟨⟨((below_later hS.2 hbw11).cell (p := ⟨w.heap.size, 0, none⟩) lb1).trans qb10, ((below_later hS.2 hbw11).cell (p := ⟨w.heap.size, 1, none⟩) lb1).trans qb11, ((below_later hS.2 hbw11).cell (p := ⟨w.heap.size + 1, 0, none⟩) lb2).trans qb20, ((below_later hS.2 hbw11).cell (p := ⟨w.heap.size + 1, 1, none⟩) lb2).trans qb21, ((below_later hS.2 hbw11).cell (p := ⟨w.heap.size + 1 + 1, 0, none⟩) lb3).trans qb30, ((below_later hS.2 hbw11).cell (p := ⟨w.heap.size + 1 + 1, 1, none⟩) lb3).trans qb31⟩, below_later hS.2 hbw11⟩
           | exact ⟨⟨((below_later hS.2 hbw10).cell (p := ⟨w.heap.size, 0, none⟩) lb1).trans qb10, ((below_later hS.2 hbw10).cell (p := ⟨w.heap.size, 1, none⟩) lb1).trans qb11, ((below_later hS.2 hbw10).cell (p := ⟨w.heap.size + 1, 0, none⟩) lb2).trans qb20, ((below_later hS.2 hbw10).cell (p := ⟨w.heap.size + 1, 1, none⟩) lb2).trans qb21, ((below_later hS.2 hbw10).cell (p := ⟨w.heap.size + 1 + 1, 0, none⟩) lb3).trans qb30, ((below_later hS.2 hbw10).cell (p := ⟨w.heap.size + 1 + 1, 1, none⟩) lb3).trans qb31⟩, below_later hS.2 hbw10⟩
           | exact ⟨⟨((below_later hS.2 hbw9).cell (p := ⟨w.heap.size, 0, none⟩) lb1).trans qb10, ((below_later hS.2 hbw9).cell (p := ⟨w.heap.size, 1, none⟩) lb1).trans qb11, ((below_later hS.2 hbw9).cell (p := ⟨w.heap.size + 1, 0, none⟩) lb2).trans qb20, ((below_later hS.2 hbw9).cell (p := ⟨w.heap.size + 1, 1, none⟩) lb2).trans qb21, ((below_later hS.2 hbw9).cell (p := ⟨w.heap.size + 1 + 1, 0, none⟩) lb3).trans qb30, ((below_later hS.2 hbw9).cell (p := ⟨w.heap.size + 1 + 1, 1, none⟩) lb3).trans qb31⟩, below_later hS.2 hbw9⟩
           | exact ⟨⟨((hS.2.drew).cell (p := ⟨w.heap.size, 0, none⟩) lb1).trans qb10, ((hS.2.drew).cell (p := ⟨w.heap.size, 1, none⟩) lb1).trans qb11, ((hS.2.drew).cell (p := ⟨w.heap.size + 1, 0, none⟩) lb2).trans qb20, ((hS.2.drew).cell (p := ⟨w.heap.size + 1, 1, none⟩) lb2).trans qb21, ((hS.2.drew).cell (p := ⟨w.heap.size + 1 + 1, 0, none⟩) lb3).trans qb30, ((hS.2.drew).cell (p := ⟨w.heap.size + 1 + 1, 1, none⟩) lb3).trans qb31⟩, hS.2.drew⟩)
      | assumption)
    (first
      | (go_at_call 47; rename _ ∧ Below w8.heap.size w8 _ => hS
         go_fit (sadd_c (hA.past hS.2).toNatAt (hD.past hS.2).toNatAt (by omega) (by omega))
         rintro e w9 ⟨ak1, nk1, ck1, rfl, k1, hbw9⟩
         have sk1 := Nat.le_trans (Nat.le_of_eq k1.len.symm) Lxz.out)
      | (go_at_call 47; rename _ ∧ Below w8.heap.size w8 _ => hS
         go_fit (sadd_c (hC.past hS.2).toNatAt (hD.past hS.2).toNatAt (by omega) (by omega))
         rintro e w10 ⟨ak2, nk2, ck2, rfl, k2, hbw10⟩
         have k1 := k1.past hbw10
         have sk2 := Nat.le_trans (Nat.le_of_eq k2.len.symm) Lyz.out)
      | (go_at_call 55; rename _ ∧ Below w8.heap.size w8 _ => hS
         go_fit (scmp_c k1.toNatAt k2.toNatAt (by omega) (by omega))
         rintro e w11 ⟨rfl, hbw11⟩
         have k1 := k1.past hbw11
         have k2 := k2.past hbw11
         rw [A1.out])
      | (go_at_call 49; rename _ ∧ Below w8.heap.size w8 _ => hS
         go_fit (smul_c (hA.past hS.2).toNatAt (hD.past hS.2).toNatAt (by omega) (by omega))
         rintro e w12 ⟨ak3, nk3, ck3, rfl, k3, hbw12⟩
         have k1 := k1.past hbw12
         have k2 := k2.past hbw12
         have sk3 := Nat.le_trans (Nat.le_of_eq k3.len.symm) Mxz.out)
      | (go_at_call 49; rename _ ∧ Below w8.heap.size w8 _ => hS
         go_fit (smul_c (hC.past hS.2).toNatAt (hD.past hS.2).toNatAt (by omega) (by omega))
         rintro e w13 ⟨ak4, nk4, ck4, rfl, k4, hbw13⟩
         have k1 := k1.past hbw13
         have k2 := k2.past hbw13
         have k3 := k3.past hbw13
         have sk4 := Nat.le_trans (Nat.le_of_eq k4.len.symm) Myz.out)
      | (go_at_call 55; rename _ ∧ Below w8.heap.size w8 _ => hS
         go_fit (scmp_c k3.toNatAt k4.toNatAt (by omega) (by omega))
         rintro e w14 ⟨rfl, hbw14⟩
         have k1 := k1.past hbw14
         have k2 := k2.past hbw14
         have k3 := k3.past hbw14
         have k4 := k4.past hbw14
         rw [M1.out])
      | (go_at_call 45; rename _ ∧ Below w8.heap.size w8 _ => hS
         go_fit (sign_c (hD.past hS.2).toNatAt (by omega))
         rintro e w15 ⟨rfl, hbw15⟩
         have k1 := k1.past hbw15
         have k2 := k2.past hbw15
         have k3 := k3.past hbw15
         have k4 := k4.past hbw15
         rw [ZS.out])
      | (go_at_call 48; rename _ ∧ Below w8.heap.size w8 _ => hS
         go_fit (ssub_c (hA.past hS.2).toNatAt (hC.past hS.2).toNatAt (by omega) (by omega))
         rintro e w16 ⟨ak5, nk5, ck5, rfl, k5, hbw16⟩
         have k1 := k1.past hbw16
         have k2 := k2.past hbw16
         have k3 := k3.past hbw16
         have k4 := k4.past hbw16
         have sk5 := Nat.le_trans (Nat.le_of_eq k5.len.symm) Lxy.out)
      | (go_at_call 45; rename _ ∧ Below w8.heap.size w8 _ => hS
         go_fit (sign_c k5.toNatAt (by omega))
         rintro e w17 ⟨rfl, hbw17⟩
         have k1 := k1.past hbw17
         have k2 := k2.past hbw17
         have k3 := k3.past hbw17
         have k4 := k4.past hbw17
         have k5 := k5.past hbw17
         rw [SXY.out]))
  rename _ ∧ Below w8.heap.size w8 w17 => hS
  have hbR := hS.2
  have hA := hA.past hbR
  have hC := hC.past hbR
  have hD := hD.past hbR
  have qb10 := (hbR.cell (p := ⟨w.heap.size, 0, none⟩) lb1).trans qb10
  have qb11 := (hbR.cell (p := ⟨w.heap.size, 1, none⟩) lb1).trans qb11
  have xb1 := xb1.past hbR lb1
  have lb1 := Nat.lt_of_lt_of_le lb1 hbR.size
  have qb20 := (hbR.cell (p := ⟨w.heap.size + 1, 0, none⟩) lb2).trans qb20
  have qb21 := (hbR.cell (p := ⟨w.heap.size + 1, 1, none⟩) lb2).trans qb21
  have xb2 := xb2.past hbR lb2
  have lb2 := Nat.lt_of_lt_of_le lb2 hbR.size
  have qb30 := (hbR.cell (p := ⟨w.heap.size + 1 + 1, 0, none⟩) lb3).trans qb30
  have qb31 := (hbR.cell (p := ⟨w.heap.size + 1 + 1, 1, none⟩) lb3).trans qb31
  have xb3 := xb3.past hbR lb3
  have lb3 := Nat.lt_of_lt_of_le lb3 hbR.size
  have hB := below_later hB hbR
  clear hS hbR
  go_wp2
  go_ret
  exact ⟨rfl, hB⟩


end Go.Proofs.Ytlljljhiimeajaa
