/- the laws of signed: SignedRing. -/
import Derived.Test.YtlljljhiimeajaaLaw04d
import Derived.Test.YtlljljhiimeajaaReg2
set_option linter.unusedVariables false
set_option linter.unusedSimpArgs false
namespace Go.Proofs.Ytlljljhiimeajaa
open Go.RowKit

theorem sign_prod (x y : Int) : -9223372036854775808 ≤ x.sign * y.sign ∧ x.sign * y.sign ≤ 9223372036854775807 := by
  rcases Int.lt_trichotomy x 0 with h | h | h <;> rcases Int.lt_trichotomy y 0 with h2 | h2 | h2 <;> simp_all [Int.sign_eq_neg_one_of_neg, Int.sign_eq_one_of_pos]

set_option maxRecDepth 100000 in
theorem signedRing_long1 (b : Bool) (a : Option Addr) (n c : Nat) (l : List Nat) (b2 : Bool) (a2 : Option Addr) (n2 c2 : Nat) (l2 : List Nat) (b3 : Bool) (a3 : Option Addr) (n3 c3 : Nat) (l3 : List Nat) (w : World) (g1 : NatAt w a n c l) (g2 : NatAt w a2 n2 c2 l2) (g3 : NatAt w a3 n3 c3 l3)  (hl : 10 < n) :
    Calls Try.prog 11 #[.agg #[.bool b, .slice a n c], .agg #[.bool b2, .slice a2 n2 c2], .agg #[.bool b3, .slice a3 n3 c3]] w (RetVal w (.bool true)) := by
  have hc1 := Nat.le_trans g1.le g1.cle
  have hc2 := Nat.le_trans g2.le g2.cle
  have hc3 := Nat.le_trans g3.le g3.cle
  have t0 : decide ((10 : Int) < (n : Int)) = true := by simp; omega
  go_enter Try.func11, Try.ntmps11
  have hB := Below.refl w.heap.size w
  go_wp2_with fail
  obtain ⟨w1, hW, hz0, hb, q, f⟩ := box1g w (w.heap.size) (by omega) #[.bool b, .slice a n c] 42
  rw [hW]
  clear hW
  have hB := below_later hB hb
  clear hb
  have lb1 : w.heap.size < w1.heap.size := by omega
  have qb10 := q 0
  simp only [List.getElem?_toArray, List.getElem?_cons_zero, List.getElem?_cons_succ] at qb10
  have qb11 := q 1
  simp only [List.getElem?_toArray, List.getElem?_cons_zero, List.getElem?_cons_succ] at qb11
  have xb1 : BoxAt w1 (w.heap.size) 2 := BoxAt.of q f rfl (by simp [notU_bool, notU_slice, notU_i64])
  clear q f
  obtain ⟨w2, hW, hz1, hb, q, f⟩ := box1g w1 (w.heap.size + 1) (by omega) #[.bool b2, .slice a2 n2 c2] 42
  rw [hW]
  clear hW
  have qb10 := (hb.cell (p := ⟨w.heap.size, 0, none⟩) lb1).trans qb10
  have qb11 := (hb.cell (p := ⟨w.heap.size, 1, none⟩) lb1).trans qb11
  have xb1 := xb1.past hb lb1
  have lb1 := Nat.lt_of_lt_of_le lb1 hb.size
  have hB := below_later hB hb
  clear hb
  have lb2 : w.heap.size + 1 < w2.heap.size := by omega
  have qb20 := q 0
  simp only [List.getElem?_toArray, List.getElem?_cons_zero, List.getElem?_cons_succ] at qb20
  have qb21 := q 1
  simp only [List.getElem?_toArray, List.getElem?_cons_zero, List.getElem?_cons_succ] at qb21
  have xb2 : BoxAt w2 (w.heap.size + 1) 2 := BoxAt.of q f rfl (by simp [notU_bool, notU_slice, notU_i64])
  clear q f
  obtain ⟨w3, hW, hz2, hb, q, f⟩ := box1g w2 (w.heap.size + 1 + 1) (by omega) #[.bool b3, .slice a3 n3 c3] 42
  rw [hW]
  clear hW
  have qb10 := (hb.cell (p := ⟨w.heap.size, 0, none⟩) lb1).trans qb10
  have qb11 := (hb.cell (p := ⟨w.heap.size, 1, none⟩) lb1).trans qb11
  have xb1 := xb1.past hb lb1
  have lb1 := Nat.lt_of_lt_of_le lb1 hb.size
  have qb20 := (hb.cell (p := ⟨w.heap.size + 1, 0, none⟩) lb2).trans qb20
  have qb21 := (hb.cell (p := ⟨w.heap.size + 1, 1, none⟩) lb2).trans qb21
  have xb2 := xb2.past hb lb2
  have lb2 := Nat.lt_of_lt_of_le lb2 hb.size
  have hB := below_later hB hb
  clear hb
  have lb3 : w.heap.size + 1 + 1 < w3.heap.size := by omega
  have qb30 := q 0
  simp only [List.getElem?_toArray, List.getElem?_cons_zero, List.getElem?_cons_succ] at qb30
  have qb31 := q 1
  simp only [List.getElem?_toArray, List.getElem?_cons_zero, List.getElem?_cons_succ] at qb31
  have xb3 : BoxAt w3 (w.heap.size + 1 + 1) 2 := BoxAt.of q f rfl (by simp [notU_bool, notU_slice, notU_i64])
  clear q f
  clear hz0
  clear hz1
  clear hz2
  with_reducible refine (signedKnown_any _).mono ?_
  rintro e w4 ⟨rfl, hb⟩
  have qb10 := (hb.cell (p := ⟨w.heap.size, 0, none⟩) lb1).trans qb10
  have qb11 := (hb.cell (p := ⟨w.heap.size, 1, none⟩) lb1).trans qb11
  have xb1 := xb1.past hb lb1
  have lb1 := Nat.lt_of_lt_of_le lb1 hb.size
  have qb20 := (hb.cell (p := ⟨w.heap.size + 1, 0, none⟩) lb2).trans qb20
  have qb21 := (hb.cell (p := ⟨w.heap.size + 1, 1, none⟩) lb2).trans qb21
  have xb2 := xb2.past hb lb2
  have lb2 := Nat.lt_of_lt_of_le lb2 hb.size
  have qb30 := (hb.cell (p := ⟨w.heap.size + 1 + 1, 0, none⟩) lb3).trans qb30
  have qb31 := (hb.cell (p := ⟨w.heap.size + 1 + 1, 1, none⟩) lb3).trans qb31
  have xb3 := xb3.past hb lb3
  have lb3 := Nat.lt_of_lt_of_le lb3 hb.size
  have hB := below_later hB hb
  clear hb
  go_wp2_with fail
  with_reducible refine (longNat_any _ _ _ _ _ hc1).mono ?_
  rintro e w' ⟨rfl, rfl⟩
  go_wp2
  go_ret
  exact ⟨rfl, hB⟩

set_option maxRecDepth 100000 in
theorem signedRing_long2 (b : Bool) (a : Option Addr) (n c : Nat) (l : List Nat) (b2 : Bool) (a2 : Option Addr) (n2 c2 : Nat) (l2 : List Nat) (b3 : Bool) (a3 : Option Addr) (n3 c3 : Nat) (l3 : List Nat) (w : World) (g1 : NatAt w a n c l) (g2 : NatAt w a2 n2 c2 l2) (g3 : NatAt w a3 n3 c3 l3) (q0 : n ≤ 10) (hl : 10 < n2) :
    Calls Try.prog 11 #[.agg #[.bool b, .slice a n c], .agg #[.bool b2, .slice a2 n2 c2], .agg #[.bool b3, .slice a3 n3 c3]] w (RetVal w (.bool true)) := by
  have hc1 := Nat.le_trans g1.le g1.cle
  have hc2 := Nat.le_trans g2.le g2.cle
  have hc3 := Nat.le_trans g3.le g3.cle
  have t0 : decide ((10 : Int) < (n : Int)) = false := by simp; omega
  have t1 : decide ((10 : Int) < (n2 : Int)) = true := by simp; omega
  go_enter Try.func11, Try.ntmps11
  have hB := Below.refl w.heap.size w
  go_wp2_with fail
  obtain ⟨w1, hW, hz0, hb, q, f⟩ := box1g w (w.heap.size) (by omega) #[.bool b, .slice a n c] 42
  rw [hW]
  clear hW
  have hB := below_later hB hb
  clear hb
  have lb1 : w.heap.size < w1.heap.size := by omega
  have qb10 := q 0
  simp only [List.getElem?_toArray, List.getElem?_cons_zero, List.getElem?_cons_succ] at qb10
  have qb11 := q 1
  simp only [List.getElem?_toArray, List.getElem?_cons_zero, List.getElem?_cons_succ] at qb11
  have xb1 : BoxAt w1 (w.heap.size) 2 := BoxAt.of q f rfl (by simp [notU_bool, notU_slice, notU_i64])
  clear q f
  obtain ⟨w2, hW, hz1, hb, q, f⟩ := box1g w1 (w.heap.size + 1) (by omega) #[.bool b2, .slice a2 n2 c2] 42
  rw [hW]
  clear hW
  have qb10 := (hb.cell (p := ⟨w.heap.size, 0, none⟩) lb1).trans qb10
  have qb11 := (hb.cell (p := ⟨w.heap.size, 1, none⟩) lb1).trans qb11
  have xb1 := xb1.past hb lb1
  have lb1 := Nat.lt_of_lt_of_le lb1 hb.size
  have hB := below_later hB hb
  clear hb
  have lb2 : w.heap.size + 1 < w2.heap.size := by omega
  have qb20 := q 0
  simp only [List.getElem?_toArray, List.getElem?_cons_zero, List.getElem?_cons_succ] at qb20
  have qb21 := q 1
  simp only [List.getElem?_toArray, List.getElem?_cons_zero, List.getElem?_cons_succ] at qb21
  have xb2 : BoxAt w2 (w.heap.size + 1) 2 := BoxAt.of q f rfl (by simp [notU_bool, notU_slice, notU_i64])
  clear q f
  obtain ⟨w3, hW, hz2, hb, q, f⟩ := box1g w2 (w.heap.size + 1 + 1) (by omega) #[.bool b3, .slice a3 n3 c3] 42
  rw [hW]
  clear hW
  have qb10 := (hb.cell (p := ⟨w.heap.size, 0, none⟩) lb1).trans qb10
  have qb11 := (hb.cell (p := ⟨w.heap.size, 1, none⟩) lb1).trans qb11
  have xb1 := xb1.past hb lb1
  have lb1 := Nat.lt_of_lt_of_le lb1 hb.size
  have qb20 := (hb.cell (p := ⟨w.heap.size + 1, 0, none⟩) lb2).trans qb20
  have qb21 := (hb.cell (p := ⟨w.heap.size + 1, 1, none⟩) lb2).trans qb21
  have xb2 := xb2.past hb lb2
  have lb2 := Nat.lt_of_lt_of_le lb2 hb.size
  have hB := below_later hB hb
  clear hb
  have lb3 : w.heap.size + 1 + 1 < w3.heap.size := by omega
  have qb30 := q 0
  simp only [List.getElem?_toArray, List.getElem?_cons_zero, List.getElem?_cons_succ] at qb30
  have qb31 := q 1
  simp only [List.getElem?_toArray, List.getElem?_cons_zero, List.getElem?_cons_succ] at qb31
  have xb3 : BoxAt w3 (w.heap.size + 1 + 1) 2 := BoxAt.of q f rfl (by simp [notU_bool, notU_slice, notU_i64])
  clear q f
  clear hz0
  clear hz1
  clear hz2
  with_reducible refine (signedKnown_any _).mono ?_
  rintro e w4 ⟨rfl, hb⟩
  have qb10 := (hb.cell (p := ⟨w.heap.size, 0, none⟩) lb1).trans qb10
  have qb11 := (hb.cell (p := ⟨w.heap.size, 1, none⟩) lb1).trans qb11
  have xb1 := xb1.past hb lb1
  have lb1 := Nat.lt_of_lt_of_le lb1 hb.size
  have qb20 := (hb.cell (p := ⟨w.heap.size + 1, 0, none⟩) lb2).trans qb20
  have qb21 := (hb.cell (p := ⟨w.heap.size + 1, 1, none⟩) lb2).trans qb21
  have xb2 := xb2.past hb lb2
  have lb2 := Nat.lt_of_lt_of_le lb2 hb.size
  have qb30 := (hb.cell (p := ⟨w.heap.size + 1 + 1, 0, none⟩) lb3).trans qb30
  have qb31 := (hb.cell (p := ⟨w.heap.size + 1 + 1, 1, none⟩) lb3).trans qb31
  have xb3 := xb3.past hb lb3
  have lb3 := Nat.lt_of_lt_of_le lb3 hb.size
  have hB := below_later hB hb
  clear hb
  go_wp2_with fail
  with_reducible refine (longNat_any _ _ _ _ _ hc1).mono ?_
  rintro e w' ⟨rfl, rfl⟩
  go_wp2_with fail
  with_reducible refine (longNat_any _ _ _ _ _ hc2).mono ?_
  rintro e w' ⟨rfl, rfl⟩
  go_wp2
  go_ret
  exact ⟨rfl, hB⟩

set_option maxRecDepth 100000 in
theorem signedRing_long3 (b : Bool) (a : Option Addr) (n c : Nat) (l : List Nat) (b2 : Bool) (a2 : Option Addr) (n2 c2 : Nat) (l2 : List Nat) (b3 : Bool) (a3 : Option Addr) (n3 c3 : Nat) (l3 : List Nat) (w : World) (g1 : NatAt w a n c l) (g2 : NatAt w a2 n2 c2 l2) (g3 : NatAt w a3 n3 c3 l3) (q0 : n ≤ 10) (q1 : n2 ≤ 10) (hl : 10 < n3) :
    Calls Try.prog 11 #[.agg #[.bool b, .slice a n c], .agg #[.bool b2, .slice a2 n2 c2], .agg #[.bool b3, .slice a3 n3 c3]] w (RetVal w (.bool true)) := by
  have hc1 := Nat.le_trans g1.le g1.cle
  have hc2 := Nat.le_trans g2.le g2.cle
  have hc3 := Nat.le_trans g3.le g3.cle
  have t0 : decide ((10 : Int) < (n : Int)) = false := by simp; omega
  have t1 : decide ((10 : Int) < (n2 : Int)) = false := by simp; omega
  have t2 : decide ((10 : Int) < (n3 : Int)) = true := by simp; omega
  go_enter Try.func11, Try.ntmps11
  have hB := Below.refl w.heap.size w
  go_wp2_with fail
  obtain ⟨w1, hW, hz0, hb, q, f⟩ := box1g w (w.heap.size) (by omega) #[.bool b, .slice a n c] 42
  rw [hW]
  clear hW
  have hB := below_later hB hb
  clear hb
  have lb1 : w.heap.size < w1.heap.size := by omega
  have qb10 := q 0
  simp only [List.getElem?_toArray, List.getElem?_cons_zero, List.getElem?_cons_succ] at qb10
  have qb11 := q 1
  simp only [List.getElem?_toArray, List.getElem?_cons_zero, List.getElem?_cons_succ] at qb11
  have xb1 : BoxAt w1 (w.heap.size) 2 := BoxAt.of q f rfl (by simp [notU_bool, notU_slice, notU_i64])
  clear q f
  obtain ⟨w2, hW, hz1, hb, q, f⟩ := box1g w1 (w.heap.size + 1) (by omega) #[.bool b2, .slice a2 n2 c2] 42
  rw [hW]
  clear hW
  have qb10 := (hb.cell (p := ⟨w.heap.size, 0, none⟩) lb1).trans qb10
  have qb11 := (hb.cell (p := ⟨w.heap.size, 1, none⟩) lb1).trans qb11
  have xb1 := xb1.past hb lb1
  have lb1 := Nat.lt_of_lt_of_le lb1 hb.size
  have hB := below_later hB hb
  clear hb
  have lb2 : w.heap.size + 1 < w2.heap.size := by omega
  have qb20 := q 0
  simp only [List.getElem?_toArray, List.getElem?_cons_zero, List.getElem?_cons_succ] at qb20
  have qb21 := q 1
  simp only [List.getElem?_toArray, List.getElem?_cons_zero, List.getElem?_cons_succ] at qb21
  have xb2 : BoxAt w2 (w.heap.size + 1) 2 := BoxAt.of q f rfl (by simp [notU_bool, notU_slice, notU_i64])
  clear q f
  obtain ⟨w3, hW, hz2, hb, q, f⟩ := box1g w2 (w.heap.size + 1 + 1) (by omega) #[.bool b3, .slice a3 n3 c3] 42
  rw [hW]
  clear hW
  have qb10 := (hb.cell (p := ⟨w.heap.size, 0, none⟩) lb1).trans qb10
  have qb11 := (hb.cell (p := ⟨w.heap.size, 1, none⟩) lb1).trans qb11
  have xb1 := xb1.past hb lb1
  have lb1 := Nat.lt_of_lt_of_le lb1 hb.size
  have qb20 := (hb.cell (p := ⟨w.heap.size + 1, 0, none⟩) lb2).trans qb20
  have qb21 := (hb.cell (p := ⟨w.heap.size + 1, 1, none⟩) lb2).trans qb21
  have xb2 := xb2.past hb lb2
  have lb2 := Nat.lt_of_lt_of_le lb2 hb.size
  have hB := below_later hB hb
  clear hb
  have lb3 : w.heap.size + 1 + 1 < w3.heap.size := by omega
  have qb30 := q 0
  simp only [List.getElem?_toArray, List.getElem?_cons_zero, List.getElem?_cons_succ] at qb30
  have qb31 := q 1
  simp only [List.getElem?_toArray, List.getElem?_cons_zero, List.getElem?_cons_succ] at qb31
  have xb3 : BoxAt w3 (w.heap.size + 1 + 1) 2 := BoxAt.of q f rfl (by simp [notU_bool, notU_slice, notU_i64])
  clear q f
  clear hz0
  clear hz1
  clear hz2
  with_reducible refine (signedKnown_any _).mono ?_
  rintro e w4 ⟨rfl, hb⟩
  have qb10 := (hb.cell (p := ⟨w.heap.size, 0, none⟩) lb1).trans qb10
  have qb11 := (hb.cell (p := ⟨w.heap.size, 1, none⟩) lb1).trans qb11
  have xb1 := xb1.past hb lb1
  have lb1 := Nat.lt_of_lt_of_le lb1 hb.size
  have qb20 := (hb.cell (p := ⟨w.heap.size + 1, 0, none⟩) lb2).trans qb20
  have qb21 := (hb.cell (p := ⟨w.heap.size + 1, 1, none⟩) lb2).trans qb21
  have xb2 := xb2.past hb lb2
  have lb2 := Nat.lt_of_lt_of_le lb2 hb.size
  have qb30 := (hb.cell (p := ⟨w.heap.size + 1 + 1, 0, none⟩) lb3).trans qb30
  have qb31 := (hb.cell (p := ⟨w.heap.size + 1 + 1, 1, none⟩) lb3).trans qb31
  have xb3 := xb3.past hb lb3
  have lb3 := Nat.lt_of_lt_of_le lb3 hb.size
  have hB := below_later hB hb
  clear hb
  go_wp2_with fail
  with_reducible refine (longNat_any _ _ _ _ _ hc1).mono ?_
  rintro e w' ⟨rfl, rfl⟩
  go_wp2_with fail
  with_reducible refine (longNat_any _ _ _ _ _ hc2).mono ?_
  rintro e w' ⟨rfl, rfl⟩
  go_wp2_with fail
  with_reducible refine (longNat_any _ _ _ _ _ hc3).mono ?_
  rintro e w' ⟨rfl, rfl⟩
  go_wp2
  go_ret
  exact ⟨rfl, hB⟩

set_option maxRecDepth 100000 in
set_option maxHeartbeats 16000000 in
theorem signedRing_main (b : Bool) (a : Option Addr) (n c : Nat) (l : List Nat) (b2 : Bool) (a2 : Option Addr) (n2 c2 : Nat) (l2 : List Nat) (b3 : Bool) (a3 : Option Addr) (n3 c3 : Nat) (l3 : List Nat) (w : World) (g1 : NatAt w a n c l) (g2 : NatAt w a2 n2 c2 l2) (g3 : NatAt w a3 n3 c3 l3) (q0 : n ≤ 10) (q1 : n2 ≤ 10) (q2 : n3 ≤ 10) :
    Calls Try.prog 11 #[.agg #[.bool b, .slice a n c], .agg #[.bool b2, .slice a2 n2 c2], .agg #[.bool b3, .slice a3 n3 c3]] w (RetVal w (.bool true)) := by
  have hc1 := Nat.le_trans g1.le g1.cle
  have hc2 := Nat.le_trans g2.le g2.cle
  have hc3 := Nat.le_trans g3.le g3.cle
  have t0 : decide ((10 : Int) < (n : Int)) = false := by simp; omega
  have t1 : decide ((10 : Int) < (n2 : Int)) = false := by simp; omega
  have t2 : decide ((10 : Int) < (n3 : Int)) = false := by simp; omega
  obtain ⟨x, hx⟩ : ∃ v, sg b (val l) = v := ⟨_, rfl⟩
  have kx : (digs (x).natAbs).length ≤ 10 := by rw [← hx, natAbs_sg]; exact Nat.le_trans g1.short q0
  obtain ⟨y, hy⟩ : ∃ v, sg b2 (val l2) = v := ⟨_, rfl⟩
  have ky : (digs (y).natAbs).length ≤ 10 := by rw [← hy, natAbs_sg]; exact Nat.le_trans g2.short q1
  obtain ⟨z, hz⟩ : ∃ v, sg b3 (val l3) = v := ⟨_, rfl⟩
  have kz : (digs (z).natAbs).length ≤ 10 := by rw [← hz, natAbs_sg]; exact Nat.le_trans g3.short q2
  have Lab := Lib.hid (ilen_add kx ky)
  have Lbc := Lib.hid (ilen_add ky kz)
  have Lna := Lib.hid (ilen_neg kx)
  have Lp := Lib.hid (ilen_mul kx ky)
  have Lq := Lib.hid (ilen_mul ky kz)
  have Lr := Lib.hid (ilen_mul kx kz)
  have L1 := Lib.hid (digs_length_le.2 (by decide : (1 : Int).natAbs < 18446744073709551616 ^ 1))
  have hsg : IntKind.i64.wrap (x.sign * y.sign) = (x * y).sign := by rw [Int.sign_mul]; exact IntWalk.i64_in _ (sign_prod x y)
  have HX := Lib.hid hx
  have HY := Lib.hid hy
  have HZ := Lib.hid hz
  clear hx hy hz
  have G1 := g1
  have G2 := g2
  have G3 := g3
  go_enter Try.func11, Try.ntmps11
  have hB := Below.refl w.heap.size w
  go_wp2_with fail
  obtain ⟨w1, hW, hz0, hb, q, f⟩ := box1g w (w.heap.size) (by omega) #[.bool b, .slice a n c] 42
  rw [hW]
  clear hW
  have g1 := g1.past hb
  have g2 := g2.past hb
  have g3 := g3.past hb
  have hB := below_later hB hb
  clear hb
  have lb1 : w.heap.size < w1.heap.size := by omega
  have qb10 := q 0
  simp only [List.getElem?_toArray, List.getElem?_cons_zero, List.getElem?_cons_succ] at qb10
  have qb11 := q 1
  simp only [List.getElem?_toArray, List.getElem?_cons_zero, List.getElem?_cons_succ] at qb11
  have xb1 : BoxAt w1 (w.heap.size) 2 := BoxAt.of q f rfl (by simp [notU_bool, notU_slice, notU_i64])
  clear q f
  obtain ⟨w2, hW, hz1, hb, q, f⟩ := box1g w1 (w.heap.size + 1) (by omega) #[.bool b2, .slice a2 n2 c2] 42
  rw [hW]
  clear hW
  have g1 := g1.past hb
  have g2 := g2.past hb
  have g3 := g3.past hb
  have qb10 := (hb.cell (p := ⟨w.heap.size, 0, none⟩) lb1).trans qb10
  have qb11 := (hb.cell (p := ⟨w.heap.size, 1, none⟩) lb1).trans qb11
  have xb1 := xb1.past hb lb1
  have lb1 := Nat.lt_of_lt_of_le lb1 hb.size
  have hB := below_later hB hb
  clear hb
  have lb2 : w.heap.size + 1 < w2.heap.size := by omega
  have qb20 := q 0
  simp only [List.getElem?_toArray, List.getElem?_cons_zero, List.getElem?_cons_succ] at qb20
  have qb21 := q 1
  simp only [List.getElem?_toArray, List.getElem?_cons_zero, List.getElem?_cons_succ] at qb21
  have xb2 : BoxAt w2 (w.heap.size + 1) 2 := BoxAt.of q f rfl (by simp [notU_bool, notU_slice, notU_i64])
  clear q f
  obtain ⟨w3, hW, hz2, hb, q, f⟩ := box1g w2 (w.heap.size + 1 + 1) (by omega) #[.bool b3, .slice a3 n3 c3] 42
  rw [hW]
  clear hW
  have g1 := g1.past hb
  have g2 := g2.past hb
  have g3 := g3.past hb
  have qb10 := (hb.cell (p := ⟨w.heap.size, 0, none⟩) lb1).trans qb10
  have qb11 := (hb.cell (p := ⟨w.heap.size, 1, none⟩) lb1).trans qb11
  have xb1 := xb1.past hb lb1
  have lb1 := Nat.lt_of_lt_of_le lb1 hb.size
  have qb20 := (hb.cell (p := ⟨w.heap.size + 1, 0, none⟩) lb2).trans qb20
  have qb21 := (hb.cell (p := ⟨w.heap.size + 1, 1, none⟩) lb2).trans qb21
  have xb2 := xb2.past hb lb2
  have lb2 := Nat.lt_of_lt_of_le lb2 hb.size
  have hB := below_later hB hb
  clear hb
  have lb3 : w.heap.size + 1 + 1 < w3.heap.size := by omega
  have qb30 := q 0
  simp only [List.getElem?_toArray, List.getElem?_cons_zero, List.getElem?_cons_succ] at qb30
  have qb31 := q 1
  simp only [List.getElem?_toArray, List.getElem?_cons_zero, List.getElem?_cons_succ] at qb31
  have xb3 : BoxAt w3 (w.heap.size + 1 + 1) 2 := BoxAt.of q f rfl (by simp [notU_bool, notU_slice, notU_i64])
  clear q f
  clear hz0
  clear hz1
  clear hz2
  with_reducible refine (signedKnown_any _).mono ?_
  rintro e w4 ⟨rfl, hb⟩
  have g1 := g1.past hb
  have g2 := g2.past hb
  have g3 := g3.past hb
  have qb10 := (hb.cell (p := ⟨w.heap.size, 0, none⟩) lb1).trans qb10
  have qb11 := (hb.cell (p := ⟨w.heap.size, 1, none⟩) lb1).trans qb11
  have xb1 := xb1.past hb lb1
  have lb1 := Nat.lt_of_lt_of_le lb1 hb.size
  have qb20 := (hb.cell (p := ⟨w.heap.size + 1, 0, none⟩) lb2).trans qb20
  have qb21 := (hb.cell (p := ⟨w.heap.size + 1, 1, none⟩) lb2).trans qb21
  have xb2 := xb2.past hb lb2
  have lb2 := Nat.lt_of_lt_of_le lb2 hb.size
  have qb30 := (hb.cell (p := ⟨w.heap.size + 1 + 1, 0, none⟩) lb3).trans qb30
  have qb31 := (hb.cell (p := ⟨w.heap.size + 1 + 1, 1, none⟩) lb3).trans qb31
  have xb3 := xb3.past hb lb3
  have lb3 := Nat.lt_of_lt_of_le lb3 hb.size
  have hB := below_later hB hb
  clear hb
  go_wp2_with fail
  with_reducible refine (longNat_any _ _ _ _ _ hc1).mono ?_
  rintro e w' ⟨rfl, rfl⟩
  go_wp2_with fail
  with_reducible refine (longNat_any _ _ _ _ _ hc2).mono ?_
  rintro e w' ⟨rfl, rfl⟩
  go_wp2_with fail
  with_reducible refine (longNat_any _ _ _ _ _ hc3).mono ?_
  rintro e w' ⟨rfl, rfl⟩
  go_wp2_with fail
  refine wp_region_inv (by kernel_rfl) rfl (by kernel_rfl) (fun A0 V0 dd aa ww => ∃ (y27 y28 y29 y30 y31 y32 y33 y34 y35 y36 y37 y38 y39 y40 y41 : Value), aa = puts A0 [(27, y27), (28, y28), (29, y29), (30, y30), (31, y31), (32, y32), (33, y33), (34, y34), (35, y35), (36, y36), (37, y37), (38, y38), (39, y39), (40, y40), (41, y41)] ∧ Below (w).heap.size (w) ww ∧ V0.heap.size ≤ ww.heap.size ∧ BoxAt ww (w.heap.size) 2 ∧ Shut (dd 15 = false → Cells ww (w.heap.size) [.bool b, .slice a n c]) ∧ BoxAt ww (w.heap.size + 1) 2 ∧ Shut (dd 16 = false → Cells ww (w.heap.size + 1) [.bool b2, .slice a2 n2 c2]) ∧ BoxAt ww (w.heap.size + 1 + 1) 2 ∧ Shut (dd 17 = false → Cells ww (w.heap.size + 1 + 1) [.bool b3, .slice a3 n3 c3]) ∧ Shut (dd 0 = true → y27 = .pointer (some ⟨w.heap.size, 0, none⟩)) ∧ Shut (dd 1 = true → y28 = .bool b) ∧ Shut (dd 2 = true → y29 = .pointer (some ⟨w.heap.size, 1, none⟩)) ∧ Shut (dd 3 = true → y30 = .slice a n c) ∧ Shut (dd 4 = true → CopyV V0.heap.size (neg (x)) (digs (x).natAbs) y31 ww) ∧ Shut (dd 5 = true → y32 = .pointer (some ⟨w.heap.size + 1, 0, none⟩)) ∧ Shut (dd 6 = true → y33 = .bool b2) ∧ Shut (dd 7 = true → y34 = .pointer (some ⟨w.heap.size + 1, 1, none⟩)) ∧ Shut (dd 8 = true → y35 = .slice a2 n2 c2) ∧ Shut (dd 9 = true → CopyV V0.heap.size (neg (y)) (digs (y).natAbs) y36 ww) ∧ Shut (dd 10 = true → y37 = .pointer (some ⟨w.heap.size + 1 + 1, 0, none⟩)) ∧ Shut (dd 11 = true → y38 = .bool b3) ∧ Shut (dd 12 = true → y39 = .pointer (some ⟨w.heap.size + 1 + 1, 1, none⟩)) ∧ Shut (dd 13 = true → y40 = .slice a3 n3 c3) ∧ Shut (dd 14 = true → CopyV V0.heap.size (neg (z)) (digs (z).natAbs) y41 ww) ∧ Shut (dd 15 = true → CellsV (w.heap.size) y31 ww) ∧ Shut (dd 16 = true → CellsV (w.heap.size + 1) y36 ww) ∧ Shut (dd 17 = true → CellsV (w.heap.size + 1 + 1) y41 ww) ∧ True) ?_ ?_ ?_
  · exact ⟨_, _, _, _, _, _, _, _, _, _, _, _, _, _, _, puts_self _ [27, 28, 29, 30, 31, 32, 33, 34, 35, 36, 37, 38, 39, 40, 41], hB.drew, Nat.le_refl _, xb1.drew, (fun _ => by intro k hk; simp at hk; rcases (by omega : k = 0 ∨ k = 1) with rfl | rfl <;> assumption), xb2.drew, (fun _ => by intro k hk; simp at hk; rcases (by omega : k = 0 ∨ k = 1) with rfl | rfl <;> assumption), xb3.drew, (fun _ => by intro k hk; simp at hk; rcases (by omega : k = 0 ∨ k = 1) with rfl | rfl <;> assumption), fun h => (by cases h), fun h => (by cases h), fun h => (by cases h), fun h => (by cases h), fun h => (by cases h), fun h => (by cases h), fun h => (by cases h), fun h => (by cases h), fun h => (by cases h), fun h => (by cases h), fun h => (by cases h), fun h => (by cases h), fun h => (by cases h), fun h => (by cases h), fun h => (by cases h), fun h => (by cases h), fun h => (by cases h), fun h => (by cases h), trivial⟩
  · refine Steps.cons ?_ (Steps.cons ?_ (Steps.cons ?_ (Steps.cons ?_ (Steps.cons ?_ (Steps.cons ?_ (Steps.cons ?_ (Steps.cons ?_ (Steps.cons ?_ (Steps.cons ?_ (Steps.cons ?_ (Steps.cons ?_ (Steps.cons ?_ (Steps.cons ?_ (Steps.cons ?_ (Steps.cons ?_ (Steps.cons ?_ (Steps.cons ?_ (Steps.nil))))))))))))))))))
    · intro dd aa ww K hc hun hn hI hK
      obtain ⟨y27, y28, y29, y30, y31, y32, y33, y34, y35, y36, y37, y38, y39, y40, y41, ea, hb, hsz, xb1, pb1, xb2, pb2, xb3, pb3, f0, f1, f2, f3, f4, f5, f6, f7, f8, f9, f10, f11, f12, f13, f14, f15, f16, f17, _⟩ := hI
      try simp [Region.binds] at hn
      subst ea
      simp only [puts, Act.put, List.setIfInBounds_toArray, List.set_cons_zero, List.set_cons_succ]
      go_simp
      refine hK.out _ _ ?_
      exact ⟨.pointer (some ⟨w.heap.size, 0, none⟩), y28, y29, y30, y31, y32, y33, y34, y35, y36, y37, y38, y39, y40, y41, by simp only [puts, Act.put, List.setIfInBounds_toArray, List.set_cons_zero, List.set_cons_succ], hb, hsz, xb1, fun h => (pb1.out (upd_off h)), xb2, fun h => (pb2.out (upd_off h)), xb3, fun h => (pb3.out (upd_off h)), fun _ => rfl, fun h => (f1.out (upd_of rfl h)), fun h => (f2.out (upd_of rfl h)), fun h => (f3.out (upd_of rfl h)), fun h => (f4.out (upd_of rfl h)), fun h => (f5.out (upd_of rfl h)), fun h => (f6.out (upd_of rfl h)), fun h => (f7.out (upd_of rfl h)), fun h => (f8.out (upd_of rfl h)), fun h => (f9.out (upd_of rfl h)), fun h => (f10.out (upd_of rfl h)), fun h => (f11.out (upd_of rfl h)), fun h => (f12.out (upd_of rfl h)), fun h => (f13.out (upd_of rfl h)), fun h => (f14.out (upd_of rfl h)), fun h => (f15.out (upd_of rfl h)), fun h => (f16.out (upd_of rfl h)), fun h => (f17.out (upd_of rfl h)), trivial⟩
    · intro dd aa ww K hc hun hn hI hK
      obtain ⟨y27, y28, y29, y30, y31, y32, y33, y34, y35, y36, y37, y38, y39, y40, y41, ea, hb, hsz, xb1, pb1, xb2, pb2, xb3, pb3, f0, f1, f2, f3, f4, f5, f6, f7, f8, f9, f10, f11, f12, f13, f14, f15, f16, f17, _⟩ := hI
      try simp [Region.binds] at hn
      have ex := f0.out (by simp [hn])
      subst ex
      have hs := hc.not (f := 8) (s := 15) (l := 1) (by kernel_rfl) hun
      have e0 := pb1.out hs 0 (by simp)
      simp only [List.getElem?_cons_zero, List.getElem?_cons_succ] at e0
      subst ea
      simp only [puts, Act.put, List.setIfInBounds_toArray, List.set_cons_zero, List.set_cons_succ]
      go_simp
      refine hK.out _ _ ?_
      exact ⟨.pointer (some ⟨w.heap.size, 0, none⟩), .bool b, y29, y30, y31, y32, y33, y34, y35, y36, y37, y38, y39, y40, y41, by simp only [puts, Act.put, List.setIfInBounds_toArray, List.set_cons_zero, List.set_cons_succ], hb, hsz, xb1, fun h => (pb1.out (upd_off h)), xb2, fun h => (pb2.out (upd_off h)), xb3, fun h => (pb3.out (upd_off h)), fun h => rfl, fun _ => rfl, fun h => (f2.out (upd_of rfl h)), fun h => (f3.out (upd_of rfl h)), fun h => (f4.out (upd_of rfl h)), fun h => (f5.out (upd_of rfl h)), fun h => (f6.out (upd_of rfl h)), fun h => (f7.out (upd_of rfl h)), fun h => (f8.out (upd_of rfl h)), fun h => (f9.out (upd_of rfl h)), fun h => (f10.out (upd_of rfl h)), fun h => (f11.out (upd_of rfl h)), fun h => (f12.out (upd_of rfl h)), fun h => (f13.out (upd_of rfl h)), fun h => (f14.out (upd_of rfl h)), fun h => (f15.out (upd_of rfl h)), fun h => (f16.out (upd_of rfl h)), fun h => (f17.out (upd_of rfl h)), trivial⟩
    · intro dd aa ww K hc hun hn hI hK
      obtain ⟨y27, y28, y29, y30, y31, y32, y33, y34, y35, y36, y37, y38, y39, y40, y41, ea, hb, hsz, xb1, pb1, xb2, pb2, xb3, pb3, f0, f1, f2, f3, f4, f5, f6, f7, f8, f9, f10, f11, f12, f13, f14, f15, f16, f17, _⟩ := hI
      try simp [Region.binds] at hn
      subst ea
      simp only [puts, Act.put, List.setIfInBounds_toArray, List.set_cons_zero, List.set_cons_succ]
      go_simp
      refine hK.out _ _ ?_
      exact ⟨y27, y28, .pointer (some ⟨w.heap.size, 1, none⟩), y30, y31, y32, y33, y34, y35, y36, y37, y38, y39, y40, y41, by simp only [puts, Act.put, List.setIfInBounds_toArray, List.set_cons_zero, List.set_cons_succ], hb, hsz, xb1, fun h => (pb1.out (upd_off h)), xb2, fun h => (pb2.out (upd_off h)), xb3, fun h => (pb3.out (upd_off h)), fun h => (f0.out (upd_of rfl h)), fun h => (f1.out (upd_of rfl h)), fun _ => rfl, fun h => (f3.out (upd_of rfl h)), fun h => (f4.out (upd_of rfl h)), fun h => (f5.out (upd_of rfl h)), fun h => (f6.out (upd_of rfl h)), fun h => (f7.out (upd_of rfl h)), fun h => (f8.out (upd_of rfl h)), fun h => (f9.out (upd_of rfl h)), fun h => (f10.out (upd_of rfl h)), fun h => (f11.out (upd_of rfl h)), fun h => (f12.out (upd_of rfl h)), fun h => (f13.out (upd_of rfl h)), fun h => (f14.out (upd_of rfl h)), fun h => (f15.out (upd_of rfl h)), fun h => (f16.out (upd_of rfl h)), fun h => (f17.out (upd_of rfl h)), trivial⟩
    · intro dd aa ww K hc hun hn hI hK
      obtain ⟨y27, y28, y29, y30, y31, y32, y33, y34, y35, y36, y37, y38, y39, y40, y41, ea, hb, hsz, xb1, pb1, xb2, pb2, xb3, pb3, f0, f1, f2, f3, f4, f5, f6, f7, f8, f9, f10, f11, f12, f13, f14, f15, f16, f17, _⟩ := hI
      try simp [Region.binds] at hn
      have ex := f2.out (by simp [hn])
      subst ex
      have hs := hc.not (f := 8) (s := 15) (l := 3) (by kernel_rfl) hun
      have e1 := pb1.out hs 1 (by simp)
      simp only [List.getElem?_cons_zero, List.getElem?_cons_succ] at e1
      subst ea
      simp only [puts, Act.put, List.setIfInBounds_toArray, List.set_cons_zero, List.set_cons_succ]
      go_simp
      refine hK.out _ _ ?_
      exact ⟨y27, y28, .pointer (some ⟨w.heap.size, 1, none⟩), .slice a n c, y31, y32, y33, y34, y35, y36, y37, y38, y39, y40, y41, by simp only [puts, Act.put, List.setIfInBounds_toArray, List.set_cons_zero, List.set_cons_succ], hb, hsz, xb1, fun h => (pb1.out (upd_off h)), xb2, fun h => (pb2.out (upd_off h)), xb3, fun h => (pb3.out (upd_off h)), fun h => (f0.out (upd_of rfl h)), fun h => (f1.out (upd_of rfl h)), fun h => rfl, fun _ => rfl, fun h => (f4.out (upd_of rfl h)), fun h => (f5.out (upd_of rfl h)), fun h => (f6.out (upd_of rfl h)), fun h => (f7.out (upd_of rfl h)), fun h => (f8.out (upd_of rfl h)), fun h => (f9.out (upd_of rfl h)), fun h => (f10.out (upd_of rfl h)), fun h => (f11.out (upd_of rfl h)), fun h => (f12.out (upd_of rfl h)), fun h => (f13.out (upd_of rfl h)), fun h => (f14.out (upd_of rfl h)), fun h => (f15.out (upd_of rfl h)), fun h => (f16.out (upd_of rfl h)), fun h => (f17.out (upd_of rfl h)), trivial⟩
    · intro dd aa ww K hc hun hn hI hK
      obtain ⟨y27, y28, y29, y30, y31, y32, y33, y34, y35, y36, y37, y38, y39, y40, y41, ea, hb, hsz, xb1, pb1, xb2, pb2, xb3, pb3, f0, f1, f2, f3, f4, f5, f6, f7, f8, f9, f10, f11, f12, f13, f14, f15, f16, f17, _⟩ := hI
      try simp [Region.binds] at hn
      have ex := f1.out (by simp [hn])
      subst ex
      have ex := f3.out (by simp [hn])
      subst ex
      subst ea
      simp only [puts, Act.put, List.setIfInBounds_toArray, List.set_cons_zero, List.set_cons_succ]
      go_simp
      with_reducible refine (make_any _ _ _ _ l _ (G1.past hb) (by omega)).mono ?_
      rintro e w1 ⟨ahA, nhA, chA, rfl, hA, h1⟩
      rw [HX.out] at hA ⊢
      refine hK.out _ _ ?_
      exact ⟨y27, .bool b, y29, .slice a n c, .agg #[.bool (neg (x)), .slice ahA nhA chA], y32, y33, y34, y35, y36, y37, y38, y39, y40, y41, by simp only [puts, Act.put, List.setIfInBounds_toArray, List.set_cons_zero, List.set_cons_succ], below_later hb h1, Nat.le_trans hsz h1.size, xb1.past h1 (Nat.lt_of_lt_of_le lb1 hsz), fun h => (pb1.out (upd_off h)).past h1 (Nat.lt_of_lt_of_le lb1 hsz), xb2.past h1 (Nat.lt_of_lt_of_le lb2 hsz), fun h => (pb2.out (upd_off h)).past h1 (Nat.lt_of_lt_of_le lb2 hsz), xb3.past h1 (Nat.lt_of_lt_of_le lb3 hsz), fun h => (pb3.out (upd_off h)).past h1 (Nat.lt_of_lt_of_le lb3 hsz), fun h => (f0.out (upd_of rfl h)), fun h => rfl, fun h => (f2.out (upd_of rfl h)), fun h => rfl, fun _ => ⟨_, _, _, rfl, hA.mono hsz⟩, fun h => (f5.out (upd_of rfl h)), fun h => (f6.out (upd_of rfl h)), fun h => (f7.out (upd_of rfl h)), fun h => (f8.out (upd_of rfl h)), fun h => (f9.out (upd_of rfl h)).past h1, fun h => (f10.out (upd_of rfl h)), fun h => (f11.out (upd_of rfl h)), fun h => (f12.out (upd_of rfl h)), fun h => (f13.out (upd_of rfl h)), fun h => (f14.out (upd_of rfl h)).past h1, fun h => absurd (hc.reach (f := 8) (s := 15) (l := 4) (by kernel_rfl) (upd_of rfl h)) (by rw [hun]; decide), fun h => (f16.out (upd_of rfl h)).past h1 (Nat.lt_of_lt_of_le lb2 hsz), fun h => (f17.out (upd_of rfl h)).past h1 (Nat.lt_of_lt_of_le lb3 hsz), trivial⟩
    · intro dd aa ww K hc hun hn hI hK
      obtain ⟨y27, y28, y29, y30, y31, y32, y33, y34, y35, y36, y37, y38, y39, y40, y41, ea, hb, hsz, xb1, pb1, xb2, pb2, xb3, pb3, f0, f1, f2, f3, f4, f5, f6, f7, f8, f9, f10, f11, f12, f13, f14, f15, f16, f17, _⟩ := hI
      try simp [Region.binds] at hn
      subst ea
      simp only [puts, Act.put, List.setIfInBounds_toArray, List.set_cons_zero, List.set_cons_succ]
      go_simp
      refine hK.out _ _ ?_
      exact ⟨y27, y28, y29, y30, y31, .pointer (some ⟨w.heap.size + 1, 0, none⟩), y33, y34, y35, y36, y37, y38, y39, y40, y41, by simp only [puts, Act.put, List.setIfInBounds_toArray, List.set_cons_zero, List.set_cons_succ], hb, hsz, xb1, fun h => (pb1.out (upd_off h)), xb2, fun h => (pb2.out (upd_off h)), xb3, fun h => (pb3.out (upd_off h)), fun h => (f0.out (upd_of rfl h)), fun h => (f1.out (upd_of rfl h)), fun h => (f2.out (upd_of rfl h)), fun h => (f3.out (upd_of rfl h)), fun h => (f4.out (upd_of rfl h)), fun _ => rfl, fun h => (f6.out (upd_of rfl h)), fun h => (f7.out (upd_of rfl h)), fun h => (f8.out (upd_of rfl h)), fun h => (f9.out (upd_of rfl h)), fun h => (f10.out (upd_of rfl h)), fun h => (f11.out (upd_of rfl h)), fun h => (f12.out (upd_of rfl h)), fun h => (f13.out (upd_of rfl h)), fun h => (f14.out (upd_of rfl h)), fun h => (f15.out (upd_of rfl h)), fun h => (f16.out (upd_of rfl h)), fun h => (f17.out (upd_of rfl h)), trivial⟩
    · intro dd aa ww K hc hun hn hI hK
      obtain ⟨y27, y28, y29, y30, y31, y32, y33, y34, y35, y36, y37, y38, y39, y40, y41, ea, hb, hsz, xb1, pb1, xb2, pb2, xb3, pb3, f0, f1, f2, f3, f4, f5, f6, f7, f8, f9, f10, f11, f12, f13, f14, f15, f16, f17, _⟩ := hI
      try simp [Region.binds] at hn
      have ex := f5.out (by simp [hn])
      subst ex
      have hs := hc.not (f := 8) (s := 16) (l := 6) (by kernel_rfl) hun
      have e0 := pb2.out hs 0 (by simp)
      simp only [List.getElem?_cons_zero, List.getElem?_cons_succ] at e0
      subst ea
      simp only [puts, Act.put, List.setIfInBounds_toArray, List.set_cons_zero, List.set_cons_succ]
      go_simp
      refine hK.out _ _ ?_
      exact ⟨y27, y28, y29, y30, y31, .pointer (some ⟨w.heap.size + 1, 0, none⟩), .bool b2, y34, y35, y36, y37, y38, y39, y40, y41, by simp only [puts, Act.put, List.setIfInBounds_toArray, List.set_cons_zero, List.set_cons_succ], hb, hsz, xb1, fun h => (pb1.out (upd_off h)), xb2, fun h => (pb2.out (upd_off h)), xb3, fun h => (pb3.out (upd_off h)), fun h => (f0.out (upd_of rfl h)), fun h => (f1.out (upd_of rfl h)), fun h => (f2.out (upd_of rfl h)), fun h => (f3.out (upd_of rfl h)), fun h => (f4.out (upd_of rfl h)), fun h => rfl, fun _ => rfl, fun h => (f7.out (upd_of rfl h)), fun h => (f8.out (upd_of rfl h)), fun h => (f9.out (upd_of rfl h)), fun h => (f10.out (upd_of rfl h)), fun h => (f11.out (upd_of rfl h)), fun h => (f12.out (upd_of rfl h)), fun h => (f13.out (upd_of rfl h)), fun h => (f14.out (upd_of rfl h)), fun h => (f15.out (upd_of rfl h)), fun h => (f16.out (upd_of rfl h)), fun h => (f17.out (upd_of rfl h)), trivial⟩
    · intro dd aa ww K hc hun hn hI hK
      obtain ⟨y27, y28, y29, y30, y31, y32, y33, y34, y35, y36, y37, y38, y39, y40, y41, ea, hb, hsz, xb1, pb1, xb2, pb2, xb3, pb3, f0, f1, f2, f3, f4, f5, f6, f7, f8, f9, f10, f11, f12, f13, f14, f15, f16, f17, _⟩ := hI
      try simp [Region.binds] at hn
      subst ea
      simp only [puts, Act.put, List.setIfInBounds_toArray, List.set_cons_zero, List.set_cons_succ]
      go_simp
      refine hK.out _ _ ?_
      exact ⟨y27, y28, y29, y30, y31, y32, y33, .pointer (some ⟨w.heap.size + 1, 1, none⟩), y35, y36, y37, y38, y39, y40, y41, by simp only [puts, Act.put, List.setIfInBounds_toArray, List.set_cons_zero, List.set_cons_succ], hb, hsz, xb1, fun h => (pb1.out (upd_off h)), xb2, fun h => (pb2.out (upd_off h)), xb3, fun h => (pb3.out (upd_off h)), fun h => (f0.out (upd_of rfl h)), fun h => (f1.out (upd_of rfl h)), fun h => (f2.out (upd_of rfl h)), fun h => (f3.out (upd_of rfl h)), fun h => (f4.out (upd_of rfl h)), fun h => (f5.out (upd_of rfl h)), fun h => (f6.out (upd_of rfl h)), fun _ => rfl, fun h => (f8.out (upd_of rfl h)), fun h => (f9.out (upd_of rfl h)), fun h => (f10.out (upd_of rfl h)), fun h => (f11.out (upd_of rfl h)), fun h => (f12.out (upd_of rfl h)), fun h => (f13.out (upd_of rfl h)), fun h => (f14.out (upd_of rfl h)), fun h => (f15.out (upd_of rfl h)), fun h => (f16.out (upd_of rfl h)), fun h => (f17.out (upd_of rfl h)), trivial⟩
    · intro dd aa ww K hc hun hn hI hK
      obtain ⟨y27, y28, y29, y30, y31, y32, y33, y34, y35, y36, y37, y38, y39, y40, y41, ea, hb, hsz, xb1, pb1, xb2, pb2, xb3, pb3, f0, f1, f2, f3, f4, f5, f6, f7, f8, f9, f10, f11, f12, f13, f14, f15, f16, f17, _⟩ := hI
      try simp [Region.binds] at hn
      have ex := f7.out (by simp [hn])
      subst ex
      have hs := hc.not (f := 8) (s := 16) (l := 8) (by kernel_rfl) hun
      have e1 := pb2.out hs 1 (by simp)
      simp only [List.getElem?_cons_zero, List.getElem?_cons_succ] at e1
      subst ea
      simp only [puts, Act.put, List.setIfInBounds_toArray, List.set_cons_zero, List.set_cons_succ]
      go_simp
      refine hK.out _ _ ?_
      exact ⟨y27, y28, y29, y30, y31, y32, y33, .pointer (some ⟨w.heap.size + 1, 1, none⟩), .slice a2 n2 c2, y36, y37, y38, y39, y40, y41, by simp only [puts, Act.put, List.setIfInBounds_toArray, List.set_cons_zero, List.set_cons_succ], hb, hsz, xb1, fun h => (pb1.out (upd_off h)), xb2, fun h => (pb2.out (upd_off h)), xb3, fun h => (pb3.out (upd_off h)), fun h => (f0.out (upd_of rfl h)), fun h => (f1.out (upd_of rfl h)), fun h => (f2.out (upd_of rfl h)), fun h => (f3.out (upd_of rfl h)), fun h => (f4.out (upd_of rfl h)), fun h => (f5.out (upd_of rfl h)), fun h => (f6.out (upd_of rfl h)), fun h => rfl, fun _ => rfl, fun h => (f9.out (upd_of rfl h)), fun h => (f10.out (upd_of rfl h)), fun h => (f11.out (upd_of rfl h)), fun h => (f12.out (upd_of rfl h)), fun h => (f13.out (upd_of rfl h)), fun h => (f14.out (upd_of rfl h)), fun h => (f15.out (upd_of rfl h)), fun h => (f16.out (upd_of rfl h)), fun h => (f17.out (upd_of rfl h)), trivial⟩
    · intro dd aa ww K hc hun hn hI hK
      obtain ⟨y27, y28, y29, y30, y31, y32, y33, y34, y35, y36, y37, y38, y39, y40, y41, ea, hb, hsz, xb1, pb1, xb2, pb2, xb3, pb3, f0, f1, f2, f3, f4, f5, f6, f7, f8, f9, f10, f11, f12, f13, f14, f15, f16, f17, _⟩ := hI
      try simp [Region.binds] at hn
      have ex := f6.out (by simp [hn])
      subst ex
      have ex := f8.out (by simp [hn])
      subst ex
      subst ea
      simp only [puts, Act.put, List.setIfInBounds_toArray, List.set_cons_zero, List.set_cons_succ]
      go_simp
      with_reducible refine (make_any _ _ _ _ l2 _ (G2.past hb) (by omega)).mono ?_
      rintro e w1 ⟨ahC, nhC, chC, rfl, hC, h1⟩
      rw [HY.out] at hC ⊢
      refine hK.out _ _ ?_
      exact ⟨y27, y28, y29, y30, y31, y32, .bool b2, y34, .slice a2 n2 c2, .agg #[.bool (neg (y)), .slice ahC nhC chC], y37, y38, y39, y40, y41, by simp only [puts, Act.put, List.setIfInBounds_toArray, List.set_cons_zero, List.set_cons_succ], below_later hb h1, Nat.le_trans hsz h1.size, xb1.past h1 (Nat.lt_of_lt_of_le lb1 hsz), fun h => (pb1.out (upd_off h)).past h1 (Nat.lt_of_lt_of_le lb1 hsz), xb2.past h1 (Nat.lt_of_lt_of_le lb2 hsz), fun h => (pb2.out (upd_off h)).past h1 (Nat.lt_of_lt_of_le lb2 hsz), xb3.past h1 (Nat.lt_of_lt_of_le lb3 hsz), fun h => (pb3.out (upd_off h)).past h1 (Nat.lt_of_lt_of_le lb3 hsz), fun h => (f0.out (upd_of rfl h)), fun h => (f1.out (upd_of rfl h)), fun h => (f2.out (upd_of rfl h)), fun h => (f3.out (upd_of rfl h)), fun h => (f4.out (upd_of rfl h)).past h1, fun h => (f5.out (upd_of rfl h)), fun h => rfl, fun h => (f7.out (upd_of rfl h)), fun h => rfl, fun _ => ⟨_, _, _, rfl, hC.mono hsz⟩, fun h => (f10.out (upd_of rfl h)), fun h => (f11.out (upd_of rfl h)), fun h => (f12.out (upd_of rfl h)), fun h => (f13.out (upd_of rfl h)), fun h => (f14.out (upd_of rfl h)).past h1, fun h => (f15.out (upd_of rfl h)).past h1 (Nat.lt_of_lt_of_le lb1 hsz), fun h => absurd (hc.reach (f := 8) (s := 16) (l := 9) (by kernel_rfl) (upd_of rfl h)) (by rw [hun]; decide), fun h => (f17.out (upd_of rfl h)).past h1 (Nat.lt_of_lt_of_le lb3 hsz), trivial⟩
    · intro dd aa ww K hc hun hn hI hK
      obtain ⟨y27, y28, y29, y30, y31, y32, y33, y34, y35, y36, y37, y38, y39, y40, y41, ea, hb, hsz, xb1, pb1, xb2, pb2, xb3, pb3, f0, f1, f2, f3, f4, f5, f6, f7, f8, f9, f10, f11, f12, f13, f14, f15, f16, f17, _⟩ := hI
      try simp [Region.binds] at hn
      subst ea
      simp only [puts, Act.put, List.setIfInBounds_toArray, List.set_cons_zero, List.set_cons_succ]
      go_simp
      refine hK.out _ _ ?_
      exact ⟨y27, y28, y29, y30, y31, y32, y33, y34, y35, y36, .pointer (some ⟨w.heap.size + 1 + 1, 0, none⟩), y38, y39, y40, y41, by simp only [puts, Act.put, List.setIfInBounds_toArray, List.set_cons_zero, List.set_cons_succ], hb, hsz, xb1, fun h => (pb1.out (upd_off h)), xb2, fun h => (pb2.out (upd_off h)), xb3, fun h => (pb3.out (upd_off h)), fun h => (f0.out (upd_of rfl h)), fun h => (f1.out (upd_of rfl h)), fun h => (f2.out (upd_of rfl h)), fun h => (f3.out (upd_of rfl h)), fun h => (f4.out (upd_of rfl h)), fun h => (f5.out (upd_of rfl h)), fun h => (f6.out (upd_of rfl h)), fun h => (f7.out (upd_of rfl h)), fun h => (f8.out (upd_of rfl h)), fun h => (f9.out (upd_of rfl h)), fun _ => rfl, fun h => (f11.out (upd_of rfl h)), fun h => (f12.out (upd_of rfl h)), fun h => (f13.out (upd_of rfl h)), fun h => (f14.out (upd_of rfl h)), fun h => (f15.out (upd_of rfl h)), fun h => (f16.out (upd_of rfl h)), fun h => (f17.out (upd_of rfl h)), trivial⟩
    · intro dd aa ww K hc hun hn hI hK
      obtain ⟨y27, y28, y29, y30, y31, y32, y33, y34, y35, y36, y37, y38, y39, y40, y41, ea, hb, hsz, xb1, pb1, xb2, pb2, xb3, pb3, f0, f1, f2, f3, f4, f5, f6, f7, f8, f9, f10, f11, f12, f13, f14, f15, f16, f17, _⟩ := hI
      try simp [Region.binds] at hn
      have ex := f10.out (by simp [hn])
      subst ex
      have hs := hc.not (f := 8) (s := 17) (l := 11) (by kernel_rfl) hun
      have e0 := pb3.out hs 0 (by simp)
      simp only [List.getElem?_cons_zero, List.getElem?_cons_succ] at e0
      subst ea
      simp only [puts, Act.put, List.setIfInBounds_toArray, List.set_cons_zero, List.set_cons_succ]
      go_simp
      refine hK.out _ _ ?_
      exact ⟨y27, y28, y29, y30, y31, y32, y33, y34, y35, y36, .pointer (some ⟨w.heap.size + 1 + 1, 0, none⟩), .bool b3, y39, y40, y41, by simp only [puts, Act.put, List.setIfInBounds_toArray, List.set_cons_zero, List.set_cons_succ], hb, hsz, xb1, fun h => (pb1.out (upd_off h)), xb2, fun h => (pb2.out (upd_off h)), xb3, fun h => (pb3.out (upd_off h)), fun h => (f0.out (upd_of rfl h)), fun h => (f1.out (upd_of rfl h)), fun h => (f2.out (upd_of rfl h)), fun h => (f3.out (upd_of rfl h)), fun h => (f4.out (upd_of rfl h)), fun h => (f5.out (upd_of rfl h)), fun h => (f6.out (upd_of rfl h)), fun h => (f7.out (upd_of rfl h)), fun h => (f8.out (upd_of rfl h)), fun h => (f9.out (upd_of rfl h)), fun h => rfl, fun _ => rfl, fun h => (f12.out (upd_of rfl h)), fun h => (f13.out (upd_of rfl h)), fun h => (f14.out (upd_of rfl h)), fun h => (f15.out (upd_of rfl h)), fun h => (f16.out (upd_of rfl h)), fun h => (f17.out (upd_of rfl h)), trivial⟩
    · intro dd aa ww K hc hun hn hI hK
      obtain ⟨y27, y28, y29, y30, y31, y32, y33, y34, y35, y36, y37, y38, y39, y40, y41, ea, hb, hsz, xb1, pb1, xb2, pb2, xb3, pb3, f0, f1, f2, f3, f4, f5, f6, f7, f8, f9, f10, f11, f12, f13, f14, f15, f16, f17, _⟩ := hI
      try simp [Region.binds] at hn
      subst ea
      simp only [puts, Act.put, List.setIfInBounds_toArray, List.set_cons_zero, List.set_cons_succ]
      go_simp
      refine hK.out _ _ ?_
      exact ⟨y27, y28, y29, y30, y31, y32, y33, y34, y35, y36, y37, y38, .pointer (some ⟨w.heap.size + 1 + 1, 1, none⟩), y40, y41, by simp only [puts, Act.put, List.setIfInBounds_toArray, List.set_cons_zero, List.set_cons_succ], hb, hsz, xb1, fun h => (pb1.out (upd_off h)), xb2, fun h => (pb2.out (upd_off h)), xb3, fun h => (pb3.out (upd_off h)), fun h => (f0.out (upd_of rfl h)), fun h => (f1.out (upd_of rfl h)), fun h => (f2.out (upd_of rfl h)), fun h => (f3.out (upd_of rfl h)), fun h => (f4.out (upd_of rfl h)), fun h => (f5.out (upd_of rfl h)), fun h => (f6.out (upd_of rfl h)), fun h => (f7.out (upd_of rfl h)), fun h => (f8.out (upd_of rfl h)), fun h => (f9.out (upd_of rfl h)), fun h => (f10.out (upd_of rfl h)), fun h => (f11.out (upd_of rfl h)), fun _ => rfl, fun h => (f13.out (upd_of rfl h)), fun h => (f14.out (upd_of rfl h)), fun h => (f15.out (upd_of rfl h)), fun h => (f16.out (upd_of rfl h)), fun h => (f17.out (upd_of rfl h)), trivial⟩
    · intro dd aa ww K hc hun hn hI hK
      obtain ⟨y27, y28, y29, y30, y31, y32, y33, y34, y35, y36, y37, y38, y39, y40, y41, ea, hb, hsz, xb1, pb1, xb2, pb2, xb3, pb3, f0, f1, f2, f3, f4, f5, f6, f7, f8, f9, f10, f11, f12, f13, f14, f15, f16, f17, _⟩ := hI
      try simp [Region.binds] at hn
      have ex := f12.out (by simp [hn])
      subst ex
      have hs := hc.not (f := 8) (s := 17) (l := 13) (by kernel_rfl) hun
      have e1 := pb3.out hs 1 (by simp)
      simp only [List.getElem?_cons_zero, List.getElem?_cons_succ] at e1
      subst ea
      simp only [puts, Act.put, List.setIfInBounds_toArray, List.set_cons_zero, List.set_cons_succ]
      go_simp
      refine hK.out _ _ ?_
      exact ⟨y27, y28, y29, y30, y31, y32, y33, y34, y35, y36, y37, y38, .pointer (some ⟨w.heap.size + 1 + 1, 1, none⟩), .slice a3 n3 c3, y41, by simp only [puts, Act.put, List.setIfInBounds_toArray, List.set_cons_zero, List.set_cons_succ], hb, hsz, xb1, fun h => (pb1.out (upd_off h)), xb2, fun h => (pb2.out (upd_off h)), xb3, fun h => (pb3.out (upd_off h)), fun h => (f0.out (upd_of rfl h)), fun h => (f1.out (upd_of rfl h)), fun h => (f2.out (upd_of rfl h)), fun h => (f3.out (upd_of rfl h)), fun h => (f4.out (upd_of rfl h)), fun h => (f5.out (upd_of rfl h)), fun h => (f6.out (upd_of rfl h)), fun h => (f7.out (upd_of rfl h)), fun h => (f8.out (upd_of rfl h)), fun h => (f9.out (upd_of rfl h)), fun h => (f10.out (upd_of rfl h)), fun h => (f11.out (upd_of rfl h)), fun h => rfl, fun _ => rfl, fun h => (f14.out (upd_of rfl h)), fun h => (f15.out (upd_of rfl h)), fun h => (f16.out (upd_of rfl h)), fun h => (f17.out (upd_of rfl h)), trivial⟩
    · intro dd aa ww K hc hun hn hI hK
      obtain ⟨y27, y28, y29, y30, y31, y32, y33, y34, y35, y36, y37, y38, y39, y40, y41, ea, hb, hsz, xb1, pb1, xb2, pb2, xb3, pb3, f0, f1, f2, f3, f4, f5, f6, f7, f8, f9, f10, f11, f12, f13, f14, f15, f16, f17, _⟩ := hI
      try simp [Region.binds] at hn
      have ex := f11.out (by simp [hn])
      subst ex
      have ex := f13.out (by simp [hn])
      subst ex
      subst ea
      simp only [puts, Act.put, List.setIfInBounds_toArray, List.set_cons_zero, List.set_cons_succ]
      go_simp
      with_reducible refine (make_any _ _ _ _ l3 _ (G3.past hb) (by omega)).mono ?_
      rintro e w1 ⟨ahD, nhD, chD, rfl, hD, h1⟩
      rw [HZ.out] at hD ⊢
      refine hK.out _ _ ?_
      exact ⟨y27, y28, y29, y30, y31, y32, y33, y34, y35, y36, y37, .bool b3, y39, .slice a3 n3 c3, .agg #[.bool (neg (z)), .slice ahD nhD chD], by simp only [puts, Act.put, List.setIfInBounds_toArray, List.set_cons_zero, List.set_cons_succ], below_later hb h1, Nat.le_trans hsz h1.size, xb1.past h1 (Nat.lt_of_lt_of_le lb1 hsz), fun h => (pb1.out (upd_off h)).past h1 (Nat.lt_of_lt_of_le lb1 hsz), xb2.past h1 (Nat.lt_of_lt_of_le lb2 hsz), fun h => (pb2.out (upd_off h)).past h1 (Nat.lt_of_lt_of_le lb2 hsz), xb3.past h1 (Nat.lt_of_lt_of_le lb3 hsz), fun h => (pb3.out (upd_off h)).past h1 (Nat.lt_of_lt_of_le lb3 hsz), fun h => (f0.out (upd_of rfl h)), fun h => (f1.out (upd_of rfl h)), fun h => (f2.out (upd_of rfl h)), fun h => (f3.out (upd_of rfl h)), fun h => (f4.out (upd_of rfl h)).past h1, fun h => (f5.out (upd_of rfl h)), fun h => (f6.out (upd_of rfl h)), fun h => (f7.out (upd_of rfl h)), fun h => (f8.out (upd_of rfl h)), fun h => (f9.out (upd_of rfl h)).past h1, fun h => (f10.out (upd_of rfl h)), fun h => rfl, fun h => (f12.out (upd_of rfl h)), fun h => rfl, fun _ => ⟨_, _, _, rfl, hD.mono hsz⟩, fun h => (f15.out (upd_of rfl h)).past h1 (Nat.lt_of_lt_of_le lb1 hsz), fun h => (f16.out (upd_of rfl h)).past h1 (Nat.lt_of_lt_of_le lb2 hsz), fun h => absurd (hc.reach (f := 8) (s := 17) (l := 14) (by kernel_rfl) (upd_of rfl h)) (by rw [hun]; decide), trivial⟩
    · intro dd aa ww K hc hun hn hI hK
      obtain ⟨y27, y28, y29, y30, y31, y32, y33, y34, y35, y36, y37, y38, y39, y40, y41, ea, hb, hsz, xb1, pb1, xb2, pb2, xb3, pb3, f0, f1, f2, f3, f4, f5, f6, f7, f8, f9, f10, f11, f12, f13, f14, f15, f16, f17, _⟩ := hI
      try simp [Region.binds] at hn
      obtain ⟨ahA, nhA, chA, ex, hA⟩ := f4.out (by simp [hn])
      subst ex
      have x3 := xb1
      obtain ⟨v0, v1, z0, z1, z2, z3, _, _⟩ := x3.two
      have hv : ∀ v ∈ ([.bool (neg (x)), .slice ahA nhA chA] : List Value), notU v := by simp [notU_bool, notU_slice, notU_i64]
      subst ea
      simp only [puts, Act.put, List.setIfInBounds_toArray, List.set_cons_zero, List.set_cons_succ]
      go_simp
      refine hK.out _ _ ?_
      exact ⟨y27, y28, y29, y30, .agg #[.bool (neg (x)), .slice ahA nhA chA], y32, y33, y34, y35, y36, y37, y38, y39, y40, y41, by simp only [puts, Act.put, List.setIfInBounds_toArray, List.set_cons_zero, List.set_cons_succ], hb.trans (below_setCells _ _ (by omega) [.bool (neg (x)), .slice ahA nhA chA] 0 _), (by simpa using hsz), BoxAt.sets [.bool (neg (x)), .slice ahA nhA chA] _ 0 _ xb1 hv, fun h => absurd h (by simp [upd]), BoxAt.sets [.bool (neg (x)), .slice ahA nhA chA] _ 0 _ xb2 hv, fun h => Cells.sets (by omega) [.bool (neg (x)), .slice ahA nhA chA] 0 _ (pb2.out (upd_off h)), BoxAt.sets [.bool (neg (x)), .slice ahA nhA chA] _ 0 _ xb3 hv, fun h => Cells.sets (by omega) [.bool (neg (x)), .slice ahA nhA chA] 0 _ (pb3.out (upd_off h)), fun h => (f0.out (upd_of rfl h)), fun h => (f1.out (upd_of rfl h)), fun h => (f2.out (upd_of rfl h)), fun h => (f3.out (upd_of rfl h)), fun h => ((f4.out (upd_of rfl h)).setsOff lb1 [.bool (neg (x)), .slice ahA nhA chA]), fun h => (f5.out (upd_of rfl h)), fun h => (f6.out (upd_of rfl h)), fun h => (f7.out (upd_of rfl h)), fun h => (f8.out (upd_of rfl h)), fun h => ((f9.out (upd_of rfl h)).setsOff lb1 [.bool (neg (x)), .slice ahA nhA chA]), fun h => (f10.out (upd_of rfl h)), fun h => (f11.out (upd_of rfl h)), fun h => (f12.out (upd_of rfl h)), fun h => (f13.out (upd_of rfl h)), fun h => ((f14.out (upd_of rfl h)).setsOff lb1 [.bool (neg (x)), .slice ahA nhA chA]), fun _ => ⟨[.bool (neg (x)), .slice ahA nhA chA], rfl, Cells.new x3 [.bool (neg (x)), .slice ahA nhA chA] (by simp)⟩, fun h => (f16.out (upd_of rfl h)).sets (by omega) [.bool (neg (x)), .slice ahA nhA chA], fun h => (f17.out (upd_of rfl h)).sets (by omega) [.bool (neg (x)), .slice ahA nhA chA], trivial⟩
    · intro dd aa ww K hc hun hn hI hK
      obtain ⟨y27, y28, y29, y30, y31, y32, y33, y34, y35, y36, y37, y38, y39, y40, y41, ea, hb, hsz, xb1, pb1, xb2, pb2, xb3, pb3, f0, f1, f2, f3, f4, f5, f6, f7, f8, f9, f10, f11, f12, f13, f14, f15, f16, f17, _⟩ := hI
      try simp [Region.binds] at hn
      obtain ⟨ahC, nhC, chC, ex, hC⟩ := f9.out (by simp [hn])
      subst ex
      have x3 := xb2
      obtain ⟨v0, v1, z0, z1, z2, z3, _, _⟩ := x3.two
      have hv : ∀ v ∈ ([.bool (neg (y)), .slice ahC nhC chC] : List Value), notU v := by simp [notU_bool, notU_slice, notU_i64]
      subst ea
      simp only [puts, Act.put, List.setIfInBounds_toArray, List.set_cons_zero, List.set_cons_succ]
      go_simp
      refine hK.out _ _ ?_
      exact ⟨y27, y28, y29, y30, y31, y32, y33, y34, y35, .agg #[.bool (neg (y)), .slice ahC nhC chC], y37, y38, y39, y40, y41, by simp only [puts, Act.put, List.setIfInBounds_toArray, List.set_cons_zero, List.set_cons_succ], hb.trans (below_setCells _ _ (by omega) [.bool (neg (y)), .slice ahC nhC chC] 0 _), (by simpa using hsz), BoxAt.sets [.bool (neg (y)), .slice ahC nhC chC] _ 0 _ xb1 hv, fun h => Cells.sets (by omega) [.bool (neg (y)), .slice ahC nhC chC] 0 _ (pb1.out (upd_off h)), BoxAt.sets [.bool (neg (y)), .slice ahC nhC chC] _ 0 _ xb2 hv, fun h => absurd h (by simp [upd]), BoxAt.sets [.bool (neg (y)), .slice ahC nhC chC] _ 0 _ xb3 hv, fun h => Cells.sets (by omega) [.bool (neg (y)), .slice ahC nhC chC] 0 _ (pb3.out (upd_off h)), fun h => (f0.out (upd_of rfl h)), fun h => (f1.out (upd_of rfl h)), fun h => (f2.out (upd_of rfl h)), fun h => (f3.out (upd_of rfl h)), fun h => ((f4.out (upd_of rfl h)).setsOff lb2 [.bool (neg (y)), .slice ahC nhC chC]), fun h => (f5.out (upd_of rfl h)), fun h => (f6.out (upd_of rfl h)), fun h => (f7.out (upd_of rfl h)), fun h => (f8.out (upd_of rfl h)), fun h => ((f9.out (upd_of rfl h)).setsOff lb2 [.bool (neg (y)), .slice ahC nhC chC]), fun h => (f10.out (upd_of rfl h)), fun h => (f11.out (upd_of rfl h)), fun h => (f12.out (upd_of rfl h)), fun h => (f13.out (upd_of rfl h)), fun h => ((f14.out (upd_of rfl h)).setsOff lb2 [.bool (neg (y)), .slice ahC nhC chC]), fun h => (f15.out (upd_of rfl h)).sets (by omega) [.bool (neg (y)), .slice ahC nhC chC], fun _ => ⟨[.bool (neg (y)), .slice ahC nhC chC], rfl, Cells.new x3 [.bool (neg (y)), .slice ahC nhC chC] (by simp)⟩, fun h => (f17.out (upd_of rfl h)).sets (by omega) [.bool (neg (y)), .slice ahC nhC chC], trivial⟩
    · intro dd aa ww K hc hun hn hI hK
      obtain ⟨y27, y28, y29, y30, y31, y32, y33, y34, y35, y36, y37, y38, y39, y40, y41, ea, hb, hsz, xb1, pb1, xb2, pb2, xb3, pb3, f0, f1, f2, f3, f4, f5, f6, f7, f8, f9, f10, f11, f12, f13, f14, f15, f16, f17, _⟩ := hI
      try simp [Region.binds] at hn
      obtain ⟨ahD, nhD, chD, ex, hD⟩ := f14.out (by simp [hn])
      subst ex
      have x3 := xb3
      obtain ⟨v0, v1, z0, z1, z2, z3, _, _⟩ := x3.two
      have hv : ∀ v ∈ ([.bool (neg (z)), .slice ahD nhD chD] : List Value), notU v := by simp [notU_bool, notU_slice, notU_i64]
      subst ea
      simp only [puts, Act.put, List.setIfInBounds_toArray, List.set_cons_zero, List.set_cons_succ]
      go_simp
      refine hK.out _ _ ?_
      exact ⟨y27, y28, y29, y30, y31, y32, y33, y34, y35, y36, y37, y38, y39, y40, .agg #[.bool (neg (z)), .slice ahD nhD chD], by simp only [puts, Act.put, List.setIfInBounds_toArray, List.set_cons_zero, List.set_cons_succ], hb.trans (below_setCells _ _ (by omega) [.bool (neg (z)), .slice ahD nhD chD] 0 _), (by simpa using hsz), BoxAt.sets [.bool (neg (z)), .slice ahD nhD chD] _ 0 _ xb1 hv, fun h => Cells.sets (by omega) [.bool (neg (z)), .slice ahD nhD chD] 0 _ (pb1.out (upd_off h)), BoxAt.sets [.bool (neg (z)), .slice ahD nhD chD] _ 0 _ xb2 hv, fun h => Cells.sets (by omega) [.bool (neg (z)), .slice ahD nhD chD] 0 _ (pb2.out (upd_off h)), BoxAt.sets [.bool (neg (z)), .slice ahD nhD chD] _ 0 _ xb3 hv, fun h => absurd h (by simp [upd]), fun h => (f0.out (upd_of rfl h)), fun h => (f1.out (upd_of rfl h)), fun h => (f2.out (upd_of rfl h)), fun h => (f3.out (upd_of rfl h)), fun h => ((f4.out (upd_of rfl h)).setsOff lb3 [.bool (neg (z)), .slice ahD nhD chD]), fun h => (f5.out (upd_of rfl h)), fun h => (f6.out (upd_of rfl h)), fun h => (f7.out (upd_of rfl h)), fun h => (f8.out (upd_of rfl h)), fun h => ((f9.out (upd_of rfl h)).setsOff lb3 [.bool (neg (z)), .slice ahD nhD chD]), fun h => (f10.out (upd_of rfl h)), fun h => (f11.out (upd_of rfl h)), fun h => (f12.out (upd_of rfl h)), fun h => (f13.out (upd_of rfl h)), fun h => ((f14.out (upd_of rfl h)).setsOff lb3 [.bool (neg (z)), .slice ahD nhD chD]), fun h => (f15.out (upd_of rfl h)).sets (by omega) [.bool (neg (z)), .slice ahD nhD chD], fun h => (f16.out (upd_of rfl h)).sets (by omega) [.bool (neg (z)), .slice ahD nhD chD], fun _ => ⟨[.bool (neg (z)), .slice ahD nhD chD], rfl, Cells.new x3 [.bool (neg (z)), .slice ahD nhD chD] (by simp)⟩, trivial⟩
  intro dd aa w5 hd hI
  obtain ⟨y27, y28, y29, y30, y31, y32, y33, y34, y35, y36, y37, y38, y39, y40, y41, ea, hb, hsz, xb1, pb1, xb2, pb2, xb3, pb3, f0, f1, f2, f3, f4, f5, f6, f7, f8, f9, f10, f11, f12, f13, f14, f15, f16, f17, _⟩ := hI
  have ex := f0.out (hd 0 (by simp))
  subst ex
  have ex := f1.out (hd 1 (by simp))
  subst ex
  have ex := f2.out (hd 2 (by simp))
  subst ex
  have ex := f3.out (hd 3 (by simp))
  subst ex
  obtain ⟨ahA, nhA, chA, ex, hA⟩ := f4.out (hd 4 (by simp))
  subst ex
  have ex := f5.out (hd 5 (by simp))
  subst ex
  have ex := f6.out (hd 6 (by simp))
  subst ex
  have ex := f7.out (hd 7 (by simp))
  subst ex
  have ex := f8.out (hd 8 (by simp))
  subst ex
  obtain ⟨ahC, nhC, chC, ex, hC⟩ := f9.out (hd 9 (by simp))
  subst ex
  have ex := f10.out (hd 10 (by simp))
  subst ex
  have ex := f11.out (hd 11 (by simp))
  subst ex
  have ex := f12.out (hd 12 (by simp))
  subst ex
  have ex := f13.out (hd 13 (by simp))
  subst ex
  obtain ⟨ahD, nhD, chD, ex, hD⟩ := f14.out (hd 14 (by simp))
  subst ex
  obtain ⟨vs15, e, h15⟩ := f15.out (hd 15 (by simp))
  cases e
  obtain ⟨vs16, e, h16⟩ := f16.out (hd 16 (by simp))
  cases e
  obtain ⟨vs17, e, h17⟩ := f17.out (hd 17 (by simp))
  cases e
  have lb1 := Nat.lt_of_lt_of_le lb1 hsz
  have qb10 := h15 0 (by simp)
  simp only [List.getElem?_cons_zero, List.getElem?_cons_succ] at qb10
  have qb11 := h15 1 (by simp)
  simp only [List.getElem?_cons_zero, List.getElem?_cons_succ] at qb11
  have lb2 := Nat.lt_of_lt_of_le lb2 hsz
  have qb20 := h16 0 (by simp)
  simp only [List.getElem?_cons_zero, List.getElem?_cons_succ] at qb20
  have qb21 := h16 1 (by simp)
  simp only [List.getElem?_cons_zero, List.getElem?_cons_succ] at qb21
  have lb3 := Nat.lt_of_lt_of_le lb3 hsz
  have qb30 := h17 0 (by simp)
  simp only [List.getElem?_cons_zero, List.getElem?_cons_succ] at qb30
  have qb31 := h17 1 (by simp)
  simp only [List.getElem?_cons_zero, List.getElem?_cons_succ] at qb31
  subst ea
  simp only [puts, Act.put, List.setIfInBounds_toArray, List.set_cons_zero, List.set_cons_succ]
  have g1 := G1.past hb
  have g2 := G2.past hb
  have g3 := G3.past hb
  have hB := hb
  clear pb1
  clear pb2
  clear pb3
  clear hb hd
  have shA : nhA ≤ 10 := Nat.le_trans (Nat.le_of_eq hA.len.symm) kx
  have shC : nhC ≤ 10 := Nat.le_trans (Nat.le_of_eq hC.len.symm) ky
  have shD : nhD ≤ 10 := Nat.le_trans (Nat.le_of_eq hD.len.symm) kz
  go_wp2_with fail
  with_reducible refine (sadd_c hA.toNatAt hC.toNatAt (by omega) (by omega)).mono ?_
  rintro e w6 ⟨ahab, nhab, chab, rfl, hab, hb⟩
  have hA := hA.past hb
  have hC := hC.past hb
  have hD := hD.past hb
  have qb10 := (hb.cell (p := ⟨w.heap.size, 0, none⟩) lb1).trans qb10
  have qb11 := (hb.cell (p := ⟨w.heap.size, 1, none⟩) lb1).trans qb11
  have xb1 := xb1.past hb lb1
  have lb1 := Nat.lt_of_lt_of_le lb1 hb.size
  have qb20 := (hb.cell (p := ⟨w.heap.size + 1, 0, none⟩) lb2).trans qb20
  have qb21 := (hb.cell (p := ⟨w.heap.size + 1, 1, none⟩) lb2).trans qb21
  have xb2 := xb2.past hb lb2
  have lb2 := Nat.lt_of_lt_of_le lb2 hb.size
  have qb30 := (hb.cell (p := ⟨w.heap.size + 1 + 1, 0, none⟩) lb3).trans qb30
  have qb31 := (hb.cell (p := ⟨w.heap.size + 1 + 1, 1, none⟩) lb3).trans qb31
  have xb3 := xb3.past hb lb3
  have lb3 := Nat.lt_of_lt_of_le lb3 hb.size
  have hB := below_later hB hb
  clear hb
  have shab := Nat.le_trans (Nat.le_of_eq hab.len.symm) Lab.out
  go_wp2_with fail
  obtain ⟨w7, hW, hz0, hb, q, f⟩ := box1g w6 (w6.heap.size) (by omega) #[.bool (neg (x + y)), .slice ahab nhab chab] 42
  rw [hW]
  clear hW
  have hA := hA.past hb
  have hC := hC.past hb
  have hD := hD.past hb
  have hab := hab.past hb
  have qb10 := (hb.cell (p := ⟨w.heap.size, 0, none⟩) lb1).trans qb10
  have qb11 := (hb.cell (p := ⟨w.heap.size, 1, none⟩) lb1).trans qb11
  have xb1 := xb1.past hb lb1
  have lb1 := Nat.lt_of_lt_of_le lb1 hb.size
  have qb20 := (hb.cell (p := ⟨w.heap.size + 1, 0, none⟩) lb2).trans qb20
  have qb21 := (hb.cell (p := ⟨w.heap.size + 1, 1, none⟩) lb2).trans qb21
  have xb2 := xb2.past hb lb2
  have lb2 := Nat.lt_of_lt_of_le lb2 hb.size
  have qb30 := (hb.cell (p := ⟨w.heap.size + 1 + 1, 0, none⟩) lb3).trans qb30
  have qb31 := (hb.cell (p := ⟨w.heap.size + 1 + 1, 1, none⟩) lb3).trans qb31
  have xb3 := xb3.past hb lb3
  have lb3 := Nat.lt_of_lt_of_le lb3 hb.size
  have hB := below_later hB hb
  clear hb
  have lb8 : w6.heap.size < w7.heap.size := by omega
  have qb80 := q 0
  simp only [List.getElem?_toArray, List.getElem?_cons_zero, List.getElem?_cons_succ] at qb80
  have qb81 := q 1
  simp only [List.getElem?_toArray, List.getElem?_cons_zero, List.getElem?_cons_succ] at qb81
  clear q f
  clear hz0
  go_region_held3 (fun w' => (w'.cell? ⟨w.heap.size, 0, none⟩ = some (.bool (neg (x))) ∧ w'.cell? ⟨w.heap.size, 1, none⟩ = some (.slice ahA nhA chA) ∧ w'.cell? ⟨w.heap.size + 1, 0, none⟩ = some (.bool (neg (y))) ∧ w'.cell? ⟨w.heap.size + 1, 1, none⟩ = some (.slice ahC nhC chC) ∧ w'.cell? ⟨w.heap.size + 1 + 1, 0, none⟩ = some (.bool (neg (z))) ∧ w'.cell? ⟨w.heap.size + 1 + 1, 1, none⟩ = some (.slice ahD nhD chD) ∧ w'.cell? ⟨w6.heap.size, 0, none⟩ = some (.bool (neg (x + y))) ∧ w'.cell? ⟨w6.heap.size, 1, none⟩ = some (.slice ahab nhab chab)) ∧ Below w7.heap.size w7 w')
    (first
      | exact ⟨⟨((Below.refl w7.heap.size w7).drew.cell (p := ⟨w.heap.size, 0, none⟩) lb1).trans qb10, ((Below.refl w7.heap.size w7).drew.cell (p := ⟨w.heap.size, 1, none⟩) lb1).trans qb11, ((Below.refl w7.heap.size w7).drew.cell (p := ⟨w.heap.size + 1, 0, none⟩) lb2).trans qb20, ((Below.refl w7.heap.size w7).drew.cell (p := ⟨w.heap.size + 1, 1, none⟩) lb2).trans qb21, ((Below.refl w7.heap.size w7).drew.cell (p := ⟨w.heap.size + 1 + 1, 0, none⟩) lb3).trans qb30, ((Below.refl w7.heap.size w7).drew.cell (p := ⟨w.heap.size + 1 + 1, 1, none⟩) lb3).trans qb31, ((Below.refl w7.heap.size w7).drew.cell (p := ⟨w6.heap.size, 0, none⟩) lb8).trans qb80, ((Below.refl w7.heap.size w7).drew.cell (p := ⟨w6.heap.size, 1, none⟩) lb8).trans qb81⟩, (Below.refl _ _).drew⟩
      | (rename _ ∧ Below w7.heap.size w7 _ => hS
         first
           | exact ⟨⟨((below_later hS.2 hbw18).cell (p := ⟨w.heap.size, 0, none⟩) lb1).trans qb10, ((below_later hS.2 hbw18).cell (p := ⟨w.heap.size, 1, none⟩) lb1).trans qb11, ((below_later hS.2 hbw18).cell (p := ⟨w.heap.size + 1, 0, none⟩) lb2).trans qb20, ((below_later hS.2 hbw18).cell (p := ⟨w.heap.size + 1, 1, none⟩) lb2).trans qb21, ((below_later hS.2 hbw18).cell (p := ⟨w.heap.size + 1 + 1, 0, none⟩) lb3).trans qb30, ((below_later hS.2 hbw18).cell (p := ⟨w.heap.size + 1 + 1, 1, none⟩) lb3).trans qb31, ((below_later hS.2 hbw18).cell (p := ⟨w6.heap.size, 0, none⟩) lb8).trans qb80, ((below_later hS.2 hbw18).cell (p := ⟨w6.heap.size, 1, none⟩) lb8).trans qb81⟩, below_later hS.2 hbw18⟩
           | exact ⟨⟨((below_later hS.2 hbw17).cell (p := ⟨w.heap.size, 0, none⟩) lb1).trans qb10, ((below_later hS.2 hbw17).cell (p := ⟨w.heap.size, 1, none⟩) lb1).trans qb11, ((below_later hS.2 hbw17).cell (p := ⟨w.heap.size + 1, 0, none⟩) lb2).trans qb20, ((below_later hS.2 hbw17).cell (p := ⟨w.heap.size + 1, 1, none⟩) lb2).trans qb21, ((below_later hS.2 hbw17).cell (p := ⟨w.heap.size + 1 + 1, 0, none⟩) lb3).trans qb30, ((below_later hS.2 hbw17).cell (p := ⟨w.heap.size + 1 + 1, 1, none⟩) lb3).trans qb31, ((below_later hS.2 hbw17).cell (p := ⟨w6.heap.size, 0, none⟩) lb8).trans qb80, ((below_later hS.2 hbw17).cell (p := ⟨w6.heap.size, 1, none⟩) lb8).trans qb81⟩, below_later hS.2 hbw17⟩
           | exact ⟨⟨((below_later hS.2 hbw16).cell (p := ⟨w.heap.size, 0, none⟩) lb1).trans qb10, ((below_later hS.2 hbw16).cell (p := ⟨w.heap.size, 1, none⟩) lb1).trans qb11, ((below_later hS.2 hbw16).cell (p := ⟨w.heap.size + 1, 0, none⟩) lb2).trans qb20, ((below_later hS.2 hbw16).cell (p := ⟨w.heap.size + 1, 1, none⟩) lb2).trans qb21, ((below_later hS.2 hbw16).cell (p := ⟨w.heap.size + 1 + 1, 0, none⟩) lb3).trans qb30, ((below_later hS.2 hbw16).cell (p := ⟨w.heap.size + 1 + 1, 1, none⟩) lb3).trans qb31, ((below_later hS.2 hbw16).cell (p := ⟨w6.heap.size, 0, none⟩) lb8).trans qb80, ((below_later hS.2 hbw16).cell (p := ⟨w6.heap.size, 1, none⟩) lb8).trans qb81⟩, below_later hS.2 hbw16⟩
           | exact ⟨⟨((below_later hS.2 hbw15).cell (p := ⟨w.heap.size, 0, none⟩) lb1).trans qb10, ((below_later hS.2 hbw15).cell (p := ⟨w.heap.size, 1, none⟩) lb1).trans qb11, ((below_later hS.2 hbw15).cell (p := ⟨w.heap.size + 1, 0, none⟩) lb2).trans qb20, ((below_later hS.2 hbw15).cell (p := ⟨w.heap.size + 1, 1, none⟩) lb2).trans qb21, ((below_later hS.2 hbw15).cell (p := ⟨w.heap.size + 1 + 1, 0, none⟩) lb3).trans qb30, ((below_later hS.2 hbw15).cell (p := ⟨w.heap.size + 1 + 1, 1, none⟩) lb3).trans qb31, ((below_later hS.2 hbw15).cell (p := ⟨w6.heap.size, 0, none⟩) lb8).trans qb80, ((below_later hS.2 hbw15).cell (p := ⟨w6.heap.size, 1, none⟩) lb8).trans qb81⟩, below_later hS.2 hbw15⟩
           | exact ⟨⟨((below_later hS.2 hbw14).cell (p := ⟨w.heap.size, 0, none⟩) lb1).trans qb10, ((below_later hS.2 hbw14).cell (p := ⟨w.heap.size, 1, none⟩) lb1).trans qb11, ((below_later hS.2 hbw14).cell (p := ⟨w.heap.size + 1, 0, none⟩) lb2).trans qb20, ((below_later hS.2 hbw14).cell (p := ⟨w.heap.size + 1, 1, none⟩) lb2).trans qb21, ((below_later hS.2 hbw14).cell (p := ⟨w.heap.size + 1 + 1, 0, none⟩) lb3).trans qb30, ((below_later hS.2 hbw14).cell (p := ⟨w.heap.size + 1 + 1, 1, none⟩) lb3).trans qb31, ((below_later hS.2 hbw14).cell (p := ⟨w6.heap.size, 0, none⟩) lb8).trans qb80, ((below_later hS.2 hbw14).cell (p := ⟨w6.heap.size, 1, none⟩) lb8).trans qb81⟩, below_later hS.2 hbw14⟩
           | exact ⟨⟨((below_later hS.2 hbw13).cell (p := ⟨w.heap.size, 0, none⟩) lb1).trans qb10, ((below_later hS.2 hbw13).cell (p := ⟨w.heap.size, 1, none⟩) lb1).trans qb11, ((below_later hS.2 hbw13).cell (p := ⟨w.heap.size + 1, 0, none⟩) lb2).trans qb20, ((below_later hS.2 hbw13).cell (p := ⟨w.heap.size + 1, 1, none⟩) lb2).trans qb21, ((below_later hS.2 hbw13).cell (p := ⟨w.heap.size + 1 + 1, 0, none⟩) lb3).trans qb30, ((below_later hS.2 hbw13).cell (p := ⟨w.heap.size + 1 + 1, 1, none⟩) lb3).trans qb31, ((below_later hS.2 hbw13).cell (p := ⟨w6.heap.size, 0, none⟩) lb8).trans qb80, ((below_later hS.2 hbw13).cell (p := ⟨w6.heap.size, 1, none⟩) lb8).trans qb81⟩, below_later hS.2 hbw13⟩
           | exact ⟨⟨((below_later hS.2 hbw12).cell (p := ⟨w.heap.size, 0, none⟩) lb1).trans qb10, ((below_later hS.2 hbw12).cell (p := ⟨w.heap.size, 1, none⟩) lb1).trans qb11, ((below_later hS.2 hbw12).cell (p := ⟨w.heap.size + 1, 0, none⟩) lb2).trans qb20, ((below_later hS.2 hbw12).cell (p := ⟨w.heap.size + 1, 1, none⟩) lb2).trans qb21, ((below_later hS.2 hbw12).cell (p := ⟨w.heap.size + 1 + 1, 0, none⟩) lb3).trans qb30, ((below_later hS.2 hbw12).cell (p := ⟨w.heap.size + 1 + 1, 1, none⟩) lb3).trans qb31, ((below_later hS.2 hbw12).cell (p := ⟨w6.heap.size, 0, none⟩) lb8).trans qb80, ((below_later hS.2 hbw12).cell (p := ⟨w6.heap.size, 1, none⟩) lb8).trans qb81⟩, below_later hS.2 hbw12⟩
           | exact ⟨⟨((below_later hS.2 hbw11).cell (p := ⟨w.heap.size, 0, none⟩) lb1).trans qb10, ((below_later hS.2 hbw11).cell (p := ⟨w.heap.size, 1, none⟩) lb1).trans qb11, ((below_later hS.2 hbw11).cell (p := ⟨w.heap.size + 1, 0, none⟩) lb2).trans qb20, ((below_later hS.2 hbw11).cell (p := ⟨w.heap.size + 1, 1, none⟩) lb2).trans qb21, ((below_later hS.2 hbw11).cell (p := ⟨w.heap.size + 1 + 1, 0, none⟩) lb3).trans qb30, ((below_later hS.2 hbw11).cell (p := ⟨w.heap.size + 1 + 1, 1, none⟩) lb3).trans qb31, ((below_later hS.2 hbw11).cell (p := ⟨w6.heap.size, 0, none⟩) lb8).trans qb80, ((below_later hS.2 hbw11).cell (p := ⟨w6.heap.size, 1, none⟩) lb8).trans qb81⟩, below_later hS.2 hbw11⟩
           | exact ⟨⟨((below_later hS.2 hbw10).cell (p := ⟨w.heap.size, 0, none⟩) lb1).trans qb10, ((below_later hS.2 hbw10).cell (p := ⟨w.heap.size, 1, none⟩) lb1).trans qb11, ((below_later hS.2 hbw10).cell (p := ⟨w.heap.size + 1, 0, none⟩) lb2).trans qb20, ((below_later hS.2 hbw10).cell (p := ⟨w.heap.size + 1, 1, none⟩) lb2).trans qb21, ((below_later hS.2 hbw10).cell (p := ⟨w.heap.size + 1 + 1, 0, none⟩) lb3).trans qb30, ((below_later hS.2 hbw10).cell (p := ⟨w.heap.size + 1 + 1, 1, none⟩) lb3).trans qb31, ((below_later hS.2 hbw10).cell (p := ⟨w6.heap.size, 0, none⟩) lb8).trans qb80, ((below_later hS.2 hbw10).cell (p := ⟨w6.heap.size, 1, none⟩) lb8).trans qb81⟩, below_later hS.2 hbw10⟩
           | exact ⟨⟨((below_later hS.2 hbw9).cell (p := ⟨w.heap.size, 0, none⟩) lb1).trans qb10, ((below_later hS.2 hbw9).cell (p := ⟨w.heap.size, 1, none⟩) lb1).trans qb11, ((below_later hS.2 hbw9).cell (p := ⟨w.heap.size + 1, 0, none⟩) lb2).trans qb20, ((below_later hS.2 hbw9).cell (p := ⟨w.heap.size + 1, 1, none⟩) lb2).trans qb21, ((below_later hS.2 hbw9).cell (p := ⟨w.heap.size + 1 + 1, 0, none⟩) lb3).trans qb30, ((below_later hS.2 hbw9).cell (p := ⟨w.heap.size + 1 + 1, 1, none⟩) lb3).trans qb31, ((below_later hS.2 hbw9).cell (p := ⟨w6.heap.size, 0, none⟩) lb8).trans qb80, ((below_later hS.2 hbw9).cell (p := ⟨w6.heap.size, 1, none⟩) lb8).trans qb81⟩, below_later hS.2 hbw9⟩
           | exact ⟨⟨((below_later hS.2 hbw8).cell (p := ⟨w.heap.size, 0, none⟩) lb1).trans qb10, ((below_later hS.2 hbw8).cell (p := ⟨w.heap.size, 1, none⟩) lb1).trans qb11, ((below_later hS.2 hbw8).cell (p := ⟨w.heap.size + 1, 0, none⟩) lb2).trans qb20, ((below_later hS.2 hbw8).cell (p := ⟨w.heap.size + 1, 1, none⟩) lb2).trans qb21, ((below_later hS.2 hbw8).cell (p := ⟨w.heap.size + 1 + 1, 0, none⟩) lb3).trans qb30, ((below_later hS.2 hbw8).cell (p := ⟨w.heap.size + 1 + 1, 1, none⟩) lb3).trans qb31, ((below_later hS.2 hbw8).cell (p := ⟨w6.heap.size, 0, none⟩) lb8).trans qb80, ((below_later hS.2 hbw8).cell (p := ⟨w6.heap.size, 1, none⟩) lb8).trans qb81⟩, below_later hS.2 hbw8⟩
           | exact ⟨⟨((hS.2.drew).cell (p := ⟨w.heap.size, 0, none⟩) lb1).trans qb10, ((hS.2.drew).cell (p := ⟨w.heap.size, 1, none⟩) lb1).trans qb11, ((hS.2.drew).cell (p := ⟨w.heap.size + 1, 0, none⟩) lb2).trans qb20, ((hS.2.drew).cell (p := ⟨w.heap.size + 1, 1, none⟩) lb2).trans qb21, ((hS.2.drew).cell (p := ⟨w.heap.size + 1 + 1, 0, none⟩) lb3).trans qb30, ((hS.2.drew).cell (p := ⟨w.heap.size + 1 + 1, 1, none⟩) lb3).trans qb31, ((hS.2.drew).cell (p := ⟨w6.heap.size, 0, none⟩) lb8).trans qb80, ((hS.2.drew).cell (p := ⟨w6.heap.size, 1, none⟩) lb8).trans qb81⟩, hS.2.drew⟩)
      | assumption)
    (first
      | (go_at_call 47; rename _ ∧ Below w7.heap.size w7 _ => hS
         go_fit (sadd_c (hC.past hS.2).toNatAt (hA.past hS.2).toNatAt (by omega) (by omega))
         rintro e w8 ⟨ak1, nk1, ck1, rfl, k1, hbw8⟩
         rw [Int.add_comm y x] at k1 ⊢)
      | (go_at_call 40; rename _ ∧ Below w7.heap.size w7 _ => hS
         go_fit (sameWhole_yes (hab.past hS.2).toNatAt k1.toNatAt)
         rintro e w9 ⟨rfl, hbw9⟩
         have k1 := k1.past hbw9)
      | (go_at_call 47; rename _ ∧ Below w7.heap.size w7 _ => hS
         go_fit (sadd_c (hab.past hS.2).toNatAt (hD.past hS.2).toNatAt (by omega) (by omega))
         rintro e w10 ⟨ak2, nk2, ck2, rfl, k2, hbw10⟩
         have k1 := k1.past hbw10)
      | (go_at_call 47; rename _ ∧ Below w7.heap.size w7 _ => hS
         go_fit (sadd_c (hC.past hS.2).toNatAt (hD.past hS.2).toNatAt (by omega) (by omega))
         rintro e w11 ⟨ak3, nk3, ck3, rfl, k3, hbw11⟩
         have k1 := k1.past hbw11
         have k2 := k2.past hbw11
         have sk3 := Nat.le_trans (Nat.le_of_eq k3.len.symm) Lbc.out)
      | (go_at_call 47; rename _ ∧ Below w7.heap.size w7 _ => hS
         go_fit (sadd_c (hA.past hS.2).toNatAt k3.toNatAt (by omega) (by omega))
         rintro e w12 ⟨ak4, nk4, ck4, rfl, k4, hbw12⟩
         have k1 := k1.past hbw12
         have k2 := k2.past hbw12
         have k3 := k3.past hbw12
         rw [← Int.add_assoc x y z] at k4 ⊢)
      | (go_at_call 40; rename _ ∧ Below w7.heap.size w7 _ => hS
         go_fit (sameWhole_yes k2.toNatAt k4.toNatAt)
         rintro e w13 ⟨rfl, hbw13⟩
         have k1 := k1.past hbw13
         have k2 := k2.past hbw13
         have k3 := k3.past hbw13
         have k4 := k4.past hbw13)
      | (go_at_call 48; rename _ ∧ Below w7.heap.size w7 _ => hS
         go_fit (ssub_c (hab.past hS.2).toNatAt (hC.past hS.2).toNatAt (by omega) (by omega))
         rintro e w14 ⟨ak5, nk5, ck5, rfl, k5, hbw14⟩
         have k1 := k1.past hbw14
         have k2 := k2.past hbw14
         have k3 := k3.past hbw14
         have k4 := k4.past hbw14
         rw [Int.add_sub_cancel x y] at k5 ⊢)
      | (go_at_call 40; rename _ ∧ Below w7.heap.size w7 _ => hS
         go_fit (sameWhole_yes k5.toNatAt (hA.past hS.2).toNatAt)
         rintro e w15 ⟨rfl, hbw15⟩
         have k1 := k1.past hbw15
         have k2 := k2.past hbw15
         have k3 := k3.past hbw15
         have k4 := k4.past hbw15
         have k5 := k5.past hbw15)
      | (go_at_call 50; rename _ ∧ Below w7.heap.size w7 _ => hS
         go_fit (sneg_c (hA.past hS.2).toNatAt (by omega))
         rintro e w16 ⟨ak6, nk6, ck6, rfl, k6, hbw16⟩
         have k1 := k1.past hbw16
         have k2 := k2.past hbw16
         have k3 := k3.past hbw16
         have k4 := k4.past hbw16
         have k5 := k5.past hbw16
         have sk6 := Nat.le_trans (Nat.le_of_eq k6.len.symm) Lna.out)
      | (go_at_call 47; rename _ ∧ Below w7.heap.size w7 _ => hS
         go_fit (sadd_c (hA.past hS.2).toNatAt k6.toNatAt (by omega) (by omega))
         rintro e w17 ⟨ak7, nk7, ck7, rfl, k7, hbw17⟩
         have k1 := k1.past hbw17
         have k2 := k2.past hbw17
         have k3 := k3.past hbw17
         have k4 := k4.past hbw17
         have k5 := k5.past hbw17
         have k6 := k6.past hbw17
         rw [Int.add_right_neg x] at k7 ⊢)
      | (go_at_call 57; rename _ ∧ Below w7.heap.size w7 _ => hS
         go_fit (is04_yes k7.toNatAt (by decide) (by decide))
         rintro e w18 ⟨rfl, hbw18⟩
         have k1 := k1.past hbw18
         have k2 := k2.past hbw18
         have k3 := k3.past hbw18
         have k4 := k4.past hbw18
         have k5 := k5.past hbw18
         have k6 := k6.past hbw18
         have k7 := k7.past hbw18))
  rename _ ∧ Below w7.heap.size w7 w18 => hS
  have hbR := hS.2
  have hA := hA.past hbR
  have hC := hC.past hbR
  have hD := hD.past hbR
  have hab := hab.past hbR
  have qb10 := (hbR.cell (p := ⟨w.heap.size, 0, none⟩) lb1).trans qb10
  have qb11 := (hbR.cell (p := ⟨w.heap.size, 1, none⟩) lb1).trans qb11
  have xb1 := xb1.past hbR lb1
  have lb1 := Nat.lt_of_lt_of_le lb1 hbR.size
  have qb20 := (hbR.cell (p := ⟨w.heap.size + 1, 0, none⟩) lb2).trans qb20
  have qb21 := (hbR.cell (p := ⟨w.heap.size + 1, 1, none⟩) lb2).trans qb21
  have xb2 := xb2.past hbR lb2
  have lb2 := Nat.lt_of_lt_of_le lb2 hbR.size
  have qb30 := (hbR.cell (p := ⟨w.heap.size + 1 + 1, 0, none⟩) lb3).trans qb30
  have qb31 := (hbR.cell (p := ⟨w.heap.size + 1 + 1, 1, none⟩) lb3).trans qb31
  have xb3 := xb3.past hbR lb3
  have lb3 := Nat.lt_of_lt_of_le lb3 hbR.size
  have qb80 := (hbR.cell (p := ⟨w6.heap.size, 0, none⟩) lb8).trans qb80
  have qb81 := (hbR.cell (p := ⟨w6.heap.size, 1, none⟩) lb8).trans qb81
  have lb8 := Nat.lt_of_lt_of_le lb8 hbR.size
  have hB := below_later hB hbR
  clear hS hbR
  go_wp2_with fail
  with_reducible refine (smul_c hA.toNatAt hC.toNatAt (by omega) (by omega)).mono ?_
  rintro e w19 ⟨ahp, nhp, chp, rfl, hp, hb⟩
  have hA := hA.past hb
  have hC := hC.past hb
  have hD := hD.past hb
  have hab := hab.past hb
  have qb10 := (hb.cell (p := ⟨w.heap.size, 0, none⟩) lb1).trans qb10
  have qb11 := (hb.cell (p := ⟨w.heap.size, 1, none⟩) lb1).trans qb11
  have xb1 := xb1.past hb lb1
  have lb1 := Nat.lt_of_lt_of_le lb1 hb.size
  have qb20 := (hb.cell (p := ⟨w.heap.size + 1, 0, none⟩) lb2).trans qb20
  have qb21 := (hb.cell (p := ⟨w.heap.size + 1, 1, none⟩) lb2).trans qb21
  have xb2 := xb2.past hb lb2
  have lb2 := Nat.lt_of_lt_of_le lb2 hb.size
  have qb30 := (hb.cell (p := ⟨w.heap.size + 1 + 1, 0, none⟩) lb3).trans qb30
  have qb31 := (hb.cell (p := ⟨w.heap.size + 1 + 1, 1, none⟩) lb3).trans qb31
  have xb3 := xb3.past hb lb3
  have lb3 := Nat.lt_of_lt_of_le lb3 hb.size
  have qb80 := (hb.cell (p := ⟨w6.heap.size, 0, none⟩) lb8).trans qb80
  have qb81 := (hb.cell (p := ⟨w6.heap.size, 1, none⟩) lb8).trans qb81
  have lb8 := Nat.lt_of_lt_of_le lb8 hb.size
  have hB := below_later hB hb
  clear hb
  have shp := Nat.le_trans (Nat.le_of_eq hp.len.symm) Lp.out
  go_wp2_with fail
  obtain ⟨w20, hW, hz0, hb, q, f⟩ := box1g w19 (w19.heap.size) (by omega) #[.bool (neg (x * y)), .slice ahp nhp chp] 42
  rw [hW]
  clear hW
  have hA := hA.past hb
  have hC := hC.past hb
  have hD := hD.past hb
  have hab := hab.past hb
  have hp := hp.past hb
  have qb10 := (hb.cell (p := ⟨w.heap.size, 0, none⟩) lb1).trans qb10
  have qb11 := (hb.cell (p := ⟨w.heap.size, 1, none⟩) lb1).trans qb11
  have xb1 := xb1.past hb lb1
  have lb1 := Nat.lt_of_lt_of_le lb1 hb.size
  have qb20 := (hb.cell (p := ⟨w.heap.size + 1, 0, none⟩) lb2).trans qb20
  have qb21 := (hb.cell (p := ⟨w.heap.size + 1, 1, none⟩) lb2).trans qb21
  have xb2 := xb2.past hb lb2
  have lb2 := Nat.lt_of_lt_of_le lb2 hb.size
  have qb30 := (hb.cell (p := ⟨w.heap.size + 1 + 1, 0, none⟩) lb3).trans qb30
  have qb31 := (hb.cell (p := ⟨w.heap.size + 1 + 1, 1, none⟩) lb3).trans qb31
  have xb3 := xb3.past hb lb3
  have lb3 := Nat.lt_of_lt_of_le lb3 hb.size
  have qb80 := (hb.cell (p := ⟨w6.heap.size, 0, none⟩) lb8).trans qb80
  have qb81 := (hb.cell (p := ⟨w6.heap.size, 1, none⟩) lb8).trans qb81
  have lb8 := Nat.lt_of_lt_of_le lb8 hb.size
  have hB := below_later hB hb
  clear hb
  have lb10 : w19.heap.size < w20.heap.size := by omega
  have qb100 := q 0
  simp only [List.getElem?_toArray, List.getElem?_cons_zero, List.getElem?_cons_succ] at qb100
  have qb101 := q 1
  simp only [List.getElem?_toArray, List.getElem?_cons_zero, List.getElem?_cons_succ] at qb101
  clear q f
  clear hz0
  go_region_held3 (fun w' => (w'.cell? ⟨w.heap.size, 0, none⟩ = some (.bool (neg (x))) ∧ w'.cell? ⟨w.heap.size, 1, none⟩ = some (.slice ahA nhA chA) ∧ w'.cell? ⟨w.heap.size + 1, 0, none⟩ = some (.bool (neg (y))) ∧ w'.cell? ⟨w.heap.size + 1, 1, none⟩ = some (.slice ahC nhC chC) ∧ w'.cell? ⟨w.heap.size + 1 + 1, 0, none⟩ = some (.bool (neg (z))) ∧ w'.cell? ⟨w.heap.size + 1 + 1, 1, none⟩ = some (.slice ahD nhD chD) ∧ w'.cell? ⟨w6.heap.size, 0, none⟩ = some (.bool (neg (x + y))) ∧ w'.cell? ⟨w6.heap.size, 1, none⟩ = some (.slice ahab nhab chab) ∧ w'.cell? ⟨w19.heap.size, 0, none⟩ = some (.bool (neg (x * y))) ∧ w'.cell? ⟨w19.heap.size, 1, none⟩ = some (.slice ahp nhp chp)) ∧ Below w20.heap.size w20 w')
    (first
      | exact ⟨⟨((Below.refl w20.heap.size w20).drew.cell (p := ⟨w.heap.size, 0, none⟩) lb1).trans qb10, ((Below.refl w20.heap.size w20).drew.cell (p := ⟨w.heap.size, 1, none⟩) lb1).trans qb11, ((Below.refl w20.heap.size w20).drew.cell (p := ⟨w.heap.size + 1, 0, none⟩) lb2).trans qb20, ((Below.refl w20.heap.size w20).drew.cell (p := ⟨w.heap.size + 1, 1, none⟩) lb2).trans qb21, ((Below.refl w20.heap.size w20).drew.cell (p := ⟨w.heap.size + 1 + 1, 0, none⟩) lb3).trans qb30, ((Below.refl w20.heap.size w20).drew.cell (p := ⟨w.heap.size + 1 + 1, 1, none⟩) lb3).trans qb31, ((Below.refl w20.heap.size w20).drew.cell (p := ⟨w6.heap.size, 0, none⟩) lb8).trans qb80, ((Below.refl w20.heap.size w20).drew.cell (p := ⟨w6.heap.size, 1, none⟩) lb8).trans qb81, ((Below.refl w20.heap.size w20).drew.cell (p := ⟨w19.heap.size, 0, none⟩) lb10).trans qb100, ((Below.refl w20.heap.size w20).drew.cell (p := ⟨w19.heap.size, 1, none⟩) lb10).trans qb101⟩, (Below.refl _ _).drew⟩
      | (rename _ ∧ Below w20.heap.size w20 _ => hS
         first
           | exact ⟨⟨((below_later hS.2 hbw35).cell (p := ⟨w.heap.size, 0, none⟩) lb1).trans qb10, ((below_later hS.2 hbw35).cell (p := ⟨w.heap.size, 1, none⟩) lb1).trans qb11, ((below_later hS.2 hbw35).cell (p := ⟨w.heap.size + 1, 0, none⟩) lb2).trans qb20, ((below_later hS.2 hbw35).cell (p := ⟨w.heap.size + 1, 1, none⟩) lb2).trans qb21, ((below_later hS.2 hbw35).cell (p := ⟨w.heap.size + 1 + 1, 0, none⟩) lb3).trans qb30, ((below_later hS.2 hbw35).cell (p := ⟨w.heap.size + 1 + 1, 1, none⟩) lb3).trans qb31, ((below_later hS.2 hbw35).cell (p := ⟨w6.heap.size, 0, none⟩) lb8).trans qb80, ((below_later hS.2 hbw35).cell (p := ⟨w6.heap.size, 1, none⟩) lb8).trans qb81, ((below_later hS.2 hbw35).cell (p := ⟨w19.heap.size, 0, none⟩) lb10).trans qb100, ((below_later hS.2 hbw35).cell (p := ⟨w19.heap.size, 1, none⟩) lb10).trans qb101⟩, below_later hS.2 hbw35⟩
           | exact ⟨⟨((below_later hS.2 hbw34).cell (p := ⟨w.heap.size, 0, none⟩) lb1).trans qb10, ((below_later hS.2 hbw34).cell (p := ⟨w.heap.size, 1, none⟩) lb1).trans qb11, ((below_later hS.2 hbw34).cell (p := ⟨w.heap.size + 1, 0, none⟩) lb2).trans qb20, ((below_later hS.2 hbw34).cell (p := ⟨w.heap.size + 1, 1, none⟩) lb2).trans qb21, ((below_later hS.2 hbw34).cell (p := ⟨w.heap.size + 1 + 1, 0, none⟩) lb3).trans qb30, ((below_later hS.2 hbw34).cell (p := ⟨w.heap.size + 1 + 1, 1, none⟩) lb3).trans qb31, ((below_later hS.2 hbw34).cell (p := ⟨w6.heap.size, 0, none⟩) lb8).trans qb80, ((below_later hS.2 hbw34).cell (p := ⟨w6.heap.size, 1, none⟩) lb8).trans qb81, ((below_later hS.2 hbw34).cell (p := ⟨w19.heap.size, 0, none⟩) lb10).trans qb100, ((below_later hS.2 hbw34).cell (p := ⟨w19.heap.size, 1, none⟩) lb10).trans qb101⟩, below_later hS.2 hbw34⟩
           | exact ⟨⟨((below_later hS.2 hbw33).cell (p := ⟨w.heap.size, 0, none⟩) lb1).trans qb10, ((below_later hS.2 hbw33).cell (p := ⟨w.heap.size, 1, none⟩) lb1).trans qb11, ((below_later hS.2 hbw33).cell (p := ⟨w.heap.size + 1, 0, none⟩) lb2).trans qb20, ((below_later hS.2 hbw33).cell (p := ⟨w.heap.size + 1, 1, none⟩) lb2).trans qb21, ((below_later hS.2 hbw33).cell (p := ⟨w.heap.size + 1 + 1, 0, none⟩) lb3).trans qb30, ((below_later hS.2 hbw33).cell (p := ⟨w.heap.size + 1 + 1, 1, none⟩) lb3).trans qb31, ((below_later hS.2 hbw33).cell (p := ⟨w6.heap.size, 0, none⟩) lb8).trans qb80, ((below_later hS.2 hbw33).cell (p := ⟨w6.heap.size, 1, none⟩) lb8).trans qb81, ((below_later hS.2 hbw33).cell (p := ⟨w19.heap.size, 0, none⟩) lb10).trans qb100, ((below_later hS.2 hbw33).cell (p := ⟨w19.heap.size, 1, none⟩) lb10).trans qb101⟩, below_later hS.2 hbw33⟩
           | exact ⟨⟨((below_later hS.2 hbw32).cell (p := ⟨w.heap.size, 0, none⟩) lb1).trans qb10, ((below_later hS.2 hbw32).cell (p := ⟨w.heap.size, 1, none⟩) lb1).trans qb11, ((below_later hS.2 hbw32).cell (p := ⟨w.heap.size + 1, 0, none⟩) lb2).trans qb20, ((below_later hS.2 hbw32).cell (p := ⟨w.heap.size + 1, 1, none⟩) lb2).trans qb21, ((below_later hS.2 hbw32).cell (p := ⟨w.heap.size + 1 + 1, 0, none⟩) lb3).trans qb30, ((below_later hS.2 hbw32).cell (p := ⟨w.heap.size + 1 + 1, 1, none⟩) lb3).trans qb31, ((below_later hS.2 hbw32).cell (p := ⟨w6.heap.size, 0, none⟩) lb8).trans qb80, ((below_later hS.2 hbw32).cell (p := ⟨w6.heap.size, 1, none⟩) lb8).trans qb81, ((below_later hS.2 hbw32).cell (p := ⟨w19.heap.size, 0, none⟩) lb10).trans qb100, ((below_later hS.2 hbw32).cell (p := ⟨w19.heap.size, 1, none⟩) lb10).trans qb101⟩, below_later hS.2 hbw32⟩
           | exact ⟨⟨((below_later hS.2 hbw31).cell (p := ⟨w.heap.size, 0, none⟩) lb1).trans qb10, ((below_later hS.2 hbw31).cell (p := ⟨w.heap.size, 1, none⟩) lb1).trans qb11, ((below_later hS.2 hbw31).cell (p := ⟨w.heap.size + 1, 0, none⟩) lb2).trans qb20, ((below_later hS.2 hbw31).cell (p := ⟨w.heap.size + 1, 1, none⟩) lb2).trans qb21, ((below_later hS.2 hbw31).cell (p := ⟨w.heap.size + 1 + 1, 0, none⟩) lb3).trans qb30, ((below_later hS.2 hbw31).cell (p := ⟨w.heap.size + 1 + 1, 1, none⟩) lb3).trans qb31, ((below_later hS.2 hbw31).cell (p := ⟨w6.heap.size, 0, none⟩) lb8).trans qb80, ((below_later hS.2 hbw31).cell (p := ⟨w6.heap.size, 1, none⟩) lb8).trans qb81, ((below_later hS.2 hbw31).cell (p := ⟨w19.heap.size, 0, none⟩) lb10).trans qb100, ((below_later hS.2 hbw31).cell (p := ⟨w19.heap.size, 1, none⟩) lb10).trans qb101⟩, below_later hS.2 hbw31⟩
           | exact ⟨⟨((below_later hS.2 hbw30).cell (p := ⟨w.heap.size, 0, none⟩) lb1).trans qb10, ((below_later hS.2 hbw30).cell (p := ⟨w.heap.size, 1, none⟩) lb1).trans qb11, ((below_later hS.2 hbw30).cell (p := ⟨w.heap.size + 1, 0, none⟩) lb2).trans qb20, ((below_later hS.2 hbw30).cell (p := ⟨w.heap.size + 1, 1, none⟩) lb2).trans qb21, ((below_later hS.2 hbw30).cell (p := ⟨w.heap.size + 1 + 1, 0, none⟩) lb3).trans qb30, ((below_later hS.2 hbw30).cell (p := ⟨w.heap.size + 1 + 1, 1, none⟩) lb3).trans qb31, ((below_later hS.2 hbw30).cell (p := ⟨w6.heap.size, 0, none⟩) lb8).trans qb80, ((below_later hS.2 hbw30).cell (p := ⟨w6.heap.size, 1, none⟩) lb8).trans qb81, ((below_later hS.2 hbw30).cell (p := ⟨w19.heap.size, 0, none⟩) lb10).trans qb100, ((below_later hS.2 hbw30).cell (p := ⟨w19.heap.size, 1, none⟩) lb10).trans qb101⟩, below_later hS.2 hbw30⟩
           | exact ⟨⟨((below_later hS.2 hbw29).cell (p := ⟨w.heap.size, 0, none⟩) lb1).trans qb10, ((below_later hS.2 hbw29).cell (p := ⟨w.heap.size, 1, none⟩) lb1).trans qb11, ((below_later hS.2 hbw29).cell (p := ⟨w.heap.size + 1, 0, none⟩) lb2).trans qb20, ((below_later hS.2 hbw29).cell (p := ⟨w.heap.size + 1, 1, none⟩) lb2).trans qb21, ((below_later hS.2 hbw29).cell (p := ⟨w.heap.size + 1 + 1, 0, none⟩) lb3).trans qb30, ((below_later hS.2 hbw29).cell (p := ⟨w.heap.size + 1 + 1, 1, none⟩) lb3).trans qb31, ((below_later hS.2 hbw29).cell (p := ⟨w6.heap.size, 0, none⟩) lb8).trans qb80, ((below_later hS.2 hbw29).cell (p := ⟨w6.heap.size, 1, none⟩) lb8).trans qb81, ((below_later hS.2 hbw29).cell (p := ⟨w19.heap.size, 0, none⟩) lb10).trans qb100, ((below_later hS.2 hbw29).cell (p := ⟨w19.heap.size, 1, none⟩) lb10).trans qb101⟩, below_later hS.2 hbw29⟩
           | exact ⟨⟨((below_later hS.2 hbw28).cell (p := ⟨w.heap.size, 0, none⟩) lb1).trans qb10, ((below_later hS.2 hbw28).cell (p := ⟨w.heap.size, 1, none⟩) lb1).trans qb11, ((below_later hS.2 hbw28).cell (p := ⟨w.heap.size + 1, 0, none⟩) lb2).trans qb20, ((below_later hS.2 hbw28).cell (p := ⟨w.heap.size + 1, 1, none⟩) lb2).trans qb21, ((below_later hS.2 hbw28).cell (p := ⟨w.heap.size + 1 + 1, 0, none⟩) lb3).trans qb30, ((below_later hS.2 hbw28).cell (p := ⟨w.heap.size + 1 + 1, 1, none⟩) lb3).trans qb31, ((below_later hS.2 hbw28).cell (p := ⟨w6.heap.size, 0, none⟩) lb8).trans qb80, ((below_later hS.2 hbw28).cell (p := ⟨w6.heap.size, 1, none⟩) lb8).trans qb81, ((below_later hS.2 hbw28).cell (p := ⟨w19.heap.size, 0, none⟩) lb10).trans qb100, ((below_later hS.2 hbw28).cell (p := ⟨w19.heap.size, 1, none⟩) lb10).trans qb101⟩, below_later hS.2 hbw28⟩
           | exact ⟨⟨((below_later hS.2 hbw27).cell (p := ⟨w.heap.size, 0, none⟩) lb1).trans qb10, ((below_later hS.2 hbw27).cell (p := ⟨w.heap.size, 1, none⟩) lb1).trans qb11, ((below_later hS.2 hbw27).cell (p := ⟨w.heap.size + 1, 0, none⟩) lb2).trans qb20, ((below_later hS.2 hbw27).cell (p := ⟨w.heap.size + 1, 1, none⟩) lb2).trans qb21, ((below_later hS.2 hbw27).cell (p := ⟨w.heap.size + 1 + 1, 0, none⟩) lb3).trans qb30, ((below_later hS.2 hbw27).cell (p := ⟨w.heap.size + 1 + 1, 1, none⟩) lb3).trans qb31, ((below_later hS.2 hbw27).cell (p := ⟨w6.heap.size, 0, none⟩) lb8).trans qb80, ((below_later hS.2 hbw27).cell (p := ⟨w6.heap.size, 1, none⟩) lb8).trans qb81, ((below_later hS.2 hbw27).cell (p := ⟨w19.heap.size, 0, none⟩) lb10).trans qb100, ((below_later hS.2 hbw27).cell (p := ⟨w19.heap.size, 1, none⟩) lb10).trans qb101⟩, below_later hS.2 hbw27⟩
           | exact ⟨⟨((below_later hS.2 hbw26).cell (p := ⟨w.heap.size, 0, none⟩) lb1).trans qb10, ((below_later hS.2 hbw26).cell (p := ⟨w.heap.size, 1, none⟩) lb1).trans qb11, ((below_later hS.2 hbw26).cell (p := ⟨w.heap.size + 1, 0, none⟩) lb2).trans qb20, ((below_later hS.2 hbw26).cell (p := ⟨w.heap.size + 1, 1, none⟩) lb2).trans qb21, ((below_later hS.2 hbw26).cell (p := ⟨w.heap.size + 1 + 1, 0, none⟩) lb3).trans qb30, ((below_later hS.2 hbw26).cell (p := ⟨w.heap.size + 1 + 1, 1, none⟩) lb3).trans qb31, ((below_later hS.2 hbw26).cell (p := ⟨w6.heap.size, 0, none⟩) lb8).trans qb80, ((below_later hS.2 hbw26).cell (p := ⟨w6.heap.size, 1, none⟩) lb8).trans qb81, ((below_later hS.2 hbw26).cell (p := ⟨w19.heap.size, 0, none⟩) lb10).trans qb100, ((below_later hS.2 hbw26).cell (p := ⟨w19.heap.size, 1, none⟩) lb10).trans qb101⟩, below_later hS.2 hbw26⟩
           | exact ⟨⟨((below_later hS.2 hbw25).cell (p := ⟨w.heap.size, 0, none⟩) lb1).trans qb10, ((below_later hS.2 hbw25).cell (p := ⟨w.heap.size, 1, none⟩) lb1).trans qb11, ((below_later hS.2 hbw25).cell (p := ⟨w.heap.size + 1, 0, none⟩) lb2).trans qb20, ((below_later hS.2 hbw25).cell (p := ⟨w.heap.size + 1, 1, none⟩) lb2).trans qb21, ((below_later hS.2 hbw25).cell (p := ⟨w.heap.size + 1 + 1, 0, none⟩) lb3).trans qb30, ((below_later hS.2 hbw25).cell (p := ⟨w.heap.size + 1 + 1, 1, none⟩) lb3).trans qb31, ((below_later hS.2 hbw25).cell (p := ⟨w6.heap.size, 0, none⟩) lb8).trans qb80, ((below_later hS.2 hbw25).cell (p := ⟨w6.heap.size, 1, none⟩) lb8).trans qb81, ((below_later hS.2 hbw25).cell (p := ⟨w19.heap.size, 0, none⟩) lb10).trans qb100, ((below_later hS.2 hbw25).cell (p := ⟨w19.heap.size, 1, none⟩) lb10).trans qb101⟩, below_later hS.2 hbw25⟩
           | exact ⟨⟨((below_later hS.2 hbw24).cell (p := ⟨w.heap.size, 0, none⟩) lb1).trans qb10, ((below_later hS.2 hbw24).cell (p := ⟨w.heap.size, 1, none⟩) lb1).trans qb11, ((below_later hS.2 hbw24).cell (p := ⟨w.heap.size + 1, 0, none⟩) lb2).trans qb20, ((below_later hS.2 hbw24).cell (p := ⟨w.heap.size + 1, 1, none⟩) lb2).trans qb21, ((below_later hS.2 hbw24).cell (p := ⟨w.heap.size + 1 + 1, 0, none⟩) lb3).trans qb30, ((below_later hS.2 hbw24).cell (p := ⟨w.heap.size + 1 + 1, 1, none⟩) lb3).trans qb31, ((below_later hS.2 hbw24).cell (p := ⟨w6.heap.size, 0, none⟩) lb8).trans qb80, ((below_later hS.2 hbw24).cell (p := ⟨w6.heap.size, 1, none⟩) lb8).trans qb81, ((below_later hS.2 hbw24).cell (p := ⟨w19.heap.size, 0, none⟩) lb10).trans qb100, ((below_later hS.2 hbw24).cell (p := ⟨w19.heap.size, 1, none⟩) lb10).trans qb101⟩, below_later hS.2 hbw24⟩
           | exact ⟨⟨((below_later hS.2 hbw23).cell (p := ⟨w.heap.size, 0, none⟩) lb1).trans qb10, ((below_later hS.2 hbw23).cell (p := ⟨w.heap.size, 1, none⟩) lb1).trans qb11, ((below_later hS.2 hbw23).cell (p := ⟨w.heap.size + 1, 0, none⟩) lb2).trans qb20, ((below_later hS.2 hbw23).cell (p := ⟨w.heap.size + 1, 1, none⟩) lb2).trans qb21, ((below_later hS.2 hbw23).cell (p := ⟨w.heap.size + 1 + 1, 0, none⟩) lb3).trans qb30, ((below_later hS.2 hbw23).cell (p := ⟨w.heap.size + 1 + 1, 1, none⟩) lb3).trans qb31, ((below_later hS.2 hbw23).cell (p := ⟨w6.heap.size, 0, none⟩) lb8).trans qb80, ((below_later hS.2 hbw23).cell (p := ⟨w6.heap.size, 1, none⟩) lb8).trans qb81, ((below_later hS.2 hbw23).cell (p := ⟨w19.heap.size, 0, none⟩) lb10).trans qb100, ((below_later hS.2 hbw23).cell (p := ⟨w19.heap.size, 1, none⟩) lb10).trans qb101⟩, below_later hS.2 hbw23⟩
           | exact ⟨⟨((below_later hS.2 hbw22).cell (p := ⟨w.heap.size, 0, none⟩) lb1).trans qb10, ((below_later hS.2 hbw22).cell (p := ⟨w.heap.size, 1, none⟩) lb1).trans qb11, ((below_later hS.2 hbw22).cell (p := ⟨w.heap.size + 1, 0, none⟩) lb2).trans qb20, ((below_later hS.2 hbw22).cell (p := ⟨w.heap.size + 1, 1, none⟩) lb2).trans qb21, ((below_later hS.2 hbw22).cell (p := ⟨w.heap.size + 1 + 1, 0, none⟩) lb3).trans qb30, ((below_later hS.2 hbw22).cell (p := ⟨w.heap.size + 1 + 1, 1, none⟩) lb3).trans qb31, ((below_later hS.2 hbw22).cell (p := ⟨w6.heap.size, 0, none⟩) lb8).trans qb80, ((below_later hS.2 hbw22).cell (p := ⟨w6.heap.size, 1, none⟩) lb8).trans qb81, ((below_later hS.2 hbw22).cell (p := ⟨w19.heap.size, 0, none⟩) lb10).trans qb100, ((below_later hS.2 hbw22).cell (p := ⟨w19.heap.size, 1, none⟩) lb10).trans qb101⟩, below_later hS.2 hbw22⟩
           | exact ⟨⟨((below_later hS.2 hbw21).cell (p := ⟨w.heap.size, 0, none⟩) lb1).trans qb10, ((below_later hS.2 hbw21).cell (p := ⟨w.heap.size, 1, none⟩) lb1).trans qb11, ((below_later hS.2 hbw21).cell (p := ⟨w.heap.size + 1, 0, none⟩) lb2).trans qb20, ((below_later hS.2 hbw21).cell (p := ⟨w.heap.size + 1, 1, none⟩) lb2).trans qb21, ((below_later hS.2 hbw21).cell (p := ⟨w.heap.size + 1 + 1, 0, none⟩) lb3).trans qb30, ((below_later hS.2 hbw21).cell (p := ⟨w.heap.size + 1 + 1, 1, none⟩) lb3).trans qb31, ((below_later hS.2 hbw21).cell (p := ⟨w6.heap.size, 0, none⟩) lb8).trans qb80, ((below_later hS.2 hbw21).cell (p := ⟨w6.heap.size, 1, none⟩) lb8).trans qb81, ((below_later hS.2 hbw21).cell (p := ⟨w19.heap.size, 0, none⟩) lb10).trans qb100, ((below_later hS.2 hbw21).cell (p := ⟨w19.heap.size, 1, none⟩) lb10).trans qb101⟩, below_later hS.2 hbw21⟩
           | exact ⟨⟨((hS.2.drew).cell (p := ⟨w.heap.size, 0, none⟩) lb1).trans qb10, ((hS.2.drew).cell (p := ⟨w.heap.size, 1, none⟩) lb1).trans qb11, ((hS.2.drew).cell (p := ⟨w.heap.size + 1, 0, none⟩) lb2).trans qb20, ((hS.2.drew).cell (p := ⟨w.heap.size + 1, 1, none⟩) lb2).trans qb21, ((hS.2.drew).cell (p := ⟨w.heap.size + 1 + 1, 0, none⟩) lb3).trans qb30, ((hS.2.drew).cell (p := ⟨w.heap.size + 1 + 1, 1, none⟩) lb3).trans qb31, ((hS.2.drew).cell (p := ⟨w6.heap.size, 0, none⟩) lb8).trans qb80, ((hS.2.drew).cell (p := ⟨w6.heap.size, 1, none⟩) lb8).trans qb81, ((hS.2.drew).cell (p := ⟨w19.heap.size, 0, none⟩) lb10).trans qb100, ((hS.2.drew).cell (p := ⟨w19.heap.size, 1, none⟩) lb10).trans qb101⟩, hS.2.drew⟩)
      | assumption)
    (first
      | (go_at_call 49; rename _ ∧ Below w20.heap.size w20 _ => hS
         go_fit (smul_c (hC.past hS.2).toNatAt (hA.past hS.2).toNatAt (by omega) (by omega))
         rintro e w21 ⟨ak1, nk1, ck1, rfl, k1, hbw21⟩
         rw [Int.mul_comm y x] at k1 ⊢)
      | (go_at_call 40; rename _ ∧ Below w20.heap.size w20 _ => hS
         go_fit (sameWhole_yes (hp.past hS.2).toNatAt k1.toNatAt)
         rintro e w22 ⟨rfl, hbw22⟩
         have k1 := k1.past hbw22)
      | (go_at_call 49; rename _ ∧ Below w20.heap.size w20 _ => hS
         go_fit (smul_c (hp.past hS.2).toNatAt (hD.past hS.2).toNatAt (by omega) (by omega))
         rintro e w23 ⟨ak2, nk2, ck2, rfl, k2, hbw23⟩
         have k1 := k1.past hbw23)
      | (go_at_call 49; rename _ ∧ Below w20.heap.size w20 _ => hS
         go_fit (smul_c (hC.past hS.2).toNatAt (hD.past hS.2).toNatAt (by omega) (by omega))
         rintro e w29 ⟨ak7, nk7, ck7, rfl, k7, hbw29⟩
         have k1 := k1.past hbw29
         have k2 := k2.past hbw29
         have k3 := k3.past hbw29
         have k4 := k4.past hbw29
         have k5 := k5.past hbw29
         have k6 := k6.past hbw29
         have sk7 := Nat.le_trans (Nat.le_of_eq k7.len.symm) Lq.out)
      | (go_at_call 49; rename _ ∧ Below w20.heap.size w20 _ => hS
         go_fit (smul_c (hC.past hS.2).toNatAt (hD.past hS.2).toNatAt (by omega) (by omega))
         rintro e w24 ⟨ak3, nk3, ck3, rfl, k3, hbw24⟩
         have k1 := k1.past hbw24
         have k2 := k2.past hbw24
         have sk3 := Nat.le_trans (Nat.le_of_eq k3.len.symm) Lq.out)
      | (go_at_call 49; rename _ ∧ Below w20.heap.size w20 _ => hS
         go_fit (smul_c (hA.past hS.2).toNatAt k3.toNatAt (by omega) (by omega))
         rintro e w25 ⟨ak4, nk4, ck4, rfl, k4, hbw25⟩
         have k1 := k1.past hbw25
         have k2 := k2.past hbw25
         have k3 := k3.past hbw25
         rw [← Int.mul_assoc x y z] at k4 ⊢)
      | (go_at_call 40; rename _ ∧ Below w20.heap.size w20 _ => hS
         go_fit (sameWhole_yes k2.toNatAt k4.toNatAt)
         rintro e w26 ⟨rfl, hbw26⟩
         have k1 := k1.past hbw26
         have k2 := k2.past hbw26
         have k3 := k3.past hbw26
         have k4 := k4.past hbw26)
      | (go_at_call 49; rename _ ∧ Below w20.heap.size w20 _ => hS
         go_fit (smul_c (hab.past hS.2).toNatAt (hD.past hS.2).toNatAt (by omega) (by omega))
         rintro e w27 ⟨ak5, nk5, ck5, rfl, k5, hbw27⟩
         have k1 := k1.past hbw27
         have k2 := k2.past hbw27
         have k3 := k3.past hbw27
         have k4 := k4.past hbw27)
      | (go_at_call 49; rename _ ∧ Below w20.heap.size w20 _ => hS
         go_fit (smul_c (hA.past hS.2).toNatAt (hD.past hS.2).toNatAt (by omega) (by omega))
         rintro e w28 ⟨ak6, nk6, ck6, rfl, k6, hbw28⟩
         have k1 := k1.past hbw28
         have k2 := k2.past hbw28
         have k3 := k3.past hbw28
         have k4 := k4.past hbw28
         have k5 := k5.past hbw28
         have sk6 := Nat.le_trans (Nat.le_of_eq k6.len.symm) Lr.out)
      | (go_at_call 47; rename _ ∧ Below w20.heap.size w20 _ => hS
         go_fit (sadd_c k6.toNatAt k7.toNatAt (by omega) (by omega))
         rintro e w30 ⟨ak8, nk8, ck8, rfl, k8, hbw30⟩
         have k1 := k1.past hbw30
         have k2 := k2.past hbw30
         have k3 := k3.past hbw30
         have k4 := k4.past hbw30
         have k5 := k5.past hbw30
         have k6 := k6.past hbw30
         have k7 := k7.past hbw30
         rw [← Int.add_mul x y z] at k8 ⊢)
      | (go_at_call 40; rename _ ∧ Below w20.heap.size w20 _ => hS
         go_fit (sameWhole_yes k5.toNatAt k8.toNatAt)
         rintro e w31 ⟨rfl, hbw31⟩
         have k1 := k1.past hbw31
         have k2 := k2.past hbw31
         have k3 := k3.past hbw31
         have k4 := k4.past hbw31
         have k5 := k5.past hbw31
         have k6 := k6.past hbw31
         have k7 := k7.past hbw31
         have k8 := k8.past hbw31)
      | (go_at_call 50; rename _ ∧ Below w20.heap.size w20 _ => hS
         go_fit (sneg_c (hA.past hS.2).toNatAt (by omega))
         rintro e w32 ⟨ak9, nk9, ck9, rfl, k9, hbw32⟩
         have k1 := k1.past hbw32
         have k2 := k2.past hbw32
         have k3 := k3.past hbw32
         have k4 := k4.past hbw32
         have k5 := k5.past hbw32
         have k6 := k6.past hbw32
         have k7 := k7.past hbw32
         have k8 := k8.past hbw32
         have sk9 := Nat.le_trans (Nat.le_of_eq k9.len.symm) Lna.out)
      | (go_at_call 49; rename _ ∧ Below w20.heap.size w20 _ => hS
         go_fit (smul_c k9.toNatAt (hC.past hS.2).toNatAt (by omega) (by omega))
         rintro e w33 ⟨ak10, nk10, ck10, rfl, k10, hbw33⟩
         have k1 := k1.past hbw33
         have k2 := k2.past hbw33
         have k3 := k3.past hbw33
         have k4 := k4.past hbw33
         have k5 := k5.past hbw33
         have k6 := k6.past hbw33
         have k7 := k7.past hbw33
         have k8 := k8.past hbw33
         have k9 := k9.past hbw33
         rw [Int.neg_mul x y] at k10 ⊢)
      | (go_at_call 50; rename _ ∧ Below w20.heap.size w20 _ => hS
         go_fit (sneg_c (hp.past hS.2).toNatAt (by omega))
         rintro e w34 ⟨ak11, nk11, ck11, rfl, k11, hbw34⟩
         have k1 := k1.past hbw34
         have k2 := k2.past hbw34
         have k3 := k3.past hbw34
         have k4 := k4.past hbw34
         have k5 := k5.past hbw34
         have k6 := k6.past hbw34
         have k7 := k7.past hbw34
         have k8 := k8.past hbw34
         have k9 := k9.past hbw34
         have k10 := k10.past hbw34)
      | (go_at_call 40; rename _ ∧ Below w20.heap.size w20 _ => hS
         go_fit (sameWhole_yes k10.toNatAt k11.toNatAt)
         rintro e w35 ⟨rfl, hbw35⟩
         have k1 := k1.past hbw35
         have k2 := k2.past hbw35
         have k3 := k3.past hbw35
         have k4 := k4.past hbw35
         have k5 := k5.past hbw35
         have k6 := k6.past hbw35
         have k7 := k7.past hbw35
         have k8 := k8.past hbw35
         have k9 := k9.past hbw35
         have k10 := k10.past hbw35
         have k11 := k11.past hbw35))
  rename _ ∧ Below w20.heap.size w20 w35 => hS
  have hbR := hS.2
  have hA := hA.past hbR
  have hC := hC.past hbR
  have hD := hD.past hbR
  have hab := hab.past hbR
  have hp := hp.past hbR
  have qb10 := (hbR.cell (p := ⟨w.heap.size, 0, none⟩) lb1).trans qb10
  have qb11 := (hbR.cell (p := ⟨w.heap.size, 1, none⟩) lb1).trans qb11
  have xb1 := xb1.past hbR lb1
  have lb1 := Nat.lt_of_lt_of_le lb1 hbR.size
  have qb20 := (hbR.cell (p := ⟨w.heap.size + 1, 0, none⟩) lb2).trans qb20
  have qb21 := (hbR.cell (p := ⟨w.heap.size + 1, 1, none⟩) lb2).trans qb21
  have xb2 := xb2.past hbR lb2
  have lb2 := Nat.lt_of_lt_of_le lb2 hbR.size
  have qb30 := (hbR.cell (p := ⟨w.heap.size + 1 + 1, 0, none⟩) lb3).trans qb30
  have qb31 := (hbR.cell (p := ⟨w.heap.size + 1 + 1, 1, none⟩) lb3).trans qb31
  have xb3 := xb3.past hbR lb3
  have lb3 := Nat.lt_of_lt_of_le lb3 hbR.size
  have qb80 := (hbR.cell (p := ⟨w6.heap.size, 0, none⟩) lb8).trans qb80
  have qb81 := (hbR.cell (p := ⟨w6.heap.size, 1, none⟩) lb8).trans qb81
  have lb8 := Nat.lt_of_lt_of_le lb8 hbR.size
  have qb100 := (hbR.cell (p := ⟨w19.heap.size, 0, none⟩) lb10).trans qb100
  have qb101 := (hbR.cell (p := ⟨w19.heap.size, 1, none⟩) lb10).trans qb101
  have lb10 := Nat.lt_of_lt_of_le lb10 hbR.size
  have hB := below_later hB hbR
  clear hS hbR
  go_wp2_with fail
  go_region_held3 (fun w' => (w'.cell? ⟨w.heap.size, 0, none⟩ = some (.bool (neg (x))) ∧ w'.cell? ⟨w.heap.size, 1, none⟩ = some (.slice ahA nhA chA) ∧ w'.cell? ⟨w.heap.size + 1, 0, none⟩ = some (.bool (neg (y))) ∧ w'.cell? ⟨w.heap.size + 1, 1, none⟩ = some (.slice ahC nhC chC) ∧ w'.cell? ⟨w19.heap.size, 0, none⟩ = some (.bool (neg (x * y))) ∧ w'.cell? ⟨w19.heap.size, 1, none⟩ = some (.slice ahp nhp chp)) ∧ Below w35.heap.size w35 w')
    (first
      | exact ⟨⟨((Below.refl w35.heap.size w35).drew.cell (p := ⟨w.heap.size, 0, none⟩) lb1).trans qb10, ((Below.refl w35.heap.size w35).drew.cell (p := ⟨w.heap.size, 1, none⟩) lb1).trans qb11, ((Below.refl w35.heap.size w35).drew.cell (p := ⟨w.heap.size + 1, 0, none⟩) lb2).trans qb20, ((Below.refl w35.heap.size w35).drew.cell (p := ⟨w.heap.size + 1, 1, none⟩) lb2).trans qb21, ((Below.refl w35.heap.size w35).drew.cell (p := ⟨w19.heap.size, 0, none⟩) lb10).trans qb100, ((Below.refl w35.heap.size w35).drew.cell (p := ⟨w19.heap.size, 1, none⟩) lb10).trans qb101⟩, (Below.refl _ _).drew⟩
      | (rename _ ∧ Below w35.heap.size w35 _ => hS
         first
           | exact ⟨⟨((below_later hS.2 hbw41).cell (p := ⟨w.heap.size, 0, none⟩) lb1).trans qb10, ((below_later hS.2 hbw41).cell (p := ⟨w.heap.size, 1, none⟩) lb1).trans qb11, ((below_later hS.2 hbw41).cell (p := ⟨w.heap.size + 1, 0, none⟩) lb2).trans qb20, ((below_later hS.2 hbw41).cell (p := ⟨w.heap.size + 1, 1, none⟩) lb2).trans qb21, ((below_later hS.2 hbw41).cell (p := ⟨w19.heap.size, 0, none⟩) lb10).trans qb100, ((below_later hS.2 hbw41).cell (p := ⟨w19.heap.size, 1, none⟩) lb10).trans qb101⟩, below_later hS.2 hbw41⟩
           | exact ⟨⟨((below_later hS.2 hbw40).cell (p := ⟨w.heap.size, 0, none⟩) lb1).trans qb10, ((below_later hS.2 hbw40).cell (p := ⟨w.heap.size, 1, none⟩) lb1).trans qb11, ((below_later hS.2 hbw40).cell (p := ⟨w.heap.size + 1, 0, none⟩) lb2).trans qb20, ((below_later hS.2 hbw40).cell (p := ⟨w.heap.size + 1, 1, none⟩) lb2).trans qb21, ((below_later hS.2 hbw40).cell (p := ⟨w19.heap.size, 0, none⟩) lb10).trans qb100, ((below_later hS.2 hbw40).cell (p := ⟨w19.heap.size, 1, none⟩) lb10).trans qb101⟩, below_later hS.2 hbw40⟩
           | exact ⟨⟨((below_later hS.2 hbw39).cell (p := ⟨w.heap.size, 0, none⟩) lb1).trans qb10, ((below_later hS.2 hbw39).cell (p := ⟨w.heap.size, 1, none⟩) lb1).trans qb11, ((below_later hS.2 hbw39).cell (p := ⟨w.heap.size + 1, 0, none⟩) lb2).trans qb20, ((below_later hS.2 hbw39).cell (p := ⟨w.heap.size + 1, 1, none⟩) lb2).trans qb21, ((below_later hS.2 hbw39).cell (p := ⟨w19.heap.size, 0, none⟩) lb10).trans qb100, ((below_later hS.2 hbw39).cell (p := ⟨w19.heap.size, 1, none⟩) lb10).trans qb101⟩, below_later hS.2 hbw39⟩
           | exact ⟨⟨((below_later hS.2 hbw38).cell (p := ⟨w.heap.size, 0, none⟩) lb1).trans qb10, ((below_later hS.2 hbw38).cell (p := ⟨w.heap.size, 1, none⟩) lb1).trans qb11, ((below_later hS.2 hbw38).cell (p := ⟨w.heap.size + 1, 0, none⟩) lb2).trans qb20, ((below_later hS.2 hbw38).cell (p := ⟨w.heap.size + 1, 1, none⟩) lb2).trans qb21, ((below_later hS.2 hbw38).cell (p := ⟨w19.heap.size, 0, none⟩) lb10).trans qb100, ((below_later hS.2 hbw38).cell (p := ⟨w19.heap.size, 1, none⟩) lb10).trans qb101⟩, below_later hS.2 hbw38⟩
           | exact ⟨⟨((below_later hS.2 hbw37).cell (p := ⟨w.heap.size, 0, none⟩) lb1).trans qb10, ((below_later hS.2 hbw37).cell (p := ⟨w.heap.size, 1, none⟩) lb1).trans qb11, ((below_later hS.2 hbw37).cell (p := ⟨w.heap.size + 1, 0, none⟩) lb2).trans qb20, ((below_later hS.2 hbw37).cell (p := ⟨w.heap.size + 1, 1, none⟩) lb2).trans qb21, ((below_later hS.2 hbw37).cell (p := ⟨w19.heap.size, 0, none⟩) lb10).trans qb100, ((below_later hS.2 hbw37).cell (p := ⟨w19.heap.size, 1, none⟩) lb10).trans qb101⟩, below_later hS.2 hbw37⟩
           | exact ⟨⟨((below_later hS.2 hbw36).cell (p := ⟨w.heap.size, 0, none⟩) lb1).trans qb10, ((below_later hS.2 hbw36).cell (p := ⟨w.heap.size, 1, none⟩) lb1).trans qb11, ((below_later hS.2 hbw36).cell (p := ⟨w.heap.size + 1, 0, none⟩) lb2).trans qb20, ((below_later hS.2 hbw36).cell (p := ⟨w.heap.size + 1, 1, none⟩) lb2).trans qb21, ((below_later hS.2 hbw36).cell (p := ⟨w19.heap.size, 0, none⟩) lb10).trans qb100, ((below_later hS.2 hbw36).cell (p := ⟨w19.heap.size, 1, none⟩) lb10).trans qb101⟩, below_later hS.2 hbw36⟩
           | exact ⟨⟨((hS.2.drew).cell (p := ⟨w.heap.size, 0, none⟩) lb1).trans qb10, ((hS.2.drew).cell (p := ⟨w.heap.size, 1, none⟩) lb1).trans qb11, ((hS.2.drew).cell (p := ⟨w.heap.size + 1, 0, none⟩) lb2).trans qb20, ((hS.2.drew).cell (p := ⟨w.heap.size + 1, 1, none⟩) lb2).trans qb21, ((hS.2.drew).cell (p := ⟨w19.heap.size, 0, none⟩) lb10).trans qb100, ((hS.2.drew).cell (p := ⟨w19.heap.size, 1, none⟩) lb10).trans qb101⟩, hS.2.drew⟩)
      | assumption)
    (first
      | (go_at_call 37; rename _ ∧ Below w35.heap.size w35 _ => hS
         go_fit (sof_any 1 _ (by decide) (by decide))
         rintro e w36 ⟨ak1, nk1, ck1, rfl, k1, hbw36⟩
         have sk1 := Nat.le_trans (Nat.le_of_eq k1.len.symm) L1.out)
      | (go_at_call 49; rename _ ∧ Below w35.heap.size w35 _ => hS
         go_fit (smul_c (hA.past hS.2).toNatAt k1.toNatAt (by omega) (by omega))
         rintro e w37 ⟨ak2, nk2, ck2, rfl, k2, hbw37⟩
         have k1 := k1.past hbw37
         rw [Int.mul_one x] at k2 ⊢)
      | (go_at_call 40; rename _ ∧ Below w35.heap.size w35 _ => hS
         go_fit (sameWhole_yes k2.toNatAt (hA.past hS.2).toNatAt)
         rintro e w38 ⟨rfl, hbw38⟩
         have k1 := k1.past hbw38
         have k2 := k2.past hbw38)
      | (go_at_call 45; rename _ ∧ Below w35.heap.size w35 _ => hS
         go_fit (sign_c (hp.past hS.2).toNatAt (by omega))
         rintro e w39 ⟨rfl, hbw39⟩
         have k1 := k1.past hbw39
         have k2 := k2.past hbw39)
      | (go_at_call 45; rename _ ∧ Below w35.heap.size w35 _ => hS
         go_fit (sign_c (hA.past hS.2).toNatAt (by omega))
         rintro e w40 ⟨rfl, hbw40⟩
         have k1 := k1.past hbw40
         have k2 := k2.past hbw40)
      | (go_at_call 45; rename _ ∧ Below w35.heap.size w35 _ => hS
         go_fit (sign_c (hC.past hS.2).toNatAt (by omega))
         rintro e w41 ⟨rfl, hbw41⟩
         have k1 := k1.past hbw41
         have k2 := k2.past hbw41))
  rename _ ∧ Below w35.heap.size w35 w41 => hS
  have hbR := hS.2
  have hA := hA.past hbR
  have hC := hC.past hbR
  have hD := hD.past hbR
  have hab := hab.past hbR
  have hp := hp.past hbR
  have qb10 := (hbR.cell (p := ⟨w.heap.size, 0, none⟩) lb1).trans qb10
  have qb11 := (hbR.cell (p := ⟨w.heap.size, 1, none⟩) lb1).trans qb11
  have xb1 := xb1.past hbR lb1
  have lb1 := Nat.lt_of_lt_of_le lb1 hbR.size
  have qb20 := (hbR.cell (p := ⟨w.heap.size + 1, 0, none⟩) lb2).trans qb20
  have qb21 := (hbR.cell (p := ⟨w.heap.size + 1, 1, none⟩) lb2).trans qb21
  have xb2 := xb2.past hbR lb2
  have lb2 := Nat.lt_of_lt_of_le lb2 hbR.size
  have qb30 := (hbR.cell (p := ⟨w.heap.size + 1 + 1, 0, none⟩) lb3).trans qb30
  have qb31 := (hbR.cell (p := ⟨w.heap.size + 1 + 1, 1, none⟩) lb3).trans qb31
  have xb3 := xb3.past hbR lb3
  have lb3 := Nat.lt_of_lt_of_le lb3 hbR.size
  have qb80 := (hbR.cell (p := ⟨w6.heap.size, 0, none⟩) lb8).trans qb80
  have qb81 := (hbR.cell (p := ⟨w6.heap.size, 1, none⟩) lb8).trans qb81
  have lb8 := Nat.lt_of_lt_of_le lb8 hbR.size
  have qb100 := (hbR.cell (p := ⟨w19.heap.size, 0, none⟩) lb10).trans qb100
  have qb101 := (hbR.cell (p := ⟨w19.heap.size, 1, none⟩) lb10).trans qb101
  have lb10 := Nat.lt_of_lt_of_le lb10 hbR.size
  have hB := below_later hB hbR
  clear hS hbR
  go_wp2
  go_ret
  exact ⟨rfl, hB⟩

theorem signedRing_any (b : Bool) (a : Option Addr) (n c : Nat) (l : List Nat) (b2 : Bool) (a2 : Option Addr) (n2 c2 : Nat) (l2 : List Nat) (b3 : Bool) (a3 : Option Addr) (n3 c3 : Nat) (l3 : List Nat) (w : World) (g1 : NatAt w a n c l) (g2 : NatAt w a2 n2 c2 l2) (g3 : NatAt w a3 n3 c3 l3) :
    Calls Try.prog 11 #[.agg #[.bool b, .slice a n c], .agg #[.bool b2, .slice a2 n2 c2], .agg #[.bool b3, .slice a3 n3 c3]] w (RetVal w (.bool true)) := by
  by_cases q0 : n ≤ 10
  · by_cases q1 : n2 ≤ 10
    · by_cases q2 : n3 ≤ 10
      · exact signedRing_main _ _ _ _ l _ _ _ _ l2 _ _ _ _ l3 w g1 g2 g3 q0 q1 q2
      · exact signedRing_long3 _ _ _ _ l _ _ _ _ l2 _ _ _ _ l3 w g1 g2 g3 q0 q1 (by omega)
    · exact signedRing_long2 _ _ _ _ l _ _ _ _ l2 _ _ _ _ l3 w g1 g2 g3 q0 (by omega)
  · exact signedRing_long1 _ _ _ _ l _ _ _ _ l2 _ _ _ _ l3 w g1 g2 g3 (by omega)

end Go.Proofs.Ytlljljhiimeajaa
