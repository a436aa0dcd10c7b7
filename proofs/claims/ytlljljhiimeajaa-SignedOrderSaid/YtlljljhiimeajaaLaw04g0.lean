/- the laws of signed: SignedOrder. -/
import Derived.Test.YtlljljhiimeajaaLaw04d
import Derived.Test.YtlljljhiimeajaaReg2
set_option linter.unusedVariables false
set_option linter.unusedSimpArgs false
namespace Go.Proofs.Ytlljljhiimeajaa
open Go.RowKit

theorem sign_cases (z : Int) : z.sign = -1 ∨ z.sign = 0 ∨ z.sign = 1 := by
  rcases Int.lt_trichotomy z 0 with h | h | h
  · exact .inl (Int.sign_eq_neg_one_of_neg h)
  · subst h; exact .inr (.inl rfl)
  · exact .inr (.inr (Int.sign_eq_one_of_pos h))

set_option maxRecDepth 100000 in
theorem signedOrder_long1 (b : Bool) (a : Option Addr) (n c : Nat) (l : List Nat) (b2 : Bool) (a2 : Option Addr) (n2 c2 : Nat) (l2 : List Nat) (b3 : Bool) (a3 : Option Addr) (n3 c3 : Nat) (l3 : List Nat) (w : World) (g1 : NatAt w a n c l) (g2 : NatAt w a2 n2 c2 l2) (g3 : NatAt w a3 n3 c3 l3)  (hl : 10 < n) :
    Calls Try.prog 12 #[.agg #[.bool b, .slice a n c], .agg #[.bool b2, .slice a2 n2 c2], .agg #[.bool b3, .slice a3 n3 c3]] w (RetVal w (.bool true)) := by
  have hc1 := Nat.le_trans g1.le g1.cle
  have hc2 := Nat.le_trans g2.le g2.cle
  have hc3 := Nat.le_trans g3.le g3.cle
  have t0 : decide ((10 : Int) < (n : Int)) = true := by simp; omega
  go_enter Try.func12, Try.ntmps12
  have hB := Below.refl w.heap.size w
  go_wp2_with fail
  obtain ⟨w1, hW, hz0, hb, q, f⟩ := box1g w (w.heap.size) (by omega) #[.bool b, .slice a n c] 42
  rw [hW]
  clear hW
  have hB := below_later hB hb
  clear hb
  have lb1 : w.heap.size < w1.heap.size := by omega
  have qb10 := q 0
  simp only [List.getElem?_toArray, List.getElem?_cons_zero, List.getElem?_cons_succ] at qb10
  have qb11 := q 1
  simp only [List.getElem?_toArray, List.getElem?_cons_zero, List.getElem?_cons_succ] at qb11
  have xb1 : BoxAt w1 (w.heap.size) 2 := BoxAt.of q f rfl (by simp [notU_bool, notU_slice, notU_i64])
  clear q f
  obtain ⟨w2, hW, hz1, hb, q, f⟩ := box1g w1 (w.heap.size + 1) (by omega) #[.bool b2, .slice a2 n2 c2] 42
  rw [hW]
  clear hW
  have qb10 := (hb.cell (p := ⟨w.heap.size, 0, none⟩) lb1).trans qb10
  have qb11 := (hb.cell (p := ⟨w.heap.size, 1, none⟩) lb1).trans qb11
  have xb1 := xb1.past hb lb1
  have lb1 := Nat.lt_of_lt_of_le lb1 hb.size
  have hB := below_later hB hb
  clear hb
  have lb2 : w.heap.size + 1 < w2.heap.size := by omega
  have qb20 := q 0
  simp only [List.getElem?_toArray, List.getElem?_cons_zero, List.getElem?_cons_succ] at qb20
  have qb21 := q 1
  simp only [List.getElem?_toArray, List.getElem?_cons_zero, List.getElem?_cons_succ] at qb21
  have xb2 : BoxAt w2 (w.heap.size + 1) 2 := BoxAt.of q f rfl (by simp [notU_bool, notU_slice, notU_i64])
  clear q f
  obtain ⟨w3, hW, hz2, hb, q, f⟩ := box1g w2 (w.heap.size + 1 + 1) (by omega) #[.bool b3, .slice a3 n3 c3] 42
  rw [hW]
  clear hW
  have qb10 := (hb.cell (p := ⟨w.heap.size, 0, none⟩) lb1).trans qb10
  have qb11 := (hb.cell (p := ⟨w.heap.size, 1, none⟩) lb1).trans qb11
  have xb1 := xb1.past hb lb1
  have lb1 := Nat.lt_of_lt_of_le lb1 hb.size
  have qb20 := (hb.cell (p := ⟨w.heap.size + 1, 0, none⟩) lb2).trans qb20
  have qb21 := (hb.cell (p := ⟨w.heap.size + 1, 1, none⟩) lb2).trans qb21
  have xb2 := xb2.past hb lb2
  have lb2 := Nat.lt_of_lt_of_le lb2 hb.size
  have hB := below_later hB hb
  clear hb
  have lb3 : w.heap.size + 1 + 1 < w3.heap.size := by omega
  have qb30 := q 0
  simp only [List.getElem?_toArray, List.getElem?_cons_zero, List.getElem?_cons_succ] at qb30
  have qb31 := q 1
  simp only [List.getElem?_toArray, List.getElem?_cons_zero, List.getElem?_cons_succ] at qb31
  have xb3 : BoxAt w3 (w.heap.size + 1 + 1) 2 := BoxAt.of q f rfl (by simp [notU_bool, notU_slice, notU_i64])
  clear q f
  clear hz0
  clear hz1
  clear hz2
  with_reducible refine (signedKnown_any _).mono ?_
  rintro e w4 ⟨rfl, hb⟩
  have qb10 := (hb.cell (p := ⟨w.heap.size, 0, none⟩) lb1).trans qb10
  have qb11 := (hb.cell (p := ⟨w.heap.size, 1, none⟩) lb1).trans qb11
  have xb1 := xb1.past hb lb1
  have lb1 := Nat.lt_of_lt_of_le lb1 hb.size
  have qb20 := (hb.cell (p := ⟨w.heap.size + 1, 0, none⟩) lb2).trans qb20
  have qb21 := (hb.cell (p := ⟨w.heap.size + 1, 1, none⟩) lb2).trans qb21
  have xb2 := xb2.past hb lb2
  have lb2 := Nat.lt_of_lt_of_le lb2 hb.size
  have qb30 := (hb.cell (p := ⟨w.heap.size + 1 + 1, 0, none⟩) lb3).trans qb30
  have qb31 := (hb.cell (p := ⟨w.heap.size + 1 + 1, 1, none⟩) lb3).trans qb31
  have xb3 := xb3.past hb lb3
  have lb3 := Nat.lt_of_lt_of_le lb3 hb.size
  have hB := below_later hB hb
  clear hb
  go_wp2_with fail
  with_reducible refine (longNat_any _ _ _ _ _ hc1).mono ?_
  rintro e w' ⟨rfl, rfl⟩
  go_wp2
  go_ret
  exact ⟨rfl, hB⟩

set_option maxRecDepth 100000 in
theorem signedOrder_long2 (b : Bool) (a : Option Addr) (n c : Nat) (l : List Nat) (b2 : Bool) (a2 : Option Addr) (n2 c2 : Nat) (l2 : List Nat) (b3 : Bool) (a3 : Option Addr) (n3 c3 : Nat) (l3 : List Nat) (w : World) (g1 : NatAt w a n c l) (g2 : NatAt w a2 n2 c2 l2) (g3 : NatAt w a3 n3 c3 l3) (q0 : n ≤ 10) (hl : 10 < n2) :
    Calls Try.prog 12 #[.agg #[.bool b, .slice a n c], .agg #[.bool b2, .slice a2 n2 c2], .agg #[.bool b3, .slice a3 n3 c3]] w (RetVal w (.bool true)) := by
  have hc1 := Nat.le_trans g1.le g1.cle
  have hc2 := Nat.le_trans g2.le g2.cle
  have hc3 := Nat.le_trans g3.le g3.cle
  have t0 : decide ((10 : Int) < (n : Int)) = false := by simp; omega
  have t1 : decide ((10 : Int) < (n2 : Int)) = true := by simp; omega
  go_enter Try.func12, Try.ntmps12
  have hB := Below.refl w.heap.size w
  go_wp2_with fail
  obtain ⟨w1, hW, hz0, hb, q, f⟩ := box1g w (w.heap.size) (by omega) #[.bool b, .slice a n c] 42
  rw [hW]
  clear hW
  have hB := below_later hB hb
  clear hb
  have lb1 : w.heap.size < w1.heap.size := by omega
  have qb10 := q 0
  simp only [List.getElem?_toArray, List.getElem?_cons_zero, List.getElem?_cons_succ] at qb10
  have qb11 := q 1
  simp only [List.getElem?_toArray, List.getElem?_cons_zero, List.getElem?_cons_succ] at qb11
  have xb1 : BoxAt w1 (w.heap.size) 2 := BoxAt.of q f rfl (by simp [notU_bool, notU_slice, notU_i64])
  clear q f
  obtain ⟨w2, hW, hz1, hb, q, f⟩ := box1g w1 (w.heap.size + 1) (by omega) #[.bool b2, .slice a2 n2 c2] 42
  rw [hW]
  clear hW
  have qb10 := (hb.cell (p := ⟨w.heap.size, 0, none⟩) lb1).trans qb10
  have qb11 := (hb.cell (p := ⟨w.heap.size, 1, none⟩) lb1).trans qb11
  have xb1 := xb1.past hb lb1
  have lb1 := Nat.lt_of_lt_of_le lb1 hb.size
  have hB := below_later hB hb
  clear hb
  have lb2 : w.heap.size + 1 < w2.heap.size := by omega
  have qb20 := q 0
  simp only [List.getElem?_toArray, List.getElem?_cons_zero, List.getElem?_cons_succ] at qb20
  have qb21 := q 1
  simp only [List.getElem?_toArray, List.getElem?_cons_zero, List.getElem?_cons_succ] at qb21
  have xb2 : BoxAt w2 (w.heap.size + 1) 2 := BoxAt.of q f rfl (by simp [notU_bool, notU_slice, notU_i64])
  clear q f
  obtain ⟨w3, hW, hz2, hb, q, f⟩ := box1g w2 (w.heap.size + 1 + 1) (by omega) #[.bool b3, .slice a3 n3 c3] 42
  rw [hW]
  clear hW
  have qb10 := (hb.cell (p := ⟨w.heap.size, 0, none⟩) lb1).trans qb10
  have qb11 := (hb.cell (p := ⟨w.heap.size, 1, none⟩) lb1).trans qb11
  have xb1 := xb1.past hb lb1
  have lb1 := Nat.lt_of_lt_of_le lb1 hb.size
  have qb20 := (hb.cell (p := ⟨w.heap.size + 1, 0, none⟩) lb2).trans qb20
  have qb21 := (hb.cell (p := ⟨w.heap.size + 1, 1, none⟩) lb2).trans qb21
  have xb2 := xb2.past hb lb2
  have lb2 := Nat.lt_of_lt_of_le lb2 hb.size
  have hB := below_later hB hb
  clear hb
  have lb3 : w.heap.size + 1 + 1 < w3.heap.size := by omega
  have qb30 := q 0
  simp only [List.getElem?_toArray, List.getElem?_cons_zero, List.getElem?_cons_succ] at qb30
  have qb31 := q 1
  simp only [List.getElem?_toArray, List.getElem?_cons_zero, List.getElem?_cons_succ] at qb31
  have xb3 : BoxAt w3 (w.heap.size + 1 + 1) 2 := BoxAt.of q f rfl (by simp [notU_bool, notU_slice, notU_i64])
  clear q f
  clear hz0
  clear hz1
  clear hz2
  with_reducible refine (signedKnown_any _).mono ?_
  rintro e w4 ⟨rfl, hb⟩
  have qb10 := (hb.cell (p := ⟨w.heap.size, 0, none⟩) lb1).trans qb10
  have qb11 := (hb.cell (p := ⟨w.heap.size, 1, none⟩) lb1).trans qb11
  have xb1 := xb1.past hb lb1
  have lb1 := Nat.lt_of_lt_of_le lb1 hb.size
  have qb20 := (hb.cell (p := ⟨w.heap.size + 1, 0, none⟩) lb2).trans qb20
  have qb21 := (hb.cell (p := ⟨w.heap.size + 1, 1, none⟩) lb2).trans qb21
  have xb2 := xb2.past hb lb2
  have lb2 := Nat.lt_of_lt_of_le lb2 hb.size
  have qb30 := (hb.cell (p := ⟨w.heap.size + 1 + 1, 0, none⟩) lb3).trans qb30
  have qb31 := (hb.cell (p := ⟨w.heap.size + 1 + 1, 1, none⟩) lb3).trans qb31
  have xb3 := xb3.past hb lb3
  have lb3 := Nat.lt_of_lt_of_le lb3 hb.size
  have hB := below_later hB hb
  clear hb
  go_wp2_with fail
  with_reducible refine (longNat_any _ _ _ _ _ hc1).mono ?_
  rintro e w' ⟨rfl, rfl⟩
  go_wp2_with fail
  with_reducible refine (longNat_any _ _ _ _ _ hc2).mono ?_
  rintro e w' ⟨rfl, rfl⟩
  go_wp2
  go_ret
  exact ⟨rfl, hB⟩

set_option maxRecDepth 100000 in
theorem signedOrder_long3 (b : Bool) (a : Option Addr) (n c : Nat) (l : List Nat) (b2 : Bool) (a2 : Option Addr) (n2 c2 : Nat) (l2 : List Nat) (b3 : Bool) (a3 : Option Addr) (n3 c3 : Nat) (l3 : List Nat) (w : World) (g1 : NatAt w a n c l) (g2 : NatAt w a2 n2 c2 l2) (g3 : NatAt w a3 n3 c3 l3) (q0 : n ≤ 10) (q1 : n2 ≤ 10) (hl : 10 < n3) :
    Calls Try.prog 12 #[.agg #[.bool b, .slice a n c], .agg #[.bool b2, .slice a2 n2 c2], .agg #[.bool b3, .slice a3 n3 c3]] w (RetVal w (.bool true)) := by
  have hc1 := Nat.le_trans g1.le g1.cle
  have hc2 := Nat.le_trans g2.le g2.cle
  have hc3 := Nat.le_trans g3.le g3.cle
  have t0 : decide ((10 : Int) < (n : Int)) = false := by simp; omega
  have t1 : decide ((10 : Int) < (n2 : Int)) = false := by simp; omega
  have t2 : decide ((10 : Int) < (n3 : Int)) = true := by simp; omega
  go_enter Try.func12, Try.ntmps12
  have hB := Below.refl w.heap.size w
  go_wp2_with fail
  obtain ⟨w1, hW, hz0, hb, q, f⟩ := box1g w (w.heap.size) (by omega) #[.bool b, .slice a n c] 42
  rw [hW]
  clear hW
  have hB := below_later hB hb
  clear hb
  have lb1 : w.heap.size < w1.heap.size := by omega
  have qb10 := q 0
  simp only [List.getElem?_toArray, List.getElem?_cons_zero, List.getElem?_cons_succ] at qb10
  have qb11 := q 1
  simp only [List.getElem?_toArray, List.getElem?_cons_zero, List.getElem?_cons_succ] at qb11
  have xb1 : BoxAt w1 (w.heap.size) 2 := BoxAt.of q f rfl (by simp [notU_bool, notU_slice, notU_i64])
  clear q f
  obtain ⟨w2, hW, hz1, hb, q, f⟩ := box1g w1 (w.heap.size + 1) (by omega) #[.bool b2, .slice a2 n2 c2] 42
  rw [hW]
  clear hW
  have qb10 := (hb.cell (p := ⟨w.heap.size, 0, none⟩) lb1).trans qb10
  have qb11 := (hb.cell (p := ⟨w.heap.size, 1, none⟩) lb1).trans qb11
  have xb1 := xb1.past hb lb1
  have lb1 := Nat.lt_of_lt_of_le lb1 hb.size
  have hB := below_later hB hb
  clear hb
  have lb2 : w.heap.size + 1 < w2.heap.size := by omega
  have qb20 := q 0
  simp only [List.getElem?_toArray, List.getElem?_cons_zero, List.getElem?_cons_succ] at qb20
  have qb21 := q 1
  simp only [List.getElem?_toArray, List.getElem?_cons_zero, List.getElem?_cons_succ] at qb21
  have xb2 : BoxAt w2 (w.heap.size + 1) 2 := BoxAt.of q f rfl (by simp [notU_bool, notU_slice, notU_i64])
  clear q f
  obtain ⟨w3, hW, hz2, hb, q, f⟩ := box1g w2 (w.heap.size + 1 + 1) (by omega) #[.bool b3, .slice a3 n3 c3] 42
  rw [hW]
  clear hW
  have qb10 := (hb.cell (p := ⟨w.heap.size, 0, none⟩) lb1).trans qb10
  have qb11 := (hb.cell (p := ⟨w.heap.size, 1, none⟩) lb1).trans qb11
  have xb1 := xb1.past hb lb1
  have lb1 := Nat.lt_of_lt_of_le lb1 hb.size
  have qb20 := (hb.cell (p := ⟨w.heap.size + 1, 0, none⟩) lb2).trans qb20
  have qb21 := (hb.cell (p := ⟨w.heap.size + 1, 1, none⟩) lb2).trans qb21
  have xb2 := xb2.past hb lb2
  have lb2 := Nat.lt_of_lt_of_le lb2 hb.size
  have hB := below_later hB hb
  clear hb
  have lb3 : w.heap.size + 1 + 1 < w3.heap.size := by omega
  have qb30 := q 0
  simp only [List.getElem?_toArray, List.getElem?_cons_zero, List.getElem?_cons_succ] at qb30
  have qb31 := q 1
  simp only [List.getElem?_toArray, List.getElem?_cons_zero, List.getElem?_cons_succ] at qb31
  have xb3 : BoxAt w3 (w.heap.size + 1 + 1) 2 := BoxAt.of q f rfl (by simp [notU_bool, notU_slice, notU_i64])
  clear q f
  clear hz0
  clear hz1
  clear hz2
  with_reducible refine (signedKnown_any _).mono ?_
  rintro e w4 ⟨rfl, hb⟩
  have qb10 := (hb.cell (p := ⟨w.heap.size, 0, none⟩) lb1).trans qb10
  have qb11 := (hb.cell (p := ⟨w.heap.size, 1, none⟩) lb1).trans qb11
  have xb1 := xb1.past hb lb1
  have lb1 := Nat.lt_of_lt_of_le lb1 hb.size
  have qb20 := (hb.cell (p := ⟨w.heap.size + 1, 0, none⟩) lb2).trans qb20
  have qb21 := (hb.cell (p := ⟨w.heap.size + 1, 1, none⟩) lb2).trans qb21
  have xb2 := xb2.past hb lb2
  have lb2 := Nat.lt_of_lt_of_le lb2 hb.size
  have qb30 := (hb.cell (p := ⟨w.heap.size + 1 + 1, 0, none⟩) lb3).trans qb30
  have qb31 := (hb.cell (p := ⟨w.heap.size + 1 + 1, 1, none⟩) lb3).trans qb31
  have xb3 := xb3.past hb lb3
  have lb3 := Nat.lt_of_lt_of_le lb3 hb.size
  have hB := below_later hB hb
  clear hb
  go_wp2_with fail
  with_reducible refine (longNat_any _ _ _ _ _ hc1).mono ?_
  rintro e w' ⟨rfl, rfl⟩
  go_wp2_with fail
  with_reducible refine (longNat_any _ _ _ _ _ hc2).mono ?_
  rintro e w' ⟨rfl, rfl⟩
  go_wp2_with fail
  with_reducible refine (longNat_any _ _ _ _ _ hc3).mono ?_
  rintro e w' ⟨rfl, rfl⟩
  go_wp2
  go_ret
  exact ⟨rfl, hB⟩


end Go.Proofs.Ytlljljhiimeajaa
