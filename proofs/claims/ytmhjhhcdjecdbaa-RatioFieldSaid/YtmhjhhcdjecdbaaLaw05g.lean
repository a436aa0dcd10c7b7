/- the laws of ratio: RatioField. -/
import Derived.Test.YtmhjhhcdjecdbaaLaw05e
import Derived.Test.YtmhjhhcdjecdbaaLaw05d
set_option linter.unusedVariables false
set_option linter.unusedSimpArgs false
namespace Go.Proofs.Ytmhjhhcdjecdbaa
open Go.RowKit

theorem rat_mul_div {p q : Rat} (h : q ≠ 0) : p * q / q = p := by rw [Rat.div_def, Rat.mul_assoc, Rat.mul_inv_cancel q h, Rat.mul_one]
theorem rat_turn_add (p q r : Rat) : r + p + q = p + q + r := by rw [Rat.add_assoc, Rat.add_comm r]
theorem rat_turn_mul (p q r : Rat) : q * r * p = p * q * r := by rw [Rat.mul_comm, Rat.mul_assoc]

set_option maxRecDepth 100000 in
set_option maxHeartbeats 8000000 in
theorem ratioField_long {b1 : Bool} {a1 : Option Addr} {n1 c1 : Nat} {l1 : List Nat} {a2 : Option Addr} {n2 c2 : Nat} {l2 : List Nat} {b3 : Bool} {a3 : Option Addr} {n3 c3 : Nat} {l3 : List Nat} {a4 : Option Addr} {n4 c4 : Nat} {l4 : List Nat} {b5 : Bool} {a5 : Option Addr} {n5 c5 : Nat} {l5 : List Nat} {a6 : Option Addr} {n6 c6 : Nat} {l6 : List Nat} {w : World} (g1 : NatAt w a1 n1 c1 l1) (g2 : NatAt w a2 n2 c2 l2) (g3 : NatAt w a3 n3 c3 l3) (g4 : NatAt w a4 n4 c4 l4) (g5 : NatAt w a5 n5 c5 l5) (g6 : NatAt w a6 n6 c6 l6) (hl : (longP (b1, l1, l2) || (longP (b3, l3, l4) || longP (b5, l5, l6))) = true) :
    Calls Try.prog 7 #[.agg #[.bool b1, .slice a1 n1 c1, .slice a2 n2 c2], .agg #[.bool b3, .slice a3 n3 c3, .slice a4 n4 c4], .agg #[.bool b5, .slice a5 n5 c5, .slice a6 n6 c6]] w (RetVal w (.bool true)) := by
  rw [← longB3] at hl
  have LB := Lib.hid hl
  clear hl
  go_enter Try.func7, Try.ntmps7
  have hB := Below.refl w.heap.size w
  go_wp2_with fail
  obtain ⟨w1, hW, hz0, hb, q, f⟩ := box1g w (w.heap.size) (by omega) #[.bool b1, .slice a1 n1 c1, .slice a2 n2 c2] 31
  rw [hW]
  clear hW
  have g1 := g1.past hb
  have g2 := g2.past hb
  have g3 := g3.past hb
  have g4 := g4.past hb
  have g5 := g5.past hb
  have g6 := g6.past hb
  have hB := below_later hB hb
  clear hb
  have lx : w.heap.size < w1.heap.size := by omega
  have qx0 := q 0; have qx1 := q 1; have qx2 := q 2
  simp only [List.getElem?_toArray, List.getElem?_cons_zero, List.getElem?_cons_succ] at qx0 qx1 qx2
  clear q f
  obtain ⟨w2, hW, hz1, hb, q, f⟩ := box1g w1 (w.heap.size + 1) (by omega) #[.bool b3, .slice a3 n3 c3, .slice a4 n4 c4] 31
  rw [hW]
  clear hW
  have g1 := g1.past hb
  have g2 := g2.past hb
  have g3 := g3.past hb
  have g4 := g4.past hb
  have g5 := g5.past hb
  have g6 := g6.past hb
  have qx0 := bq hb lx qx0; have qx1 := bq hb lx qx1; have qx2 := bq hb lx qx2
  have lx := bl hb lx
  have hB := below_later hB hb
  clear hb
  have ly : w.heap.size + 1 < w2.heap.size := by omega
  have qy0 := q 0; have qy1 := q 1; have qy2 := q 2
  simp only [List.getElem?_toArray, List.getElem?_cons_zero, List.getElem?_cons_succ] at qy0 qy1 qy2
  clear q f
  obtain ⟨w3, hW, hz2, hb, q, f⟩ := box1g w2 (w.heap.size + 1 + 1) (by omega) #[.bool b5, .slice a5 n5 c5, .slice a6 n6 c6] 31
  rw [hW]
  clear hW
  have g1 := g1.past hb
  have g2 := g2.past hb
  have g3 := g3.past hb
  have g4 := g4.past hb
  have g5 := g5.past hb
  have g6 := g6.past hb
  have qx0 := bq hb lx qx0; have qx1 := bq hb lx qx1; have qx2 := bq hb lx qx2
  have lx := bl hb lx
  have qy0 := bq hb ly qy0; have qy1 := bq hb ly qy1; have qy2 := bq hb ly qy2
  have ly := bl hb ly
  have hB := below_later hB hb
  clear hb
  have lz : w.heap.size + 1 + 1 < w3.heap.size := by omega
  have qz0 := q 0; have qz1 := q 1; have qz2 := q 2
  simp only [List.getElem?_toArray, List.getElem?_cons_zero, List.getElem?_cons_succ] at qz0 qz1 qz2
  clear q f
  clear hz0
  clear hz1
  clear hz2
  with_reducible refine (ratioKnown_any _).mono ?_
  rintro e w4 ⟨rfl, hb⟩
  have g1 := g1.past hb
  have g2 := g2.past hb
  have g3 := g3.past hb
  have g4 := g4.past hb
  have g5 := g5.past hb
  have g6 := g6.past hb
  have qx0 := bq hb lx qx0; have qx1 := bq hb lx qx1; have qx2 := bq hb lx qx2
  have lx := bl hb lx
  have qy0 := bq hb ly qy0; have qy1 := bq hb ly qy1; have qy2 := bq hb ly qy2
  have ly := bl hb ly
  have qz0 := bq hb lz qz0; have qz1 := bq hb lz qz1; have qz2 := bq hb lz qz2
  have lz := bl hb lz
  have hB := below_later hB hb
  clear hb
  go_wp2_with fail
  obtain ⟨w5, hW, hz0, hb, q, f⟩ := box1g w4 (w4.heap.size) (by omega) #[.bool b1, .slice a1 n1 c1, .slice a2 n2 c2, .bool b3, .slice a3 n3 c3, .slice a4 n4 c4, .bool b5, .slice a5 n5 c5, .slice a6 n6 c6] 31
  rw [hW]
  clear hW
  have g1 := g1.past hb
  have g2 := g2.past hb
  have g3 := g3.past hb
  have g4 := g4.past hb
  have g5 := g5.past hb
  have g6 := g6.past hb
  have qx0 := bq hb lx qx0; have qx1 := bq hb lx qx1; have qx2 := bq hb lx qx2
  have lx := bl hb lx
  have qy0 := bq hb ly qy0; have qy1 := bq hb ly qy1; have qy2 := bq hb ly qy2
  have ly := bl hb ly
  have qz0 := bq hb lz qz0; have qz1 := bq hb lz qz1; have qz2 := bq hb lz qz2
  have lz := bl hb lz
  have hB := below_later hB hb
  clear hb
  have ls : w4.heap.size < w5.heap.size := by omega
  have qs0 := q 0; have qs1 := q 1; have qs2 := q 2; have qs3 := q 3; have qs4 := q 4; have qs5 := q 5; have qs6 := q 6; have qs7 := q 7; have qs8 := q 8
  simp only [List.getElem?_toArray, List.getElem?_cons_zero, List.getElem?_cons_succ] at qs0 qs1 qs2 qs3 qs4 qs5 qs6 qs7 qs8
  clear q f
  clear hz0
  with_reducible refine (long05_any _ _ _ _ _ (RatsAt.raw3 (x := (b1, l1, l2)) (y := (b3, l3, l4)) (z := (b5, l5, l6)) ls qs0 qs1 qs2 qs3 qs4 qs5 qs6 qs7 qs8 g1 g2 g3 g4 g5 g6)).mono ?_
  rintro e w6 ⟨rfl, hb⟩
  have g1 := g1.past hb
  have g2 := g2.past hb
  have g3 := g3.past hb
  have g4 := g4.past hb
  have g5 := g5.past hb
  have g6 := g6.past hb
  have qx0 := bq hb lx qx0; have qx1 := bq hb lx qx1; have qx2 := bq hb lx qx2
  have lx := bl hb lx
  have qy0 := bq hb ly qy0; have qy1 := bq hb ly qy1; have qy2 := bq hb ly qy2
  have ly := bl hb ly
  have qz0 := bq hb lz qz0; have qz1 := bq hb lz qz1; have qz2 := bq hb lz qz2
  have lz := bl hb lz
  have qs0 := bq hb ls qs0; have qs1 := bq hb ls qs1; have qs2 := bq hb ls qs2; have qs3 := bq hb ls qs3; have qs4 := bq hb ls qs4; have qs5 := bq hb ls qs5; have qs6 := bq hb ls qs6; have qs7 := bq hb ls qs7; have qs8 := bq hb ls qs8
  have ls := bl hb ls
  have hB := below_later hB hb
  clear hb
  rw [LB.out]
  go_wp2
  go_ret
  exact ⟨rfl, hB⟩

set_option maxRecDepth 100000 in
set_option maxHeartbeats 8000000 in
theorem ratioField_bad {b1 : Bool} {a1 : Option Addr} {n1 c1 : Nat} {l1 : List Nat} {a2 : Option Addr} {n2 c2 : Nat} {l2 : List Nat} {b3 : Bool} {a3 : Option Addr} {n3 c3 : Nat} {l3 : List Nat} {a4 : Option Addr} {n4 c4 : Nat} {l4 : List Nat} {b5 : Bool} {a5 : Option Addr} {n5 c5 : Nat} {l5 : List Nat} {a6 : Option Addr} {n6 c6 : Nat} {l6 : List Nat} {w : World} (g1 : NatAt w a1 n1 c1 l1) (g2 : NatAt w a2 n2 c2 l2) (g3 : NatAt w a3 n3 c3 l3) (g4 : NatAt w a4 n4 c4 l4) (g5 : NatAt w a5 n5 c5 l5) (g6 : NatAt w a6 n6 c6 l6) (hs : (l1.length ≤ 5 ∧ l2.length ≤ 5) ∧ (l3.length ≤ 5 ∧ l4.length ≤ 5) ∧ (l5.length ≤ 5 ∧ l6.length ≤ 5)) (hl : (longP (b1, l1, l2) || (longP (b3, l3, l4) || longP (b5, l5, l6))) = false) (hb : (decide (chk3 (b1, l1, l2) = 0) && (decide (chk3 (b3, l3, l4) = 0) && decide (chk3 (b5, l5, l6) = 0))) = false) :
    Calls Try.prog 7 #[.agg #[.bool b1, .slice a1 n1 c1, .slice a2 n2 c2], .agg #[.bool b3, .slice a3 n3 c3, .slice a4 n4 c4], .agg #[.bool b5, .slice a5 n5 c5, .slice a6 n6 c6]] w (RetVal w (.bool true)) := by
  rw [← longB3] at hl
  rw [← allR3] at hb
  have gk : ∀ i, i < 3 → ((rawF [(b1, l1, l2), (b3, l3, l4), (b5, l5, l6)]) i).2.1.length ≤ 68719476736 ∧ ((rawF [(b1, l1, l2), (b3, l3, l4), (b5, l5, l6)]) i).2.2.length ≤ 68719476736 := fun i hi => by
    match i, hi with
    | 0, _ => exact ⟨Nat.le_trans hs.1.1 (by decide), Nat.le_trans hs.1.2 (by decide)⟩
    | 1, _ => exact ⟨Nat.le_trans hs.2.1.1 (by decide), Nat.le_trans hs.2.1.2 (by decide)⟩
    | 2, _ => exact ⟨Nat.le_trans hs.2.2.1 (by decide), Nat.le_trans hs.2.2.2 (by decide)⟩
  have GK := Lib.hid gk
  have LB := Lib.hid hl
  have GB := Lib.hid hb
  clear hl hb gk
  go_enter Try.func7, Try.ntmps7
  have hB := Below.refl w.heap.size w
  go_wp2_with fail
  obtain ⟨w1, hW, hz0, hb, q, f⟩ := box1g w (w.heap.size) (by omega) #[.bool b1, .slice a1 n1 c1, .slice a2 n2 c2] 31
  rw [hW]
  clear hW
  have g1 := g1.past hb
  have g2 := g2.past hb
  have g3 := g3.past hb
  have g4 := g4.past hb
  have g5 := g5.past hb
  have g6 := g6.past hb
  have hB := below_later hB hb
  clear hb
  have lx : w.heap.size < w1.heap.size := by omega
  have qx0 := q 0; have qx1 := q 1; have qx2 := q 2
  simp only [List.getElem?_toArray, List.getElem?_cons_zero, List.getElem?_cons_succ] at qx0 qx1 qx2
  clear q f
  obtain ⟨w2, hW, hz1, hb, q, f⟩ := box1g w1 (w.heap.size + 1) (by omega) #[.bool b3, .slice a3 n3 c3, .slice a4 n4 c4] 31
  rw [hW]
  clear hW
  have g1 := g1.past hb
  have g2 := g2.past hb
  have g3 := g3.past hb
  have g4 := g4.past hb
  have g5 := g5.past hb
  have g6 := g6.past hb
  have qx0 := bq hb lx qx0; have qx1 := bq hb lx qx1; have qx2 := bq hb lx qx2
  have lx := bl hb lx
  have hB := below_later hB hb
  clear hb
  have ly : w.heap.size + 1 < w2.heap.size := by omega
  have qy0 := q 0; have qy1 := q 1; have qy2 := q 2
  simp only [List.getElem?_toArray, List.getElem?_cons_zero, List.getElem?_cons_succ] at qy0 qy1 qy2
  clear q f
  obtain ⟨w3, hW, hz2, hb, q, f⟩ := box1g w2 (w.heap.size + 1 + 1) (by omega) #[.bool b5, .slice a5 n5 c5, .slice a6 n6 c6] 31
  rw [hW]
  clear hW
  have g1 := g1.past hb
  have g2 := g2.past hb
  have g3 := g3.past hb
  have g4 := g4.past hb
  have g5 := g5.past hb
  have g6 := g6.past hb
  have qx0 := bq hb lx qx0; have qx1 := bq hb lx qx1; have qx2 := bq hb lx qx2
  have lx := bl hb lx
  have qy0 := bq hb ly qy0; have qy1 := bq hb ly qy1; have qy2 := bq hb ly qy2
  have ly := bl hb ly
  have hB := below_later hB hb
  clear hb
  have lz : w.heap.size + 1 + 1 < w3.heap.size := by omega
  have qz0 := q 0; have qz1 := q 1; have qz2 := q 2
  simp only [List.getElem?_toArray, List.getElem?_cons_zero, List.getElem?_cons_succ] at qz0 qz1 qz2
  clear q f
  clear hz0
  clear hz1
  clear hz2
  with_reducible refine (ratioKnown_any _).mono ?_
  rintro e w4 ⟨rfl, hb⟩
  have g1 := g1.past hb
  have g2 := g2.past hb
  have g3 := g3.past hb
  have g4 := g4.past hb
  have g5 := g5.past hb
  have g6 := g6.past hb
  have qx0 := bq hb lx qx0; have qx1 := bq hb lx qx1; have qx2 := bq hb lx qx2
  have lx := bl hb lx
  have qy0 := bq hb ly qy0; have qy1 := bq hb ly qy1; have qy2 := bq hb ly qy2
  have ly := bl hb ly
  have qz0 := bq hb lz qz0; have qz1 := bq hb lz qz1; have qz2 := bq hb lz qz2
  have lz := bl hb lz
  have hB := below_later hB hb
  clear hb
  go_wp2_with fail
  obtain ⟨w5, hW, hz0, hb, q, f⟩ := box1g w4 (w4.heap.size) (by omega) #[.bool b1, .slice a1 n1 c1, .slice a2 n2 c2, .bool b3, .slice a3 n3 c3, .slice a4 n4 c4, .bool b5, .slice a5 n5 c5, .slice a6 n6 c6] 31
  rw [hW]
  clear hW
  have g1 := g1.past hb
  have g2 := g2.past hb
  have g3 := g3.past hb
  have g4 := g4.past hb
  have g5 := g5.past hb
  have g6 := g6.past hb
  have qx0 := bq hb lx qx0; have qx1 := bq hb lx qx1; have qx2 := bq hb lx qx2
  have lx := bl hb lx
  have qy0 := bq hb ly qy0; have qy1 := bq hb ly qy1; have qy2 := bq hb ly qy2
  have ly := bl hb ly
  have qz0 := bq hb lz qz0; have qz1 := bq hb lz qz1; have qz2 := bq hb lz qz2
  have lz := bl hb lz
  have hB := below_later hB hb
  clear hb
  have ls : w4.heap.size < w5.heap.size := by omega
  have qs0 := q 0; have qs1 := q 1; have qs2 := q 2; have qs3 := q 3; have qs4 := q 4; have qs5 := q 5; have qs6 := q 6; have qs7 := q 7; have qs8 := q 8
  simp only [List.getElem?_toArray, List.getElem?_cons_zero, List.getElem?_cons_succ] at qs0 qs1 qs2 qs3 qs4 qs5 qs6 qs7 qs8
  clear q f
  clear hz0
  with_reducible refine (long05_any _ _ _ _ _ (RatsAt.raw3 (x := (b1, l1, l2)) (y := (b3, l3, l4)) (z := (b5, l5, l6)) ls qs0 qs1 qs2 qs3 qs4 qs5 qs6 qs7 qs8 g1 g2 g3 g4 g5 g6)).mono ?_
  rintro e w6 ⟨rfl, hb⟩
  have g1 := g1.past hb
  have g2 := g2.past hb
  have g3 := g3.past hb
  have g4 := g4.past hb
  have g5 := g5.past hb
  have g6 := g6.past hb
  have qx0 := bq hb lx qx0; have qx1 := bq hb lx qx1; have qx2 := bq hb lx qx2
  have lx := bl hb lx
  have qy0 := bq hb ly qy0; have qy1 := bq hb ly qy1; have qy2 := bq hb ly qy2
  have ly := bl hb ly
  have qz0 := bq hb lz qz0; have qz1 := bq hb lz qz1; have qz2 := bq hb lz qz2
  have lz := bl hb lz
  have qs0 := bq hb ls qs0; have qs1 := bq hb ls qs1; have qs2 := bq hb ls qs2; have qs3 := bq hb ls qs3; have qs4 := bq hb ls qs4; have qs5 := bq hb ls qs5; have qs6 := bq hb ls qs6; have qs7 := bq hb ls qs7; have qs8 := bq hb ls qs8
  have ls := bl hb ls
  have hB := below_later hB hb
  clear hb
  rw [LB.out]
  go_wp2_with fail
  obtain ⟨w7, hW, hz0, hb, q, f⟩ := box1g w6 (w6.heap.size) (by omega) #[.bool b1, .slice a1 n1 c1, .slice a2 n2 c2, .bool b3, .slice a3 n3 c3, .slice a4 n4 c4, .bool b5, .slice a5 n5 c5, .slice a6 n6 c6] 31
  rw [hW]
  clear hW
  have g1 := g1.past hb
  have g2 := g2.past hb
  have g3 := g3.past hb
  have g4 := g4.past hb
  have g5 := g5.past hb
  have g6 := g6.past hb
  have qx0 := bq hb lx qx0; have qx1 := bq hb lx qx1; have qx2 := bq hb lx qx2
  have lx := bl hb lx
  have qy0 := bq hb ly qy0; have qy1 := bq hb ly qy1; have qy2 := bq hb ly qy2
  have ly := bl hb ly
  have qz0 := bq hb lz qz0; have qz1 := bq hb lz qz1; have qz2 := bq hb lz qz2
  have lz := bl hb lz
  have hB := below_later hB hb
  clear hb
  have ls : w6.heap.size < w7.heap.size := by omega
  have qs0 := q 0; have qs1 := q 1; have qs2 := q 2; have qs3 := q 3; have qs4 := q 4; have qs5 := q 5; have qs6 := q 6; have qs7 := q 7; have qs8 := q 8
  simp only [List.getElem?_toArray, List.getElem?_cons_zero, List.getElem?_cons_succ] at qs0 qs1 qs2 qs3 qs4 qs5 qs6 qs7 qs8
  clear q f
  clear hz0
  with_reducible refine (good05_any _ _ _ _ _ (RatsAt.raw3 (x := (b1, l1, l2)) (y := (b3, l3, l4)) (z := (b5, l5, l6)) ls qs0 qs1 qs2 qs3 qs4 qs5 qs6 qs7 qs8 g1 g2 g3 g4 g5 g6) GK.out).mono ?_
  rintro e w8 ⟨rfl, hb⟩
  have g1 := g1.past hb
  have g2 := g2.past hb
  have g3 := g3.past hb
  have g4 := g4.past hb
  have g5 := g5.past hb
  have g6 := g6.past hb
  have qx0 := bq hb lx qx0; have qx1 := bq hb lx qx1; have qx2 := bq hb lx qx2
  have lx := bl hb lx
  have qy0 := bq hb ly qy0; have qy1 := bq hb ly qy1; have qy2 := bq hb ly qy2
  have ly := bl hb ly
  have qz0 := bq hb lz qz0; have qz1 := bq hb lz qz1; have qz2 := bq hb lz qz2
  have lz := bl hb lz
  have qs0 := bq hb ls qs0; have qs1 := bq hb ls qs1; have qs2 := bq hb ls qs2; have qs3 := bq hb ls qs3; have qs4 := bq hb ls qs4; have qs5 := bq hb ls qs5; have qs6 := bq hb ls qs6; have qs7 := bq hb ls qs7; have qs8 := bq hb ls qs8
  have ls := bl hb ls
  have hB := below_later hB hb
  clear hb
  rw [GB.out]
  go_wp2
  go_ret
  exact ⟨rfl, hB⟩

set_option maxRecDepth 100000 in
set_option maxHeartbeats 32000000 in
theorem ratioField_zero {p q r : Rat} {a1 : Option Addr} {n1 c1 : Nat} {a2 : Option Addr} {n2 c2 : Nat} {a3 : Option Addr} {n3 c3 : Nat} {a4 : Option Addr} {n4 c4 : Nat} {a5 : Option Addr} {n5 c5 : Nat} {a6 : Option Addr} {n6 c6 : Nat} {w : World} (g1 : NatAt w a1 n1 c1 (digs p.num.natAbs)) (g2 : NatAt w a2 n2 c2 (digs p.den)) (g3 : NatAt w a3 n3 c3 (digs q.num.natAbs)) (g4 : NatAt w a4 n4 c4 (digs q.den)) (g5 : NatAt w a5 n5 c5 (digs r.num.natAbs)) (g6 : NatAt w a6 n6 c6 (digs r.den)) (hs : ((digs p.num.natAbs).length ≤ 5 ∧ (digs p.den).length ≤ 5) ∧ ((digs q.num.natAbs).length ≤ 5 ∧ (digs q.den).length ≤ 5) ∧ ((digs r.num.natAbs).length ≤ 5 ∧ (digs r.den).length ≤ 5)) (hl : (longP ((neg p.num), (digs p.num.natAbs), (digs p.den)) || (longP ((neg q.num), (digs q.num.natAbs), (digs q.den)) || longP ((neg r.num), (digs r.num.natAbs), (digs r.den)))) = false) (hz : q = 0) :
    Calls Try.prog 7 #[.agg #[.bool (neg p.num), .slice a1 n1 c1, .slice a2 n2 c2], .agg #[.bool (neg q.num), .slice a3 n3 c3, .slice a4 n4 c4], .agg #[.bool (neg r.num), .slice a5 n5 c5, .slice a6 n6 c6]] w (RetVal w (.bool true)) := by
  rw [← longB3] at hl
  have gk : ∀ i, i < 3 → ((rawF [((neg p.num), (digs p.num.natAbs), (digs p.den)), ((neg q.num), (digs q.num.natAbs), (digs q.den)), ((neg r.num), (digs r.num.natAbs), (digs r.den))]) i).2.1.length ≤ 68719476736 ∧ ((rawF [((neg p.num), (digs p.num.natAbs), (digs p.den)), ((neg q.num), (digs q.num.natAbs), (digs q.den)), ((neg r.num), (digs r.num.natAbs), (digs r.den))]) i).2.2.length ≤ 68719476736 := fun i hi => by
    match i, hi with
    | 0, _ => exact ⟨Nat.le_trans hs.1.1 (by decide), Nat.le_trans hs.1.2 (by decide)⟩
    | 1, _ => exact ⟨Nat.le_trans hs.2.1.1 (by decide), Nat.le_trans hs.2.1.2 (by decide)⟩
    | 2, _ => exact ⟨Nat.le_trans hs.2.2.1 (by decide), Nat.le_trans hs.2.2.2 (by decide)⟩
  have e3 := allR3 ((neg p.num), (digs p.num.natAbs), (digs p.den)) ((neg q.num), (digs q.num.natAbs), (digs q.den)) ((neg r.num), (digs r.num.natAbs), (digs r.den))
  rw [show decide (chk3 ((neg p.num), (digs p.num.natAbs), (digs p.den)) = 0) = true from decide_eq_true (chk3_parts p), show decide (chk3 ((neg q.num), (digs q.num.natAbs), (digs q.den)) = 0) = true from decide_eq_true (chk3_parts q), show decide (chk3 ((neg r.num), (digs r.num.natAbs), (digs r.den)) = 0) = true from decide_eq_true (chk3_parts r)] at e3
  have e3 : allR (rawF [((neg p.num), (digs p.num.natAbs), (digs p.den)), ((neg q.num), (digs q.num.natAbs), (digs q.den)), ((neg r.num), (digs r.num.natAbs), (digs r.den))]) 3 = true := e3
  have lp : rlen p ≤ 5 := Nat.max_le.2 hs.1
  have lq : rlen q ≤ 5 := Nat.max_le.2 hs.2.1
  have lr5 : rlen r ≤ 5 := Nat.max_le.2 hs.2.2
  have LB := Lib.hid hl
  have GK := Lib.hid gk
  have GB := Lib.hid e3
  have hz3 : n3 = 0 := by rw [← g3.len]; exact num_len0.2 hz
  have HZ := Lib.hid hz
  clear hz
  have HZ3 := Lib.hid hz3
  clear hz3
  clear hl gk e3
  go_enter Try.func7, Try.ntmps7
  have hB := Below.refl w.heap.size w
  go_wp2_with fail
  obtain ⟨w1, hW, hz0, hb, q, f⟩ := box1g w (w.heap.size) (by omega) #[.bool (neg p.num), .slice a1 n1 c1, .slice a2 n2 c2] 31
  rw [hW]
  clear hW
  have g1 := g1.past hb
  have g2 := g2.past hb
  have g3 := g3.past hb
  have g4 := g4.past hb
  have g5 := g5.past hb
  have g6 := g6.past hb
  have hB := below_later hB hb
  clear hb
  have lx : w.heap.size < w1.heap.size := by omega
  have qx0 := q 0; have qx1 := q 1; have qx2 := q 2
  simp only [List.getElem?_toArray, List.getElem?_cons_zero, List.getElem?_cons_succ] at qx0 qx1 qx2
  clear q f
  obtain ⟨w2, hW, hz1, hb, q, f⟩ := box1g w1 (w.heap.size + 1) (by omega) #[.bool (neg q.num), .slice a3 n3 c3, .slice a4 n4 c4] 31
  rw [hW]
  clear hW
  have g1 := g1.past hb
  have g2 := g2.past hb
  have g3 := g3.past hb
  have g4 := g4.past hb
  have g5 := g5.past hb
  have g6 := g6.past hb
  have qx0 := bq hb lx qx0; have qx1 := bq hb lx qx1; have qx2 := bq hb lx qx2
  have lx := bl hb lx
  have hB := below_later hB hb
  clear hb
  have ly : w.heap.size + 1 < w2.heap.size := by omega
  have qy0 := q 0; have qy1 := q 1; have qy2 := q 2
  simp only [List.getElem?_toArray, List.getElem?_cons_zero, List.getElem?_cons_succ] at qy0 qy1 qy2
  clear q f
  obtain ⟨w3, hW, hz2, hb, q, f⟩ := box1g w2 (w.heap.size + 1 + 1) (by omega) #[.bool (neg r.num), .slice a5 n5 c5, .slice a6 n6 c6] 31
  rw [hW]
  clear hW
  have g1 := g1.past hb
  have g2 := g2.past hb
  have g3 := g3.past hb
  have g4 := g4.past hb
  have g5 := g5.past hb
  have g6 := g6.past hb
  have qx0 := bq hb lx qx0; have qx1 := bq hb lx qx1; have qx2 := bq hb lx qx2
  have lx := bl hb lx
  have qy0 := bq hb ly qy0; have qy1 := bq hb ly qy1; have qy2 := bq hb ly qy2
  have ly := bl hb ly
  have hB := below_later hB hb
  clear hb
  have lz : w.heap.size + 1 + 1 < w3.heap.size := by omega
  have qz0 := q 0; have qz1 := q 1; have qz2 := q 2
  simp only [List.getElem?_toArray, List.getElem?_cons_zero, List.getElem?_cons_succ] at qz0 qz1 qz2
  clear q f
  clear hz0
  clear hz1
  clear hz2
  with_reducible refine (ratioKnown_any _).mono ?_
  rintro e w4 ⟨rfl, hb⟩
  have g1 := g1.past hb
  have g2 := g2.past hb
  have g3 := g3.past hb
  have g4 := g4.past hb
  have g5 := g5.past hb
  have g6 := g6.past hb
  have qx0 := bq hb lx qx0; have qx1 := bq hb lx qx1; have qx2 := bq hb lx qx2
  have lx := bl hb lx
  have qy0 := bq hb ly qy0; have qy1 := bq hb ly qy1; have qy2 := bq hb ly qy2
  have ly := bl hb ly
  have qz0 := bq hb lz qz0; have qz1 := bq hb lz qz1; have qz2 := bq hb lz qz2
  have lz := bl hb lz
  have hB := below_later hB hb
  clear hb
  go_wp2_with fail
  obtain ⟨w5, hW, hz0, hb, q, f⟩ := box1g w4 (w4.heap.size) (by omega) #[.bool (neg p.num), .slice a1 n1 c1, .slice a2 n2 c2, .bool (neg q.num), .slice a3 n3 c3, .slice a4 n4 c4, .bool (neg r.num), .slice a5 n5 c5, .slice a6 n6 c6] 31
  rw [hW]
  clear hW
  have g1 := g1.past hb
  have g2 := g2.past hb
  have g3 := g3.past hb
  have g4 := g4.past hb
  have g5 := g5.past hb
  have g6 := g6.past hb
  have qx0 := bq hb lx qx0; have qx1 := bq hb lx qx1; have qx2 := bq hb lx qx2
  have lx := bl hb lx
  have qy0 := bq hb ly qy0; have qy1 := bq hb ly qy1; have qy2 := bq hb ly qy2
  have ly := bl hb ly
  have qz0 := bq hb lz qz0; have qz1 := bq hb lz qz1; have qz2 := bq hb lz qz2
  have lz := bl hb lz
  have hB := below_later hB hb
  clear hb
  have ls : w4.heap.size < w5.heap.size := by omega
  have qs0 := q 0; have qs1 := q 1; have qs2 := q 2; have qs3 := q 3; have qs4 := q 4; have qs5 := q 5; have qs6 := q 6; have qs7 := q 7; have qs8 := q 8
  simp only [List.getElem?_toArray, List.getElem?_cons_zero, List.getElem?_cons_succ] at qs0 qs1 qs2 qs3 qs4 qs5 qs6 qs7 qs8
  clear q f
  clear hz0
  with_reducible refine (long05_any _ _ _ _ _ (RatsAt.raw3 (x := ((neg p.num), (digs p.num.natAbs), (digs p.den))) (y := ((neg q.num), (digs q.num.natAbs), (digs q.den))) (z := ((neg r.num), (digs r.num.natAbs), (digs r.den))) ls qs0 qs1 qs2 qs3 qs4 qs5 qs6 qs7 qs8 g1 g2 g3 g4 g5 g6)).mono ?_
  rintro e w6 ⟨rfl, hb⟩
  have g1 := g1.past hb
  have g2 := g2.past hb
  have g3 := g3.past hb
  have g4 := g4.past hb
  have g5 := g5.past hb
  have g6 := g6.past hb
  have qx0 := bq hb lx qx0; have qx1 := bq hb lx qx1; have qx2 := bq hb lx qx2
  have lx := bl hb lx
  have qy0 := bq hb ly qy0; have qy1 := bq hb ly qy1; have qy2 := bq hb ly qy2
  have ly := bl hb ly
  have qz0 := bq hb lz qz0; have qz1 := bq hb lz qz1; have qz2 := bq hb lz qz2
  have lz := bl hb lz
  have qs0 := bq hb ls qs0; have qs1 := bq hb ls qs1; have qs2 := bq hb ls qs2; have qs3 := bq hb ls qs3; have qs4 := bq hb ls qs4; have qs5 := bq hb ls qs5; have qs6 := bq hb ls qs6; have qs7 := bq hb ls qs7; have qs8 := bq hb ls qs8
  have ls := bl hb ls
  have hB := below_later hB hb
  clear hb
  rw [LB.out]
  go_wp2_with fail
  obtain ⟨w7, hW, hz0, hb, q, f⟩ := box1g w6 (w6.heap.size) (by omega) #[.bool (neg p.num), .slice a1 n1 c1, .slice a2 n2 c2, .bool (neg q.num), .slice a3 n3 c3, .slice a4 n4 c4, .bool (neg r.num), .slice a5 n5 c5, .slice a6 n6 c6] 31
  rw [hW]
  clear hW
  have g1 := g1.past hb
  have g2 := g2.past hb
  have g3 := g3.past hb
  have g4 := g4.past hb
  have g5 := g5.past hb
  have g6 := g6.past hb
  have qx0 := bq hb lx qx0; have qx1 := bq hb lx qx1; have qx2 := bq hb lx qx2
  have lx := bl hb lx
  have qy0 := bq hb ly qy0; have qy1 := bq hb ly qy1; have qy2 := bq hb ly qy2
  have ly := bl hb ly
  have qz0 := bq hb lz qz0; have qz1 := bq hb lz qz1; have qz2 := bq hb lz qz2
  have lz := bl hb lz
  have hB := below_later hB hb
  clear hb
  have ls : w6.heap.size < w7.heap.size := by omega
  have qs0 := q 0; have qs1 := q 1; have qs2 := q 2; have qs3 := q 3; have qs4 := q 4; have qs5 := q 5; have qs6 := q 6; have qs7 := q 7; have qs8 := q 8
  simp only [List.getElem?_toArray, List.getElem?_cons_zero, List.getElem?_cons_succ] at qs0 qs1 qs2 qs3 qs4 qs5 qs6 qs7 qs8
  clear q f
  clear hz0
  with_reducible refine (good05_any _ _ _ _ _ (RatsAt.raw3 (x := ((neg p.num), (digs p.num.natAbs), (digs p.den))) (y := ((neg q.num), (digs q.num.natAbs), (digs q.den))) (z := ((neg r.num), (digs r.num.natAbs), (digs r.den))) ls qs0 qs1 qs2 qs3 qs4 qs5 qs6 qs7 qs8 g1 g2 g3 g4 g5 g6) GK.out).mono ?_
  rintro e w8 ⟨rfl, hb⟩
  have g1 := g1.past hb
  have g2 := g2.past hb
  have g3 := g3.past hb
  have g4 := g4.past hb
  have g5 := g5.past hb
  have g6 := g6.past hb
  have qx0 := bq hb lx qx0; have qx1 := bq hb lx qx1; have qx2 := bq hb lx qx2
  have lx := bl hb lx
  have qy0 := bq hb ly qy0; have qy1 := bq hb ly qy1; have qy2 := bq hb ly qy2
  have ly := bl hb ly
  have qz0 := bq hb lz qz0; have qz1 := bq hb lz qz1; have qz2 := bq hb lz qz2
  have lz := bl hb lz
  have qs0 := bq hb ls qs0; have qs1 := bq hb ls qs1; have qs2 := bq hb ls qs2; have qs3 := bq hb ls qs3; have qs4 := bq hb ls qs4; have qs5 := bq hb ls qs5; have qs6 := bq hb ls qs6; have qs7 := bq hb ls qs7; have qs8 := bq hb ls qs8
  have ls := bl hb ls
  have hB := below_later hB hb
  clear hb
  rw [GB.out]
  go_wp2_with fail
  obtain ⟨w9, hW, hz0, hb, q, f⟩ := box1g w8 (w8.heap.size) (by omega) #[.bool (neg p.num), .slice a1 n1 c1, .slice a2 n2 c2, .bool (neg q.num), .slice a3 n3 c3, .slice a4 n4 c4, .bool (neg r.num), .slice a5 n5 c5, .slice a6 n6 c6] 31
  rw [hW]
  clear hW
  have g1 := g1.past hb
  have g2 := g2.past hb
  have g3 := g3.past hb
  have g4 := g4.past hb
  have g5 := g5.past hb
  have g6 := g6.past hb
  have qx0 := bq hb lx qx0; have qx1 := bq hb lx qx1; have qx2 := bq hb lx qx2
  have lx := bl hb lx
  have qy0 := bq hb ly qy0; have qy1 := bq hb ly qy1; have qy2 := bq hb ly qy2
  have ly := bl hb ly
  have qz0 := bq hb lz qz0; have qz1 := bq hb lz qz1; have qz2 := bq hb lz qz2
  have lz := bl hb lz
  have hB := below_later hB hb
  clear hb
  have ls : w8.heap.size < w9.heap.size := by omega
  have qs0 := q 0; have qs1 := q 1; have qs2 := q 2; have qs3 := q 3; have qs4 := q 4; have qs5 := q 5; have qs6 := q 6; have qs7 := q 7; have qs8 := q 8
  simp only [List.getElem?_toArray, List.getElem?_cons_zero, List.getElem?_cons_succ] at qs0 qs1 qs2 qs3 qs4 qs5 qs6 qs7 qs8
  clear q f
  clear hz0
  with_reducible refine (add_three (RatsAt.three ls qs0 qs1 qs2 qs3 qs4 qs5 qs6 qs7 qs8 g1 g2 g3 g4 g5 g6) (Nat.le_trans lp (by decide)) (Nat.le_trans lq (by decide)) (Nat.le_trans lr5 (by decide))).mono ?_
  rintro e w10 ⟨ahSU, nhSU, chSU, ahSD, nhSD, chSD, rfl, hSU, hSD, hb⟩
  have g1 := g1.past hb
  have g2 := g2.past hb
  have g3 := g3.past hb
  have g4 := g4.past hb
  have g5 := g5.past hb
  have g6 := g6.past hb
  have qx0 := bq hb lx qx0; have qx1 := bq hb lx qx1; have qx2 := bq hb lx qx2
  have lx := bl hb lx
  have qy0 := bq hb ly qy0; have qy1 := bq hb ly qy1; have qy2 := bq hb ly qy2
  have ly := bl hb ly
  have qz0 := bq hb lz qz0; have qz1 := bq hb lz qz1; have qz2 := bq hb lz qz2
  have lz := bl hb lz
  have qs0 := bq hb ls qs0; have qs1 := bq hb ls qs1; have qs2 := bq hb ls qs2; have qs3 := bq hb ls qs3; have qs4 := bq hb ls qs4; have qs5 := bq hb ls qs5; have qs6 := bq hb ls qs6; have qs7 := bq hb ls qs7; have qs8 := bq hb ls qs8
  have ls := bl hb ls
  have hB := below_later hB hb
  clear hb
  go_wp2_with fail
  obtain ⟨w11, hW, hz0, hb, q, f⟩ := box1g w10 (w10.heap.size) (by omega) #[.bool (neg (p + q + r).num), .slice ahSU nhSU chSU, .slice ahSD nhSD chSD] 31
  rw [hW]
  clear hW
  have g1 := g1.past hb
  have g2 := g2.past hb
  have g3 := g3.past hb
  have g4 := g4.past hb
  have g5 := g5.past hb
  have g6 := g6.past hb
  have hSU := hSU.past hb
  have hSD := hSD.past hb
  have qx0 := bq hb lx qx0; have qx1 := bq hb lx qx1; have qx2 := bq hb lx qx2
  have lx := bl hb lx
  have qy0 := bq hb ly qy0; have qy1 := bq hb ly qy1; have qy2 := bq hb ly qy2
  have ly := bl hb ly
  have qz0 := bq hb lz qz0; have qz1 := bq hb lz qz1; have qz2 := bq hb lz qz2
  have lz := bl hb lz
  have hB := below_later hB hb
  clear hb
  have lhS : w10.heap.size < w11.heap.size := by omega
  have qhS0 := q 0; have qhS1 := q 1; have qhS2 := q 2
  simp only [List.getElem?_toArray, List.getElem?_cons_zero, List.getElem?_cons_succ] at qhS0 qhS1 qhS2
  clear q f
  obtain ⟨w12, hW, hz1, hb, q, f⟩ := box1g w11 (w10.heap.size + 1) (by omega) #[.bool (neg r.num), .slice a5 n5 c5, .slice a6 n6 c6, .bool (neg p.num), .slice a1 n1 c1, .slice a2 n2 c2, .bool (neg q.num), .slice a3 n3 c3, .slice a4 n4 c4] 31
  rw [hW]
  clear hW
  have g1 := g1.past hb
  have g2 := g2.past hb
  have g3 := g3.past hb
  have g4 := g4.past hb
  have g5 := g5.past hb
  have g6 := g6.past hb
  have hSU := hSU.past hb
  have hSD := hSD.past hb
  have qx0 := bq hb lx qx0; have qx1 := bq hb lx qx1; have qx2 := bq hb lx qx2
  have lx := bl hb lx
  have qy0 := bq hb ly qy0; have qy1 := bq hb ly qy1; have qy2 := bq hb ly qy2
  have ly := bl hb ly
  have qz0 := bq hb lz qz0; have qz1 := bq hb lz qz1; have qz2 := bq hb lz qz2
  have lz := bl hb lz
  have qhS0 := bq hb lhS qhS0; have qhS1 := bq hb lhS qhS1; have qhS2 := bq hb lhS qhS2
  have lhS := bl hb lhS
  have hB := below_later hB hb
  clear hb
  have ls : w10.heap.size + 1 < w12.heap.size := by omega
  have qs0 := q 0; have qs1 := q 1; have qs2 := q 2; have qs3 := q 3; have qs4 := q 4; have qs5 := q 5; have qs6 := q 6; have qs7 := q 7; have qs8 := q 8
  simp only [List.getElem?_toArray, List.getElem?_cons_zero, List.getElem?_cons_succ] at qs0 qs1 qs2 qs3 qs4 qs5 qs6 qs7 qs8
  clear q f
  clear hz0
  clear hz1
  with_reducible refine (add_three (RatsAt.three ls qs0 qs1 qs2 qs3 qs4 qs5 qs6 qs7 qs8 g5 g6 g1 g2 g3 g4) (Nat.le_trans lr5 (by decide)) (Nat.le_trans lp (by decide)) (Nat.le_trans lq (by decide))).mono ?_
  rintro e w13 ⟨ahTU, nhTU, chTU, ahTD, nhTD, chTD, rfl, hTU, hTD, hb⟩
  have g1 := g1.past hb
  have g2 := g2.past hb
  have g3 := g3.past hb
  have g4 := g4.past hb
  have g5 := g5.past hb
  have g6 := g6.past hb
  have hSU := hSU.past hb
  have hSD := hSD.past hb
  have qx0 := bq hb lx qx0; have qx1 := bq hb lx qx1; have qx2 := bq hb lx qx2
  have lx := bl hb lx
  have qy0 := bq hb ly qy0; have qy1 := bq hb ly qy1; have qy2 := bq hb ly qy2
  have ly := bl hb ly
  have qz0 := bq hb lz qz0; have qz1 := bq hb lz qz1; have qz2 := bq hb lz qz2
  have lz := bl hb lz
  have qhS0 := bq hb lhS qhS0; have qhS1 := bq hb lhS qhS1; have qhS2 := bq hb lhS qhS2
  have lhS := bl hb lhS
  have qs0 := bq hb ls qs0; have qs1 := bq hb ls qs1; have qs2 := bq hb ls qs2; have qs3 := bq hb ls qs3; have qs4 := bq hb ls qs4; have qs5 := bq hb ls qs5; have qs6 := bq hb ls qs6; have qs7 := bq hb ls qs7; have qs8 := bq hb ls qs8
  have ls := bl hb ls
  have hB := below_later hB hb
  clear hb
  rw [show r + p + q = p + q + r from rat_turn_add p q r] at hTU hTD ⊢
  go_wp2_with fail
  obtain ⟨w14, hW, hz0, hb, q, f⟩ := box1g w13 (w13.heap.size) (by omega) #[.bool (neg (p + q + r).num), .slice ahTU nhTU chTU, .slice ahTD nhTD chTD] 31
  rw [hW]
  clear hW
  have g1 := g1.past hb
  have g2 := g2.past hb
  have g3 := g3.past hb
  have g4 := g4.past hb
  have g5 := g5.past hb
  have g6 := g6.past hb
  have hSU := hSU.past hb
  have hSD := hSD.past hb
  have hTU := hTU.past hb
  have hTD := hTD.past hb
  have qx0 := bq hb lx qx0; have qx1 := bq hb lx qx1; have qx2 := bq hb lx qx2
  have lx := bl hb lx
  have qy0 := bq hb ly qy0; have qy1 := bq hb ly qy1; have qy2 := bq hb ly qy2
  have ly := bl hb ly
  have qz0 := bq hb lz qz0; have qz1 := bq hb lz qz1; have qz2 := bq hb lz qz2
  have lz := bl hb lz
  have qhS0 := bq hb lhS qhS0; have qhS1 := bq hb lhS qhS1; have qhS2 := bq hb lhS qhS2
  have lhS := bl hb lhS
  have hB := below_later hB hb
  clear hb
  have lhT : w13.heap.size < w14.heap.size := by omega
  have qhT0 := q 0; have qhT1 := q 1; have qhT2 := q 2
  simp only [List.getElem?_toArray, List.getElem?_cons_zero, List.getElem?_cons_succ] at qhT0 qhT1 qhT2
  clear q f
  obtain ⟨w15, hW, hz1, hb, q, f⟩ := box1g w14 (w13.heap.size + 1) (by omega) #[.bool (neg p.num), .slice a1 n1 c1, .slice a2 n2 c2, .bool (neg q.num), .slice a3 n3 c3, .slice a4 n4 c4, .bool (neg r.num), .slice a5 n5 c5, .slice a6 n6 c6] 31
  rw [hW]
  clear hW
  have g1 := g1.past hb
  have g2 := g2.past hb
  have g3 := g3.past hb
  have g4 := g4.past hb
  have g5 := g5.past hb
  have g6 := g6.past hb
  have hSU := hSU.past hb
  have hSD := hSD.past hb
  have hTU := hTU.past hb
  have hTD := hTD.past hb
  have qx0 := bq hb lx qx0; have qx1 := bq hb lx qx1; have qx2 := bq hb lx qx2
  have lx := bl hb lx
  have qy0 := bq hb ly qy0; have qy1 := bq hb ly qy1; have qy2 := bq hb ly qy2
  have ly := bl hb ly
  have qz0 := bq hb lz qz0; have qz1 := bq hb lz qz1; have qz2 := bq hb lz qz2
  have lz := bl hb lz
  have qhS0 := bq hb lhS qhS0; have qhS1 := bq hb lhS qhS1; have qhS2 := bq hb lhS qhS2
  have lhS := bl hb lhS
  have qhT0 := bq hb lhT qhT0; have qhT1 := bq hb lhT qhT1; have qhT2 := bq hb lhT qhT2
  have lhT := bl hb lhT
  have hB := below_later hB hb
  clear hb
  have ls : w13.heap.size + 1 < w15.heap.size := by omega
  have qs0 := q 0; have qs1 := q 1; have qs2 := q 2; have qs3 := q 3; have qs4 := q 4; have qs5 := q 5; have qs6 := q 6; have qs7 := q 7; have qs8 := q 8
  simp only [List.getElem?_toArray, List.getElem?_cons_zero, List.getElem?_cons_succ] at qs0 qs1 qs2 qs3 qs4 qs5 qs6 qs7 qs8
  clear q f
  clear hz0
  clear hz1
  with_reducible refine (mul_three (RatsAt.three ls qs0 qs1 qs2 qs3 qs4 qs5 qs6 qs7 qs8 g1 g2 g3 g4 g5 g6) (Nat.le_trans lp (by decide)) (Nat.le_trans lq (by decide)) (Nat.le_trans lr5 (by decide))).mono ?_
  rintro e w16 ⟨ahPU, nhPU, chPU, ahPD, nhPD, chPD, rfl, hPU, hPD, hb⟩
  have g1 := g1.past hb
  have g2 := g2.past hb
  have g3 := g3.past hb
  have g4 := g4.past hb
  have g5 := g5.past hb
  have g6 := g6.past hb
  have hSU := hSU.past hb
  have hSD := hSD.past hb
  have hTU := hTU.past hb
  have hTD := hTD.past hb
  have qx0 := bq hb lx qx0; have qx1 := bq hb lx qx1; have qx2 := bq hb lx qx2
  have lx := bl hb lx
  have qy0 := bq hb ly qy0; have qy1 := bq hb ly qy1; have qy2 := bq hb ly qy2
  have ly := bl hb ly
  have qz0 := bq hb lz qz0; have qz1 := bq hb lz qz1; have qz2 := bq hb lz qz2
  have lz := bl hb lz
  have qhS0 := bq hb lhS qhS0; have qhS1 := bq hb lhS qhS1; have qhS2 := bq hb lhS qhS2
  have lhS := bl hb lhS
  have qhT0 := bq hb lhT qhT0; have qhT1 := bq hb lhT qhT1; have qhT2 := bq hb lhT qhT2
  have lhT := bl hb lhT
  have qs0 := bq hb ls qs0; have qs1 := bq hb ls qs1; have qs2 := bq hb ls qs2; have qs3 := bq hb ls qs3; have qs4 := bq hb ls qs4; have qs5 := bq hb ls qs5; have qs6 := bq hb ls qs6; have qs7 := bq hb ls qs7; have qs8 := bq hb ls qs8
  have ls := bl hb ls
  have hB := below_later hB hb
  clear hb
  go_wp2_with fail
  obtain ⟨w17, hW, hz0, hb, q, f⟩ := box1g w16 (w16.heap.size) (by omega) #[.bool (neg (p * q * r).num), .slice ahPU nhPU chPU, .slice ahPD nhPD chPD] 31
  rw [hW]
  clear hW
  have g1 := g1.past hb
  have g2 := g2.past hb
  have g3 := g3.past hb
  have g4 := g4.past hb
  have g5 := g5.past hb
  have g6 := g6.past hb
  have hSU := hSU.past hb
  have hSD := hSD.past hb
  have hTU := hTU.past hb
  have hTD := hTD.past hb
  have hPU := hPU.past hb
  have hPD := hPD.past hb
  have qx0 := bq hb lx qx0; have qx1 := bq hb lx qx1; have qx2 := bq hb lx qx2
  have lx := bl hb lx
  have qy0 := bq hb ly qy0; have qy1 := bq hb ly qy1; have qy2 := bq hb ly qy2
  have ly := bl hb ly
  have qz0 := bq hb lz qz0; have qz1 := bq hb lz qz1; have qz2 := bq hb lz qz2
  have lz := bl hb lz
  have qhS0 := bq hb lhS qhS0; have qhS1 := bq hb lhS qhS1; have qhS2 := bq hb lhS qhS2
  have lhS := bl hb lhS
  have qhT0 := bq hb lhT qhT0; have qhT1 := bq hb lhT qhT1; have qhT2 := bq hb lhT qhT2
  have lhT := bl hb lhT
  have hB := below_later hB hb
  clear hb
  have lhP : w16.heap.size < w17.heap.size := by omega
  have qhP0 := q 0; have qhP1 := q 1; have qhP2 := q 2
  simp only [List.getElem?_toArray, List.getElem?_cons_zero, List.getElem?_cons_succ] at qhP0 qhP1 qhP2
  clear q f
  obtain ⟨w18, hW, hz1, hb, q, f⟩ := box1g w17 (w16.heap.size + 1) (by omega) #[.bool (neg q.num), .slice a3 n3 c3, .slice a4 n4 c4, .bool (neg r.num), .slice a5 n5 c5, .slice a6 n6 c6, .bool (neg p.num), .slice a1 n1 c1, .slice a2 n2 c2] 31
  rw [hW]
  clear hW
  have g1 := g1.past hb
  have g2 := g2.past hb
  have g3 := g3.past hb
  have g4 := g4.past hb
  have g5 := g5.past hb
  have g6 := g6.past hb
  have hSU := hSU.past hb
  have hSD := hSD.past hb
  have hTU := hTU.past hb
  have hTD := hTD.past hb
  have hPU := hPU.past hb
  have hPD := hPD.past hb
  have qx0 := bq hb lx qx0; have qx1 := bq hb lx qx1; have qx2 := bq hb lx qx2
  have lx := bl hb lx
  have qy0 := bq hb ly qy0; have qy1 := bq hb ly qy1; have qy2 := bq hb ly qy2
  have ly := bl hb ly
  have qz0 := bq hb lz qz0; have qz1 := bq hb lz qz1; have qz2 := bq hb lz qz2
  have lz := bl hb lz
  have qhS0 := bq hb lhS qhS0; have qhS1 := bq hb lhS qhS1; have qhS2 := bq hb lhS qhS2
  have lhS := bl hb lhS
  have qhT0 := bq hb lhT qhT0; have qhT1 := bq hb lhT qhT1; have qhT2 := bq hb lhT qhT2
  have lhT := bl hb lhT
  have qhP0 := bq hb lhP qhP0; have qhP1 := bq hb lhP qhP1; have qhP2 := bq hb lhP qhP2
  have lhP := bl hb lhP
  have hB := below_later hB hb
  clear hb
  have ls : w16.heap.size + 1 < w18.heap.size := by omega
  have qs0 := q 0; have qs1 := q 1; have qs2 := q 2; have qs3 := q 3; have qs4 := q 4; have qs5 := q 5; have qs6 := q 6; have qs7 := q 7; have qs8 := q 8
  simp only [List.getElem?_toArray, List.getElem?_cons_zero, List.getElem?_cons_succ] at qs0 qs1 qs2 qs3 qs4 qs5 qs6 qs7 qs8
  clear q f
  clear hz0
  clear hz1
  with_reducible refine (mul_three (RatsAt.three ls qs0 qs1 qs2 qs3 qs4 qs5 qs6 qs7 qs8 g3 g4 g5 g6 g1 g2) (Nat.le_trans lq (by decide)) (Nat.le_trans lr5 (by decide)) (Nat.le_trans lp (by decide))).mono ?_
  rintro e w19 ⟨ahQU, nhQU, chQU, ahQD, nhQD, chQD, rfl, hQU, hQD, hb⟩
  have g1 := g1.past hb
  have g2 := g2.past hb
  have g3 := g3.past hb
  have g4 := g4.past hb
  have g5 := g5.past hb
  have g6 := g6.past hb
  have hSU := hSU.past hb
  have hSD := hSD.past hb
  have hTU := hTU.past hb
  have hTD := hTD.past hb
  have hPU := hPU.past hb
  have hPD := hPD.past hb
  have qx0 := bq hb lx qx0; have qx1 := bq hb lx qx1; have qx2 := bq hb lx qx2
  have lx := bl hb lx
  have qy0 := bq hb ly qy0; have qy1 := bq hb ly qy1; have qy2 := bq hb ly qy2
  have ly := bl hb ly
  have qz0 := bq hb lz qz0; have qz1 := bq hb lz qz1; have qz2 := bq hb lz qz2
  have lz := bl hb lz
  have qhS0 := bq hb lhS qhS0; have qhS1 := bq hb lhS qhS1; have qhS2 := bq hb lhS qhS2
  have lhS := bl hb lhS
  have qhT0 := bq hb lhT qhT0; have qhT1 := bq hb lhT qhT1; have qhT2 := bq hb lhT qhT2
  have lhT := bl hb lhT
  have qhP0 := bq hb lhP qhP0; have qhP1 := bq hb lhP qhP1; have qhP2 := bq hb lhP qhP2
  have lhP := bl hb lhP
  have qs0 := bq hb ls qs0; have qs1 := bq hb ls qs1; have qs2 := bq hb ls qs2; have qs3 := bq hb ls qs3; have qs4 := bq hb ls qs4; have qs5 := bq hb ls qs5; have qs6 := bq hb ls qs6; have qs7 := bq hb ls qs7; have qs8 := bq hb ls qs8
  have ls := bl hb ls
  have hB := below_later hB hb
  clear hb
  rw [show q * r * p = p * q * r from rat_turn_mul p q r] at hQU hQD ⊢
  go_wp2_with fail
  obtain ⟨w20, hW, hz0, hb, q, f⟩ := box1g w19 (w19.heap.size) (by omega) #[.bool (neg (p * q * r).num), .slice ahQU nhQU chQU, .slice ahQD nhQD chQD] 31
  rw [hW]
  clear hW
  have g1 := g1.past hb
  have g2 := g2.past hb
  have g3 := g3.past hb
  have g4 := g4.past hb
  have g5 := g5.past hb
  have g6 := g6.past hb
  have hSU := hSU.past hb
  have hSD := hSD.past hb
  have hTU := hTU.past hb
  have hTD := hTD.past hb
  have hPU := hPU.past hb
  have hPD := hPD.past hb
  have hQU := hQU.past hb
  have hQD := hQD.past hb
  have qx0 := bq hb lx qx0; have qx1 := bq hb lx qx1; have qx2 := bq hb lx qx2
  have lx := bl hb lx
  have qy0 := bq hb ly qy0; have qy1 := bq hb ly qy1; have qy2 := bq hb ly qy2
  have ly := bl hb ly
  have qz0 := bq hb lz qz0; have qz1 := bq hb lz qz1; have qz2 := bq hb lz qz2
  have lz := bl hb lz
  have qhS0 := bq hb lhS qhS0; have qhS1 := bq hb lhS qhS1; have qhS2 := bq hb lhS qhS2
  have lhS := bl hb lhS
  have qhT0 := bq hb lhT qhT0; have qhT1 := bq hb lhT qhT1; have qhT2 := bq hb lhT qhT2
  have lhT := bl hb lhT
  have qhP0 := bq hb lhP qhP0; have qhP1 := bq hb lhP qhP1; have qhP2 := bq hb lhP qhP2
  have lhP := bl hb lhP
  have hB := below_later hB hb
  clear hb
  have lhQ : w19.heap.size < w20.heap.size := by omega
  have qhQ0 := q 0; have qhQ1 := q 1; have qhQ2 := q 2
  simp only [List.getElem?_toArray, List.getElem?_cons_zero, List.getElem?_cons_succ] at qhQ0 qhQ1 qhQ2
  clear q f
  obtain ⟨w21, hW, hz1, hb, q, f⟩ := box1g w20 (w19.heap.size + 1) (by omega) #[.bool (neg q.num), .slice a3 n3 c3, .slice a4 n4 c4, .bool (neg r.num), .slice a5 n5 c5, .slice a6 n6 c6] 31
  rw [hW]
  clear hW
  have g1 := g1.past hb
  have g2 := g2.past hb
  have g3 := g3.past hb
  have g4 := g4.past hb
  have g5 := g5.past hb
  have g6 := g6.past hb
  have hSU := hSU.past hb
  have hSD := hSD.past hb
  have hTU := hTU.past hb
  have hTD := hTD.past hb
  have hPU := hPU.past hb
  have hPD := hPD.past hb
  have hQU := hQU.past hb
  have hQD := hQD.past hb
  have qx0 := bq hb lx qx0; have qx1 := bq hb lx qx1; have qx2 := bq hb lx qx2
  have lx := bl hb lx
  have qy0 := bq hb ly qy0; have qy1 := bq hb ly qy1; have qy2 := bq hb ly qy2
  have ly := bl hb ly
  have qz0 := bq hb lz qz0; have qz1 := bq hb lz qz1; have qz2 := bq hb lz qz2
  have lz := bl hb lz
  have qhS0 := bq hb lhS qhS0; have qhS1 := bq hb lhS qhS1; have qhS2 := bq hb lhS qhS2
  have lhS := bl hb lhS
  have qhT0 := bq hb lhT qhT0; have qhT1 := bq hb lhT qhT1; have qhT2 := bq hb lhT qhT2
  have lhT := bl hb lhT
  have qhP0 := bq hb lhP qhP0; have qhP1 := bq hb lhP qhP1; have qhP2 := bq hb lhP qhP2
  have lhP := bl hb lhP
  have qhQ0 := bq hb lhQ qhQ0; have qhQ1 := bq hb lhQ qhQ1; have qhQ2 := bq hb lhQ qhQ2
  have lhQ := bl hb lhQ
  have hB := below_later hB hb
  clear hb
  have ls : w19.heap.size + 1 < w21.heap.size := by omega
  have qs0 := q 0; have qs1 := q 1; have qs2 := q 2; have qs3 := q 3; have qs4 := q 4; have qs5 := q 5
  simp only [List.getElem?_toArray, List.getElem?_cons_zero, List.getElem?_cons_succ] at qs0 qs1 qs2 qs3 qs4 qs5
  clear q f
  clear hz0
  clear hz1
  with_reducible refine (add_two (RatsAt.two ls qs0 qs1 qs2 qs3 qs4 qs5 g3 g4 g5 g6) (Nat.le_trans lq (by decide)) (Nat.le_trans lr5 (by decide))).mono ?_
  rintro e w22 ⟨ahBCU, nhBCU, chBCU, ahBCD, nhBCD, chBCD, rfl, hBCU, hBCD, hb⟩
  have g1 := g1.past hb
  have g2 := g2.past hb
  have g3 := g3.past hb
  have g4 := g4.past hb
  have g5 := g5.past hb
  have g6 := g6.past hb
  have hSU := hSU.past hb
  have hSD := hSD.past hb
  have hTU := hTU.past hb
  have hTD := hTD.past hb
  have hPU := hPU.past hb
  have hPD := hPD.past hb
  have hQU := hQU.past hb
  have hQD := hQD.past hb
  have qx0 := bq hb lx qx0; have qx1 := bq hb lx qx1; have qx2 := bq hb lx qx2
  have lx := bl hb lx
  have qy0 := bq hb ly qy0; have qy1 := bq hb ly qy1; have qy2 := bq hb ly qy2
  have ly := bl hb ly
  have qz0 := bq hb lz qz0; have qz1 := bq hb lz qz1; have qz2 := bq hb lz qz2
  have lz := bl hb lz
  have qhS0 := bq hb lhS qhS0; have qhS1 := bq hb lhS qhS1; have qhS2 := bq hb lhS qhS2
  have lhS := bl hb lhS
  have qhT0 := bq hb lhT qhT0; have qhT1 := bq hb lhT qhT1; have qhT2 := bq hb lhT qhT2
  have lhT := bl hb lhT
  have qhP0 := bq hb lhP qhP0; have qhP1 := bq hb lhP qhP1; have qhP2 := bq hb lhP qhP2
  have lhP := bl hb lhP
  have qhQ0 := bq hb lhQ qhQ0; have qhQ1 := bq hb lhQ qhQ1; have qhQ2 := bq hb lhQ qhQ2
  have lhQ := bl hb lhQ
  have qs0 := bq hb ls qs0; have qs1 := bq hb ls qs1; have qs2 := bq hb ls qs2; have qs3 := bq hb ls qs3; have qs4 := bq hb ls qs4; have qs5 := bq hb ls qs5
  have ls := bl hb ls
  have hB := below_later hB hb
  clear hb
  go_wp2_with fail
  obtain ⟨w23, hW, hz0, hb, q, f⟩ := box1g w22 (w22.heap.size) (by omega) #[.bool (neg (q + r).num), .slice ahBCU nhBCU chBCU, .slice ahBCD nhBCD chBCD] 31
  rw [hW]
  clear hW
  have g1 := g1.past hb
  have g2 := g2.past hb
  have g3 := g3.past hb
  have g4 := g4.past hb
  have g5 := g5.past hb
  have g6 := g6.past hb
  have hSU := hSU.past hb
  have hSD := hSD.past hb
  have hTU := hTU.past hb
  have hTD := hTD.past hb
  have hPU := hPU.past hb
  have hPD := hPD.past hb
  have hQU := hQU.past hb
  have hQD := hQD.past hb
  have hBCU := hBCU.past hb
  have hBCD := hBCD.past hb
  have qx0 := bq hb lx qx0; have qx1 := bq hb lx qx1; have qx2 := bq hb lx qx2
  have lx := bl hb lx
  have qy0 := bq hb ly qy0; have qy1 := bq hb ly qy1; have qy2 := bq hb ly qy2
  have ly := bl hb ly
  have qz0 := bq hb lz qz0; have qz1 := bq hb lz qz1; have qz2 := bq hb lz qz2
  have lz := bl hb lz
  have qhS0 := bq hb lhS qhS0; have qhS1 := bq hb lhS qhS1; have qhS2 := bq hb lhS qhS2
  have lhS := bl hb lhS
  have qhT0 := bq hb lhT qhT0; have qhT1 := bq hb lhT qhT1; have qhT2 := bq hb lhT qhT2
  have lhT := bl hb lhT
  have qhP0 := bq hb lhP qhP0; have qhP1 := bq hb lhP qhP1; have qhP2 := bq hb lhP qhP2
  have lhP := bl hb lhP
  have qhQ0 := bq hb lhQ qhQ0; have qhQ1 := bq hb lhQ qhQ1; have qhQ2 := bq hb lhQ qhQ2
  have lhQ := bl hb lhQ
  have hB := below_later hB hb
  clear hb
  have lhBC : w22.heap.size < w23.heap.size := by omega
  have qhBC0 := q 0; have qhBC1 := q 1; have qhBC2 := q 2
  simp only [List.getElem?_toArray, List.getElem?_cons_zero, List.getElem?_cons_succ] at qhBC0 qhBC1 qhBC2
  clear q f
  obtain ⟨w24, hW, hz1, hb, q, f⟩ := box1g w23 (w22.heap.size + 1) (by omega) #[.bool (neg p.num), .slice a1 n1 c1, .slice a2 n2 c2, .bool (neg ((q + r)).num), .slice ahBCU nhBCU chBCU, .slice ahBCD nhBCD chBCD] 31
  rw [hW]
  clear hW
  have g1 := g1.past hb
  have g2 := g2.past hb
  have g3 := g3.past hb
  have g4 := g4.past hb
  have g5 := g5.past hb
  have g6 := g6.past hb
  have hSU := hSU.past hb
  have hSD := hSD.past hb
  have hTU := hTU.past hb
  have hTD := hTD.past hb
  have hPU := hPU.past hb
  have hPD := hPD.past hb
  have hQU := hQU.past hb
  have hQD := hQD.past hb
  have hBCU := hBCU.past hb
  have hBCD := hBCD.past hb
  have qx0 := bq hb lx qx0; have qx1 := bq hb lx qx1; have qx2 := bq hb lx qx2
  have lx := bl hb lx
  have qy0 := bq hb ly qy0; have qy1 := bq hb ly qy1; have qy2 := bq hb ly qy2
  have ly := bl hb ly
  have qz0 := bq hb lz qz0; have qz1 := bq hb lz qz1; have qz2 := bq hb lz qz2
  have lz := bl hb lz
  have qhS0 := bq hb lhS qhS0; have qhS1 := bq hb lhS qhS1; have qhS2 := bq hb lhS qhS2
  have lhS := bl hb lhS
  have qhT0 := bq hb lhT qhT0; have qhT1 := bq hb lhT qhT1; have qhT2 := bq hb lhT qhT2
  have lhT := bl hb lhT
  have qhP0 := bq hb lhP qhP0; have qhP1 := bq hb lhP qhP1; have qhP2 := bq hb lhP qhP2
  have lhP := bl hb lhP
  have qhQ0 := bq hb lhQ qhQ0; have qhQ1 := bq hb lhQ qhQ1; have qhQ2 := bq hb lhQ qhQ2
  have lhQ := bl hb lhQ
  have qhBC0 := bq hb lhBC qhBC0; have qhBC1 := bq hb lhBC qhBC1; have qhBC2 := bq hb lhBC qhBC2
  have lhBC := bl hb lhBC
  have hB := below_later hB hb
  clear hb
  have ls : w22.heap.size + 1 < w24.heap.size := by omega
  have qs0 := q 0; have qs1 := q 1; have qs2 := q 2; have qs3 := q 3; have qs4 := q 4; have qs5 := q 5
  simp only [List.getElem?_toArray, List.getElem?_cons_zero, List.getElem?_cons_succ] at qs0 qs1 qs2 qs3 qs4 qs5
  clear q f
  clear hz0
  clear hz1
  with_reducible refine (mul_two (RatsAt.two ls qs0 qs1 qs2 qs3 qs4 qs5 g1 g2 hBCU.toNatAt hBCD.toNatAt) (Nat.le_trans lp (by decide)) (Nat.le_trans (rlen_add lq lr5) (by decide))).mono ?_
  rintro e w25 ⟨ahWU, nhWU, chWU, ahWD, nhWD, chWD, rfl, hWU, hWD, hb⟩
  have g1 := g1.past hb
  have g2 := g2.past hb
  have g3 := g3.past hb
  have g4 := g4.past hb
  have g5 := g5.past hb
  have g6 := g6.past hb
  have hSU := hSU.past hb
  have hSD := hSD.past hb
  have hTU := hTU.past hb
  have hTD := hTD.past hb
  have hPU := hPU.past hb
  have hPD := hPD.past hb
  have hQU := hQU.past hb
  have hQD := hQD.past hb
  have hBCU := hBCU.past hb
  have hBCD := hBCD.past hb
  have qx0 := bq hb lx qx0; have qx1 := bq hb lx qx1; have qx2 := bq hb lx qx2
  have lx := bl hb lx
  have qy0 := bq hb ly qy0; have qy1 := bq hb ly qy1; have qy2 := bq hb ly qy2
  have ly := bl hb ly
  have qz0 := bq hb lz qz0; have qz1 := bq hb lz qz1; have qz2 := bq hb lz qz2
  have lz := bl hb lz
  have qhS0 := bq hb lhS qhS0; have qhS1 := bq hb lhS qhS1; have qhS2 := bq hb lhS qhS2
  have lhS := bl hb lhS
  have qhT0 := bq hb lhT qhT0; have qhT1 := bq hb lhT qhT1; have qhT2 := bq hb lhT qhT2
  have lhT := bl hb lhT
  have qhP0 := bq hb lhP qhP0; have qhP1 := bq hb lhP qhP1; have qhP2 := bq hb lhP qhP2
  have lhP := bl hb lhP
  have qhQ0 := bq hb lhQ qhQ0; have qhQ1 := bq hb lhQ qhQ1; have qhQ2 := bq hb lhQ qhQ2
  have lhQ := bl hb lhQ
  have qhBC0 := bq hb lhBC qhBC0; have qhBC1 := bq hb lhBC qhBC1; have qhBC2 := bq hb lhBC qhBC2
  have lhBC := bl hb lhBC
  have qs0 := bq hb ls qs0; have qs1 := bq hb ls qs1; have qs2 := bq hb ls qs2; have qs3 := bq hb ls qs3; have qs4 := bq hb ls qs4; have qs5 := bq hb ls qs5
  have ls := bl hb ls
  have hB := below_later hB hb
  clear hb
  go_wp2_with fail
  obtain ⟨w26, hW, hz0, hb, q, f⟩ := box1g w25 (w25.heap.size) (by omega) #[.bool (neg (p * (q + r)).num), .slice ahWU nhWU chWU, .slice ahWD nhWD chWD] 31
  rw [hW]
  clear hW
  have g1 := g1.past hb
  have g2 := g2.past hb
  have g3 := g3.past hb
  have g4 := g4.past hb
  have g5 := g5.past hb
  have g6 := g6.past hb
  have hSU := hSU.past hb
  have hSD := hSD.past hb
  have hTU := hTU.past hb
  have hTD := hTD.past hb
  have hPU := hPU.past hb
  have hPD := hPD.past hb
  have hQU := hQU.past hb
  have hQD := hQD.past hb
  have hBCU := hBCU.past hb
  have hBCD := hBCD.past hb
  have hWU := hWU.past hb
  have hWD := hWD.past hb
  have qx0 := bq hb lx qx0; have qx1 := bq hb lx qx1; have qx2 := bq hb lx qx2
  have lx := bl hb lx
  have qy0 := bq hb ly qy0; have qy1 := bq hb ly qy1; have qy2 := bq hb ly qy2
  have ly := bl hb ly
  have qz0 := bq hb lz qz0; have qz1 := bq hb lz qz1; have qz2 := bq hb lz qz2
  have lz := bl hb lz
  have qhS0 := bq hb lhS qhS0; have qhS1 := bq hb lhS qhS1; have qhS2 := bq hb lhS qhS2
  have lhS := bl hb lhS
  have qhT0 := bq hb lhT qhT0; have qhT1 := bq hb lhT qhT1; have qhT2 := bq hb lhT qhT2
  have lhT := bl hb lhT
  have qhP0 := bq hb lhP qhP0; have qhP1 := bq hb lhP qhP1; have qhP2 := bq hb lhP qhP2
  have lhP := bl hb lhP
  have qhQ0 := bq hb lhQ qhQ0; have qhQ1 := bq hb lhQ qhQ1; have qhQ2 := bq hb lhQ qhQ2
  have lhQ := bl hb lhQ
  have qhBC0 := bq hb lhBC qhBC0; have qhBC1 := bq hb lhBC qhBC1; have qhBC2 := bq hb lhBC qhBC2
  have lhBC := bl hb lhBC
  have hB := below_later hB hb
  clear hb
  have lhW : w25.heap.size < w26.heap.size := by omega
  have qhW0 := q 0; have qhW1 := q 1; have qhW2 := q 2
  simp only [List.getElem?_toArray, List.getElem?_cons_zero, List.getElem?_cons_succ] at qhW0 qhW1 qhW2
  clear q f
  obtain ⟨w27, hW, hz1, hb, q, f⟩ := box1g w26 (w25.heap.size + 1) (by omega) #[.bool (neg p.num), .slice a1 n1 c1, .slice a2 n2 c2, .bool (neg q.num), .slice a3 n3 c3, .slice a4 n4 c4] 31
  rw [hW]
  clear hW
  have g1 := g1.past hb
  have g2 := g2.past hb
  have g3 := g3.past hb
  have g4 := g4.past hb
  have g5 := g5.past hb
  have g6 := g6.past hb
  have hSU := hSU.past hb
  have hSD := hSD.past hb
  have hTU := hTU.past hb
  have hTD := hTD.past hb
  have hPU := hPU.past hb
  have hPD := hPD.past hb
  have hQU := hQU.past hb
  have hQD := hQD.past hb
  have hBCU := hBCU.past hb
  have hBCD := hBCD.past hb
  have hWU := hWU.past hb
  have hWD := hWD.past hb
  have qx0 := bq hb lx qx0; have qx1 := bq hb lx qx1; have qx2 := bq hb lx qx2
  have lx := bl hb lx
  have qy0 := bq hb ly qy0; have qy1 := bq hb ly qy1; have qy2 := bq hb ly qy2
  have ly := bl hb ly
  have qz0 := bq hb lz qz0; have qz1 := bq hb lz qz1; have qz2 := bq hb lz qz2
  have lz := bl hb lz
  have qhS0 := bq hb lhS qhS0; have qhS1 := bq hb lhS qhS1; have qhS2 := bq hb lhS qhS2
  have lhS := bl hb lhS
  have qhT0 := bq hb lhT qhT0; have qhT1 := bq hb lhT qhT1; have qhT2 := bq hb lhT qhT2
  have lhT := bl hb lhT
  have qhP0 := bq hb lhP qhP0; have qhP1 := bq hb lhP qhP1; have qhP2 := bq hb lhP qhP2
  have lhP := bl hb lhP
  have qhQ0 := bq hb lhQ qhQ0; have qhQ1 := bq hb lhQ qhQ1; have qhQ2 := bq hb lhQ qhQ2
  have lhQ := bl hb lhQ
  have qhBC0 := bq hb lhBC qhBC0; have qhBC1 := bq hb lhBC qhBC1; have qhBC2 := bq hb lhBC qhBC2
  have lhBC := bl hb lhBC
  have qhW0 := bq hb lhW qhW0; have qhW1 := bq hb lhW qhW1; have qhW2 := bq hb lhW qhW2
  have lhW := bl hb lhW
  have hB := below_later hB hb
  clear hb
  have ls : w25.heap.size + 1 < w27.heap.size := by omega
  have qs0 := q 0; have qs1 := q 1; have qs2 := q 2; have qs3 := q 3; have qs4 := q 4; have qs5 := q 5
  simp only [List.getElem?_toArray, List.getElem?_cons_zero, List.getElem?_cons_succ] at qs0 qs1 qs2 qs3 qs4 qs5
  clear q f
  clear hz0
  clear hz1
  with_reducible refine (mul_two (RatsAt.two ls qs0 qs1 qs2 qs3 qs4 qs5 g1 g2 g3 g4) (Nat.le_trans lp (by decide)) (Nat.le_trans lq (by decide))).mono ?_
  rintro e w28 ⟨ahABU, nhABU, chABU, ahABD, nhABD, chABD, rfl, hABU, hABD, hb⟩
  have g1 := g1.past hb
  have g2 := g2.past hb
  have g3 := g3.past hb
  have g4 := g4.past hb
  have g5 := g5.past hb
  have g6 := g6.past hb
  have hSU := hSU.past hb
  have hSD := hSD.past hb
  have hTU := hTU.past hb
  have hTD := hTD.past hb
  have hPU := hPU.past hb
  have hPD := hPD.past hb
  have hQU := hQU.past hb
  have hQD := hQD.past hb
  have hBCU := hBCU.past hb
  have hBCD := hBCD.past hb
  have hWU := hWU.past hb
  have hWD := hWD.past hb
  have qx0 := bq hb lx qx0; have qx1 := bq hb lx qx1; have qx2 := bq hb lx qx2
  have lx := bl hb lx
  have qy0 := bq hb ly qy0; have qy1 := bq hb ly qy1; have qy2 := bq hb ly qy2
  have ly := bl hb ly
  have qz0 := bq hb lz qz0; have qz1 := bq hb lz qz1; have qz2 := bq hb lz qz2
  have lz := bl hb lz
  have qhS0 := bq hb lhS qhS0; have qhS1 := bq hb lhS qhS1; have qhS2 := bq hb lhS qhS2
  have lhS := bl hb lhS
  have qhT0 := bq hb lhT qhT0; have qhT1 := bq hb lhT qhT1; have qhT2 := bq hb lhT qhT2
  have lhT := bl hb lhT
  have qhP0 := bq hb lhP qhP0; have qhP1 := bq hb lhP qhP1; have qhP2 := bq hb lhP qhP2
  have lhP := bl hb lhP
  have qhQ0 := bq hb lhQ qhQ0; have qhQ1 := bq hb lhQ qhQ1; have qhQ2 := bq hb lhQ qhQ2
  have lhQ := bl hb lhQ
  have qhBC0 := bq hb lhBC qhBC0; have qhBC1 := bq hb lhBC qhBC1; have qhBC2 := bq hb lhBC qhBC2
  have lhBC := bl hb lhBC
  have qhW0 := bq hb lhW qhW0; have qhW1 := bq hb lhW qhW1; have qhW2 := bq hb lhW qhW2
  have lhW := bl hb lhW
  have qs0 := bq hb ls qs0; have qs1 := bq hb ls qs1; have qs2 := bq hb ls qs2; have qs3 := bq hb ls qs3; have qs4 := bq hb ls qs4; have qs5 := bq hb ls qs5
  have ls := bl hb ls
  have hB := below_later hB hb
  clear hb
  go_wp2_with fail
  obtain ⟨w29, hW, hz0, hb, q, f⟩ := box1g w28 (w28.heap.size) (by omega) #[.bool (neg (p * q).num), .slice ahABU nhABU chABU, .slice ahABD nhABD chABD] 31
  rw [hW]
  clear hW
  have g1 := g1.past hb
  have g2 := g2.past hb
  have g3 := g3.past hb
  have g4 := g4.past hb
  have g5 := g5.past hb
  have g6 := g6.past hb
  have hSU := hSU.past hb
  have hSD := hSD.past hb
  have hTU := hTU.past hb
  have hTD := hTD.past hb
  have hPU := hPU.past hb
  have hPD := hPD.past hb
  have hQU := hQU.past hb
  have hQD := hQD.past hb
  have hBCU := hBCU.past hb
  have hBCD := hBCD.past hb
  have hWU := hWU.past hb
  have hWD := hWD.past hb
  have hABU := hABU.past hb
  have hABD := hABD.past hb
  have qx0 := bq hb lx qx0; have qx1 := bq hb lx qx1; have qx2 := bq hb lx qx2
  have lx := bl hb lx
  have qy0 := bq hb ly qy0; have qy1 := bq hb ly qy1; have qy2 := bq hb ly qy2
  have ly := bl hb ly
  have qz0 := bq hb lz qz0; have qz1 := bq hb lz qz1; have qz2 := bq hb lz qz2
  have lz := bl hb lz
  have qhS0 := bq hb lhS qhS0; have qhS1 := bq hb lhS qhS1; have qhS2 := bq hb lhS qhS2
  have lhS := bl hb lhS
  have qhT0 := bq hb lhT qhT0; have qhT1 := bq hb lhT qhT1; have qhT2 := bq hb lhT qhT2
  have lhT := bl hb lhT
  have qhP0 := bq hb lhP qhP0; have qhP1 := bq hb lhP qhP1; have qhP2 := bq hb lhP qhP2
  have lhP := bl hb lhP
  have qhQ0 := bq hb lhQ qhQ0; have qhQ1 := bq hb lhQ qhQ1; have qhQ2 := bq hb lhQ qhQ2
  have lhQ := bl hb lhQ
  have qhBC0 := bq hb lhBC qhBC0; have qhBC1 := bq hb lhBC qhBC1; have qhBC2 := bq hb lhBC qhBC2
  have lhBC := bl hb lhBC
  have qhW0 := bq hb lhW qhW0; have qhW1 := bq hb lhW qhW1; have qhW2 := bq hb lhW qhW2
  have lhW := bl hb lhW
  have hB := below_later hB hb
  clear hb
  have lhAB : w28.heap.size < w29.heap.size := by omega
  have qhAB0 := q 0; have qhAB1 := q 1; have qhAB2 := q 2
  simp only [List.getElem?_toArray, List.getElem?_cons_zero, List.getElem?_cons_succ] at qhAB0 qhAB1 qhAB2
  clear q f
  obtain ⟨w30, hW, hz1, hb, q, f⟩ := box1g w29 (w28.heap.size + 1) (by omega) #[.bool (neg p.num), .slice a1 n1 c1, .slice a2 n2 c2, .bool (neg r.num), .slice a5 n5 c5, .slice a6 n6 c6] 31
  rw [hW]
  clear hW
  have g1 := g1.past hb
  have g2 := g2.past hb
  have g3 := g3.past hb
  have g4 := g4.past hb
  have g5 := g5.past hb
  have g6 := g6.past hb
  have hSU := hSU.past hb
  have hSD := hSD.past hb
  have hTU := hTU.past hb
  have hTD := hTD.past hb
  have hPU := hPU.past hb
  have hPD := hPD.past hb
  have hQU := hQU.past hb
  have hQD := hQD.past hb
  have hBCU := hBCU.past hb
  have hBCD := hBCD.past hb
  have hWU := hWU.past hb
  have hWD := hWD.past hb
  have hABU := hABU.past hb
  have hABD := hABD.past hb
  have qx0 := bq hb lx qx0; have qx1 := bq hb lx qx1; have qx2 := bq hb lx qx2
  have lx := bl hb lx
  have qy0 := bq hb ly qy0; have qy1 := bq hb ly qy1; have qy2 := bq hb ly qy2
  have ly := bl hb ly
  have qz0 := bq hb lz qz0; have qz1 := bq hb lz qz1; have qz2 := bq hb lz qz2
  have lz := bl hb lz
  have qhS0 := bq hb lhS qhS0; have qhS1 := bq hb lhS qhS1; have qhS2 := bq hb lhS qhS2
  have lhS := bl hb lhS
  have qhT0 := bq hb lhT qhT0; have qhT1 := bq hb lhT qhT1; have qhT2 := bq hb lhT qhT2
  have lhT := bl hb lhT
  have qhP0 := bq hb lhP qhP0; have qhP1 := bq hb lhP qhP1; have qhP2 := bq hb lhP qhP2
  have lhP := bl hb lhP
  have qhQ0 := bq hb lhQ qhQ0; have qhQ1 := bq hb lhQ qhQ1; have qhQ2 := bq hb lhQ qhQ2
  have lhQ := bl hb lhQ
  have qhBC0 := bq hb lhBC qhBC0; have qhBC1 := bq hb lhBC qhBC1; have qhBC2 := bq hb lhBC qhBC2
  have lhBC := bl hb lhBC
  have qhW0 := bq hb lhW qhW0; have qhW1 := bq hb lhW qhW1; have qhW2 := bq hb lhW qhW2
  have lhW := bl hb lhW
  have qhAB0 := bq hb lhAB qhAB0; have qhAB1 := bq hb lhAB qhAB1; have qhAB2 := bq hb lhAB qhAB2
  have lhAB := bl hb lhAB
  have hB := below_later hB hb
  clear hb
  have ls : w28.heap.size + 1 < w30.heap.size := by omega
  have qs0 := q 0; have qs1 := q 1; have qs2 := q 2; have qs3 := q 3; have qs4 := q 4; have qs5 := q 5
  simp only [List.getElem?_toArray, List.getElem?_cons_zero, List.getElem?_cons_succ] at qs0 qs1 qs2 qs3 qs4 qs5
  clear q f
  clear hz0
  clear hz1
  with_reducible refine (mul_two (RatsAt.two ls qs0 qs1 qs2 qs3 qs4 qs5 g1 g2 g5 g6) (Nat.le_trans lp (by decide)) (Nat.le_trans lr5 (by decide))).mono ?_
  rintro e w31 ⟨ahACU, nhACU, chACU, ahACD, nhACD, chACD, rfl, hACU, hACD, hb⟩
  have g1 := g1.past hb
  have g2 := g2.past hb
  have g3 := g3.past hb
  have g4 := g4.past hb
  have g5 := g5.past hb
  have g6 := g6.past hb
  have hSU := hSU.past hb
  have hSD := hSD.past hb
  have hTU := hTU.past hb
  have hTD := hTD.past hb
  have hPU := hPU.past hb
  have hPD := hPD.past hb
  have hQU := hQU.past hb
  have hQD := hQD.past hb
  have hBCU := hBCU.past hb
  have hBCD := hBCD.past hb
  have hWU := hWU.past hb
  have hWD := hWD.past hb
  have hABU := hABU.past hb
  have hABD := hABD.past hb
  have qx0 := bq hb lx qx0; have qx1 := bq hb lx qx1; have qx2 := bq hb lx qx2
  have lx := bl hb lx
  have qy0 := bq hb ly qy0; have qy1 := bq hb ly qy1; have qy2 := bq hb ly qy2
  have ly := bl hb ly
  have qz0 := bq hb lz qz0; have qz1 := bq hb lz qz1; have qz2 := bq hb lz qz2
  have lz := bl hb lz
  have qhS0 := bq hb lhS qhS0; have qhS1 := bq hb lhS qhS1; have qhS2 := bq hb lhS qhS2
  have lhS := bl hb lhS
  have qhT0 := bq hb lhT qhT0; have qhT1 := bq hb lhT qhT1; have qhT2 := bq hb lhT qhT2
  have lhT := bl hb lhT
  have qhP0 := bq hb lhP qhP0; have qhP1 := bq hb lhP qhP1; have qhP2 := bq hb lhP qhP2
  have lhP := bl hb lhP
  have qhQ0 := bq hb lhQ qhQ0; have qhQ1 := bq hb lhQ qhQ1; have qhQ2 := bq hb lhQ qhQ2
  have lhQ := bl hb lhQ
  have qhBC0 := bq hb lhBC qhBC0; have qhBC1 := bq hb lhBC qhBC1; have qhBC2 := bq hb lhBC qhBC2
  have lhBC := bl hb lhBC
  have qhW0 := bq hb lhW qhW0; have qhW1 := bq hb lhW qhW1; have qhW2 := bq hb lhW qhW2
  have lhW := bl hb lhW
  have qhAB0 := bq hb lhAB qhAB0; have qhAB1 := bq hb lhAB qhAB1; have qhAB2 := bq hb lhAB qhAB2
  have lhAB := bl hb lhAB
  have qs0 := bq hb ls qs0; have qs1 := bq hb ls qs1; have qs2 := bq hb ls qs2; have qs3 := bq hb ls qs3; have qs4 := bq hb ls qs4; have qs5 := bq hb ls qs5
  have ls := bl hb ls
  have hB := below_later hB hb
  clear hb
  go_wp2_with fail
  obtain ⟨w32, hW, hz0, hb, q, f⟩ := box1g w31 (w31.heap.size) (by omega) #[.bool (neg (p * r).num), .slice ahACU nhACU chACU, .slice ahACD nhACD chACD] 31
  rw [hW]
  clear hW
  have g1 := g1.past hb
  have g2 := g2.past hb
  have g3 := g3.past hb
  have g4 := g4.past hb
  have g5 := g5.past hb
  have g6 := g6.past hb
  have hSU := hSU.past hb
  have hSD := hSD.past hb
  have hTU := hTU.past hb
  have hTD := hTD.past hb
  have hPU := hPU.past hb
  have hPD := hPD.past hb
  have hQU := hQU.past hb
  have hQD := hQD.past hb
  have hBCU := hBCU.past hb
  have hBCD := hBCD.past hb
  have hWU := hWU.past hb
  have hWD := hWD.past hb
  have hABU := hABU.past hb
  have hABD := hABD.past hb
  have hACU := hACU.past hb
  have hACD := hACD.past hb
  have qx0 := bq hb lx qx0; have qx1 := bq hb lx qx1; have qx2 := bq hb lx qx2
  have lx := bl hb lx
  have qy0 := bq hb ly qy0; have qy1 := bq hb ly qy1; have qy2 := bq hb ly qy2
  have ly := bl hb ly
  have qz0 := bq hb lz qz0; have qz1 := bq hb lz qz1; have qz2 := bq hb lz qz2
  have lz := bl hb lz
  have qhS0 := bq hb lhS qhS0; have qhS1 := bq hb lhS qhS1; have qhS2 := bq hb lhS qhS2
  have lhS := bl hb lhS
  have qhT0 := bq hb lhT qhT0; have qhT1 := bq hb lhT qhT1; have qhT2 := bq hb lhT qhT2
  have lhT := bl hb lhT
  have qhP0 := bq hb lhP qhP0; have qhP1 := bq hb lhP qhP1; have qhP2 := bq hb lhP qhP2
  have lhP := bl hb lhP
  have qhQ0 := bq hb lhQ qhQ0; have qhQ1 := bq hb lhQ qhQ1; have qhQ2 := bq hb lhQ qhQ2
  have lhQ := bl hb lhQ
  have qhBC0 := bq hb lhBC qhBC0; have qhBC1 := bq hb lhBC qhBC1; have qhBC2 := bq hb lhBC qhBC2
  have lhBC := bl hb lhBC
  have qhW0 := bq hb lhW qhW0; have qhW1 := bq hb lhW qhW1; have qhW2 := bq hb lhW qhW2
  have lhW := bl hb lhW
  have qhAB0 := bq hb lhAB qhAB0; have qhAB1 := bq hb lhAB qhAB1; have qhAB2 := bq hb lhAB qhAB2
  have lhAB := bl hb lhAB
  have hB := below_later hB hb
  clear hb
  have lhAC : w31.heap.size < w32.heap.size := by omega
  have qhAC0 := q 0; have qhAC1 := q 1; have qhAC2 := q 2
  simp only [List.getElem?_toArray, List.getElem?_cons_zero, List.getElem?_cons_succ] at qhAC0 qhAC1 qhAC2
  clear q f
  obtain ⟨w33, hW, hz1, hb, q, f⟩ := box1g w32 (w31.heap.size + 1) (by omega) #[.bool (neg ((p * q)).num), .slice ahABU nhABU chABU, .slice ahABD nhABD chABD, .bool (neg ((p * r)).num), .slice ahACU nhACU chACU, .slice ahACD nhACD chACD] 31
  rw [hW]
  clear hW
  have g1 := g1.past hb
  have g2 := g2.past hb
  have g3 := g3.past hb
  have g4 := g4.past hb
  have g5 := g5.past hb
  have g6 := g6.past hb
  have hSU := hSU.past hb
  have hSD := hSD.past hb
  have hTU := hTU.past hb
  have hTD := hTD.past hb
  have hPU := hPU.past hb
  have hPD := hPD.past hb
  have hQU := hQU.past hb
  have hQD := hQD.past hb
  have hBCU := hBCU.past hb
  have hBCD := hBCD.past hb
  have hWU := hWU.past hb
  have hWD := hWD.past hb
  have hABU := hABU.past hb
  have hABD := hABD.past hb
  have hACU := hACU.past hb
  have hACD := hACD.past hb
  have qx0 := bq hb lx qx0; have qx1 := bq hb lx qx1; have qx2 := bq hb lx qx2
  have lx := bl hb lx
  have qy0 := bq hb ly qy0; have qy1 := bq hb ly qy1; have qy2 := bq hb ly qy2
  have ly := bl hb ly
  have qz0 := bq hb lz qz0; have qz1 := bq hb lz qz1; have qz2 := bq hb lz qz2
  have lz := bl hb lz
  have qhS0 := bq hb lhS qhS0; have qhS1 := bq hb lhS qhS1; have qhS2 := bq hb lhS qhS2
  have lhS := bl hb lhS
  have qhT0 := bq hb lhT qhT0; have qhT1 := bq hb lhT qhT1; have qhT2 := bq hb lhT qhT2
  have lhT := bl hb lhT
  have qhP0 := bq hb lhP qhP0; have qhP1 := bq hb lhP qhP1; have qhP2 := bq hb lhP qhP2
  have lhP := bl hb lhP
  have qhQ0 := bq hb lhQ qhQ0; have qhQ1 := bq hb lhQ qhQ1; have qhQ2 := bq hb lhQ qhQ2
  have lhQ := bl hb lhQ
  have qhBC0 := bq hb lhBC qhBC0; have qhBC1 := bq hb lhBC qhBC1; have qhBC2 := bq hb lhBC qhBC2
  have lhBC := bl hb lhBC
  have qhW0 := bq hb lhW qhW0; have qhW1 := bq hb lhW qhW1; have qhW2 := bq hb lhW qhW2
  have lhW := bl hb lhW
  have qhAB0 := bq hb lhAB qhAB0; have qhAB1 := bq hb lhAB qhAB1; have qhAB2 := bq hb lhAB qhAB2
  have lhAB := bl hb lhAB
  have qhAC0 := bq hb lhAC qhAC0; have qhAC1 := bq hb lhAC qhAC1; have qhAC2 := bq hb lhAC qhAC2
  have lhAC := bl hb lhAC
  have hB := below_later hB hb
  clear hb
  have ls : w31.heap.size + 1 < w33.heap.size := by omega
  have qs0 := q 0; have qs1 := q 1; have qs2 := q 2; have qs3 := q 3; have qs4 := q 4; have qs5 := q 5
  simp only [List.getElem?_toArray, List.getElem?_cons_zero, List.getElem?_cons_succ] at qs0 qs1 qs2 qs3 qs4 qs5
  clear q f
  clear hz0
  clear hz1
  with_reducible refine (add_two (RatsAt.two ls qs0 qs1 qs2 qs3 qs4 qs5 hABU.toNatAt hABD.toNatAt hACU.toNatAt hACD.toNatAt) (Nat.le_trans (rlen_mul lp lq) (by decide)) (Nat.le_trans (rlen_mul lp lr5) (by decide))).mono ?_
  rintro e w34 ⟨ahVU, nhVU, chVU, ahVD, nhVD, chVD, rfl, hVU, hVD, hb⟩
  have g1 := g1.past hb
  have g2 := g2.past hb
  have g3 := g3.past hb
  have g4 := g4.past hb
  have g5 := g5.past hb
  have g6 := g6.past hb
  have hSU := hSU.past hb
  have hSD := hSD.past hb
  have hTU := hTU.past hb
  have hTD := hTD.past hb
  have hPU := hPU.past hb
  have hPD := hPD.past hb
  have hQU := hQU.past hb
  have hQD := hQD.past hb
  have hBCU := hBCU.past hb
  have hBCD := hBCD.past hb
  have hWU := hWU.past hb
  have hWD := hWD.past hb
  have hABU := hABU.past hb
  have hABD := hABD.past hb
  have hACU := hACU.past hb
  have hACD := hACD.past hb
  have qx0 := bq hb lx qx0; have qx1 := bq hb lx qx1; have qx2 := bq hb lx qx2
  have lx := bl hb lx
  have qy0 := bq hb ly qy0; have qy1 := bq hb ly qy1; have qy2 := bq hb ly qy2
  have ly := bl hb ly
  have qz0 := bq hb lz qz0; have qz1 := bq hb lz qz1; have qz2 := bq hb lz qz2
  have lz := bl hb lz
  have qhS0 := bq hb lhS qhS0; have qhS1 := bq hb lhS qhS1; have qhS2 := bq hb lhS qhS2
  have lhS := bl hb lhS
  have qhT0 := bq hb lhT qhT0; have qhT1 := bq hb lhT qhT1; have qhT2 := bq hb lhT qhT2
  have lhT := bl hb lhT
  have qhP0 := bq hb lhP qhP0; have qhP1 := bq hb lhP qhP1; have qhP2 := bq hb lhP qhP2
  have lhP := bl hb lhP
  have qhQ0 := bq hb lhQ qhQ0; have qhQ1 := bq hb lhQ qhQ1; have qhQ2 := bq hb lhQ qhQ2
  have lhQ := bl hb lhQ
  have qhBC0 := bq hb lhBC qhBC0; have qhBC1 := bq hb lhBC qhBC1; have qhBC2 := bq hb lhBC qhBC2
  have lhBC := bl hb lhBC
  have qhW0 := bq hb lhW qhW0; have qhW1 := bq hb lhW qhW1; have qhW2 := bq hb lhW qhW2
  have lhW := bl hb lhW
  have qhAB0 := bq hb lhAB qhAB0; have qhAB1 := bq hb lhAB qhAB1; have qhAB2 := bq hb lhAB qhAB2
  have lhAB := bl hb lhAB
  have qhAC0 := bq hb lhAC qhAC0; have qhAC1 := bq hb lhAC qhAC1; have qhAC2 := bq hb lhAC qhAC2
  have lhAC := bl hb lhAC
  have qs0 := bq hb ls qs0; have qs1 := bq hb ls qs1; have qs2 := bq hb ls qs2; have qs3 := bq hb ls qs3; have qs4 := bq hb ls qs4; have qs5 := bq hb ls qs5
  have ls := bl hb ls
  have hB := below_later hB hb
  clear hb
  rw [show p * q + p * r = p * (q + r) from (Rat.mul_add p q r).symm] at hVU hVD ⊢
  go_wp2_with fail
  obtain ⟨w35, hW, hz0, hb, q, f⟩ := box1g w34 (w34.heap.size) (by omega) #[.bool (neg (p * (q + r)).num), .slice ahVU nhVU chVU, .slice ahVD nhVD chVD] 31
  rw [hW]
  clear hW
  have g1 := g1.past hb
  have g2 := g2.past hb
  have g3 := g3.past hb
  have g4 := g4.past hb
  have g5 := g5.past hb
  have g6 := g6.past hb
  have hSU := hSU.past hb
  have hSD := hSD.past hb
  have hTU := hTU.past hb
  have hTD := hTD.past hb
  have hPU := hPU.past hb
  have hPD := hPD.past hb
  have hQU := hQU.past hb
  have hQD := hQD.past hb
  have hBCU := hBCU.past hb
  have hBCD := hBCD.past hb
  have hWU := hWU.past hb
  have hWD := hWD.past hb
  have hABU := hABU.past hb
  have hABD := hABD.past hb
  have hACU := hACU.past hb
  have hACD := hACD.past hb
  have hVU := hVU.past hb
  have hVD := hVD.past hb
  have qx0 := bq hb lx qx0; have qx1 := bq hb lx qx1; have qx2 := bq hb lx qx2
  have lx := bl hb lx
  have qy0 := bq hb ly qy0; have qy1 := bq hb ly qy1; have qy2 := bq hb ly qy2
  have ly := bl hb ly
  have qz0 := bq hb lz qz0; have qz1 := bq hb lz qz1; have qz2 := bq hb lz qz2
  have lz := bl hb lz
  have qhS0 := bq hb lhS qhS0; have qhS1 := bq hb lhS qhS1; have qhS2 := bq hb lhS qhS2
  have lhS := bl hb lhS
  have qhT0 := bq hb lhT qhT0; have qhT1 := bq hb lhT qhT1; have qhT2 := bq hb lhT qhT2
  have lhT := bl hb lhT
  have qhP0 := bq hb lhP qhP0; have qhP1 := bq hb lhP qhP1; have qhP2 := bq hb lhP qhP2
  have lhP := bl hb lhP
  have qhQ0 := bq hb lhQ qhQ0; have qhQ1 := bq hb lhQ qhQ1; have qhQ2 := bq hb lhQ qhQ2
  have lhQ := bl hb lhQ
  have qhBC0 := bq hb lhBC qhBC0; have qhBC1 := bq hb lhBC qhBC1; have qhBC2 := bq hb lhBC qhBC2
  have lhBC := bl hb lhBC
  have qhW0 := bq hb lhW qhW0; have qhW1 := bq hb lhW qhW1; have qhW2 := bq hb lhW qhW2
  have lhW := bl hb lhW
  have qhAB0 := bq hb lhAB qhAB0; have qhAB1 := bq hb lhAB qhAB1; have qhAB2 := bq hb lhAB qhAB2
  have lhAB := bl hb lhAB
  have qhAC0 := bq hb lhAC qhAC0; have qhAC1 := bq hb lhAC qhAC1; have qhAC2 := bq hb lhAC qhAC2
  have lhAC := bl hb lhAC
  have hB := below_later hB hb
  clear hb
  have lhV : w34.heap.size < w35.heap.size := by omega
  have qhV0 := q 0; have qhV1 := q 1; have qhV2 := q 2
  simp only [List.getElem?_toArray, List.getElem?_cons_zero, List.getElem?_cons_succ] at qhV0 qhV1 qhV2
  clear q f
  clear hz0
  with_reducible refine (same05_yes hSU.toNatAt hSD.toNatAt hTU.toNatAt hTD.toNatAt (Nat.le_trans (rlen_add (rlen_add lp lq) lr5) (by decide))).mono ?_
  rintro e w36 ⟨rfl, hb⟩
  have g1 := g1.past hb
  have g2 := g2.past hb
  have g3 := g3.past hb
  have g4 := g4.past hb
  have g5 := g5.past hb
  have g6 := g6.past hb
  have hSU := hSU.past hb
  have hSD := hSD.past hb
  have hTU := hTU.past hb
  have hTD := hTD.past hb
  have hPU := hPU.past hb
  have hPD := hPD.past hb
  have hQU := hQU.past hb
  have hQD := hQD.past hb
  have hBCU := hBCU.past hb
  have hBCD := hBCD.past hb
  have hWU := hWU.past hb
  have hWD := hWD.past hb
  have hABU := hABU.past hb
  have hABD := hABD.past hb
  have hACU := hACU.past hb
  have hACD := hACD.past hb
  have hVU := hVU.past hb
  have hVD := hVD.past hb
  have qx0 := bq hb lx qx0; have qx1 := bq hb lx qx1; have qx2 := bq hb lx qx2
  have lx := bl hb lx
  have qy0 := bq hb ly qy0; have qy1 := bq hb ly qy1; have qy2 := bq hb ly qy2
  have ly := bl hb ly
  have qz0 := bq hb lz qz0; have qz1 := bq hb lz qz1; have qz2 := bq hb lz qz2
  have lz := bl hb lz
  have qhS0 := bq hb lhS qhS0; have qhS1 := bq hb lhS qhS1; have qhS2 := bq hb lhS qhS2
  have lhS := bl hb lhS
  have qhT0 := bq hb lhT qhT0; have qhT1 := bq hb lhT qhT1; have qhT2 := bq hb lhT qhT2
  have lhT := bl hb lhT
  have qhP0 := bq hb lhP qhP0; have qhP1 := bq hb lhP qhP1; have qhP2 := bq hb lhP qhP2
  have lhP := bl hb lhP
  have qhQ0 := bq hb lhQ qhQ0; have qhQ1 := bq hb lhQ qhQ1; have qhQ2 := bq hb lhQ qhQ2
  have lhQ := bl hb lhQ
  have qhBC0 := bq hb lhBC qhBC0; have qhBC1 := bq hb lhBC qhBC1; have qhBC2 := bq hb lhBC qhBC2
  have lhBC := bl hb lhBC
  have qhW0 := bq hb lhW qhW0; have qhW1 := bq hb lhW qhW1; have qhW2 := bq hb lhW qhW2
  have lhW := bl hb lhW
  have qhAB0 := bq hb lhAB qhAB0; have qhAB1 := bq hb lhAB qhAB1; have qhAB2 := bq hb lhAB qhAB2
  have lhAB := bl hb lhAB
  have qhAC0 := bq hb lhAC qhAC0; have qhAC1 := bq hb lhAC qhAC1; have qhAC2 := bq hb lhAC qhAC2
  have lhAC := bl hb lhAC
  have qhV0 := bq hb lhV qhV0; have qhV1 := bq hb lhV qhV1; have qhV2 := bq hb lhV qhV2
  have lhV := bl hb lhV
  have hB := below_later hB hb
  clear hb
  go_wp2_with fail
  with_reducible refine (same05_yes hPU.toNatAt hPD.toNatAt hQU.toNatAt hQD.toNatAt (Nat.le_trans (rlen_mul (rlen_mul lp lq) lr5) (by decide))).mono ?_
  rintro e w37 ⟨rfl, hb⟩
  have g1 := g1.past hb
  have g2 := g2.past hb
  have g3 := g3.past hb
  have g4 := g4.past hb
  have g5 := g5.past hb
  have g6 := g6.past hb
  have hPU := hPU.past hb
  have hPD := hPD.past hb
  have hQU := hQU.past hb
  have hQD := hQD.past hb
  have hBCU := hBCU.past hb
  have hBCD := hBCD.past hb
  have hWU := hWU.past hb
  have hWD := hWD.past hb
  have hABU := hABU.past hb
  have hABD := hABD.past hb
  have hACU := hACU.past hb
  have hACD := hACD.past hb
  have hVU := hVU.past hb
  have hVD := hVD.past hb
  have qx0 := bq hb lx qx0; have qx1 := bq hb lx qx1; have qx2 := bq hb lx qx2
  have lx := bl hb lx
  have qy0 := bq hb ly qy0; have qy1 := bq hb ly qy1; have qy2 := bq hb ly qy2
  have ly := bl hb ly
  have qz0 := bq hb lz qz0; have qz1 := bq hb lz qz1; have qz2 := bq hb lz qz2
  have lz := bl hb lz
  have qhP0 := bq hb lhP qhP0; have qhP1 := bq hb lhP qhP1; have qhP2 := bq hb lhP qhP2
  have lhP := bl hb lhP
  have qhQ0 := bq hb lhQ qhQ0; have qhQ1 := bq hb lhQ qhQ1; have qhQ2 := bq hb lhQ qhQ2
  have lhQ := bl hb lhQ
  have qhBC0 := bq hb lhBC qhBC0; have qhBC1 := bq hb lhBC qhBC1; have qhBC2 := bq hb lhBC qhBC2
  have lhBC := bl hb lhBC
  have qhW0 := bq hb lhW qhW0; have qhW1 := bq hb lhW qhW1; have qhW2 := bq hb lhW qhW2
  have lhW := bl hb lhW
  have qhAB0 := bq hb lhAB qhAB0; have qhAB1 := bq hb lhAB qhAB1; have qhAB2 := bq hb lhAB qhAB2
  have lhAB := bl hb lhAB
  have qhAC0 := bq hb lhAC qhAC0; have qhAC1 := bq hb lhAC qhAC1; have qhAC2 := bq hb lhAC qhAC2
  have lhAC := bl hb lhAC
  have qhV0 := bq hb lhV qhV0; have qhV1 := bq hb lhV qhV1; have qhV2 := bq hb lhV qhV2
  have lhV := bl hb lhV
  have hB := below_later hB hb
  clear hb
  go_wp2_with fail
  with_reducible refine (same05_yes hWU.toNatAt hWD.toNatAt hVU.toNatAt hVD.toNatAt (Nat.le_trans (rlen_mul lp (rlen_add lq lr5)) (by decide))).mono ?_
  rintro e w38 ⟨rfl, hb⟩
  have g1 := g1.past hb
  have g2 := g2.past hb
  have g3 := g3.past hb
  have g4 := g4.past hb
  have g5 := g5.past hb
  have g6 := g6.past hb
  have hBCU := hBCU.past hb
  have hBCD := hBCD.past hb
  have hWU := hWU.past hb
  have hWD := hWD.past hb
  have hABU := hABU.past hb
  have hABD := hABD.past hb
  have hACU := hACU.past hb
  have hACD := hACD.past hb
  have hVU := hVU.past hb
  have hVD := hVD.past hb
  have qx0 := bq hb lx qx0; have qx1 := bq hb lx qx1; have qx2 := bq hb lx qx2
  have lx := bl hb lx
  have qy0 := bq hb ly qy0; have qy1 := bq hb ly qy1; have qy2 := bq hb ly qy2
  have ly := bl hb ly
  have qz0 := bq hb lz qz0; have qz1 := bq hb lz qz1; have qz2 := bq hb lz qz2
  have lz := bl hb lz
  have qhBC0 := bq hb lhBC qhBC0; have qhBC1 := bq hb lhBC qhBC1; have qhBC2 := bq hb lhBC qhBC2
  have lhBC := bl hb lhBC
  have qhW0 := bq hb lhW qhW0; have qhW1 := bq hb lhW qhW1; have qhW2 := bq hb lhW qhW2
  have lhW := bl hb lhW
  have qhAB0 := bq hb lhAB qhAB0; have qhAB1 := bq hb lhAB qhAB1; have qhAB2 := bq hb lhAB qhAB2
  have lhAB := bl hb lhAB
  have qhAC0 := bq hb lhAC qhAC0; have qhAC1 := bq hb lhAC qhAC1; have qhAC2 := bq hb lhAC qhAC2
  have lhAC := bl hb lhAC
  have qhV0 := bq hb lhV qhV0; have qhV1 := bq hb lhV qhV1; have qhV2 := bq hb lhV qhV2
  have lhV := bl hb lhV
  have hB := below_later hB hb
  clear hb
  go_wp2_with fail
  with_reducible refine (sub_rat hBCU.toNatAt hBCD.toNatAt g5 g6 (Nat.le_trans (rlen_add lq lr5) (by decide)) (Nat.le_trans lr5 (by decide))).mono ?_
  rintro e w39 ⟨ahXU, nhXU, chXU, ahXD, nhXD, chXD, rfl, hXU, hXD, hb⟩
  have g1 := g1.past hb
  have g2 := g2.past hb
  have g3 := g3.past hb
  have g4 := g4.past hb
  have g5 := g5.past hb
  have g6 := g6.past hb
  have hBCU := hBCU.past hb
  have hBCD := hBCD.past hb
  have hABU := hABU.past hb
  have hABD := hABD.past hb
  have qx0 := bq hb lx qx0; have qx1 := bq hb lx qx1; have qx2 := bq hb lx qx2
  have lx := bl hb lx
  have qy0 := bq hb ly qy0; have qy1 := bq hb ly qy1; have qy2 := bq hb ly qy2
  have ly := bl hb ly
  have qz0 := bq hb lz qz0; have qz1 := bq hb lz qz1; have qz2 := bq hb lz qz2
  have lz := bl hb lz
  have qhBC0 := bq hb lhBC qhBC0; have qhBC1 := bq hb lhBC qhBC1; have qhBC2 := bq hb lhBC qhBC2
  have lhBC := bl hb lhBC
  have qhAB0 := bq hb lhAB qhAB0; have qhAB1 := bq hb lhAB qhAB1; have qhAB2 := bq hb lhAB qhAB2
  have lhAB := bl hb lhAB
  have hB := below_later hB hb
  clear hb
  rw [show q + r - r = q from Rat.add_sub_cancel] at hXU hXD ⊢
  go_wp2_with fail
  obtain ⟨w40, hW, hz0, hb, q, f⟩ := box1g w39 (w39.heap.size) (by omega) #[.bool (neg (q).num), .slice ahXU nhXU chXU, .slice ahXD nhXD chXD] 31
  rw [hW]
  clear hW
  have g1 := g1.past hb
  have g2 := g2.past hb
  have g3 := g3.past hb
  have g4 := g4.past hb
  have g5 := g5.past hb
  have g6 := g6.past hb
  have hBCU := hBCU.past hb
  have hBCD := hBCD.past hb
  have hABU := hABU.past hb
  have hABD := hABD.past hb
  have hXU := hXU.past hb
  have hXD := hXD.past hb
  have qx0 := bq hb lx qx0; have qx1 := bq hb lx qx1; have qx2 := bq hb lx qx2
  have lx := bl hb lx
  have qy0 := bq hb ly qy0; have qy1 := bq hb ly qy1; have qy2 := bq hb ly qy2
  have ly := bl hb ly
  have qz0 := bq hb lz qz0; have qz1 := bq hb lz qz1; have qz2 := bq hb lz qz2
  have lz := bl hb lz
  have qhBC0 := bq hb lhBC qhBC0; have qhBC1 := bq hb lhBC qhBC1; have qhBC2 := bq hb lhBC qhBC2
  have lhBC := bl hb lhBC
  have qhAB0 := bq hb lhAB qhAB0; have qhAB1 := bq hb lhAB qhAB1; have qhAB2 := bq hb lhAB qhAB2
  have lhAB := bl hb lhAB
  have hB := below_later hB hb
  clear hb
  have lhX : w39.heap.size < w40.heap.size := by omega
  have qhX0 := q 0; have qhX1 := q 1; have qhX2 := q 2
  simp only [List.getElem?_toArray, List.getElem?_cons_zero, List.getElem?_cons_succ] at qhX0 qhX1 qhX2
  clear q f
  clear hz0
  with_reducible refine (same05_yes hXU.toNatAt hXD.toNatAt g3 g4 (Nat.le_trans lq (by decide))).mono ?_
  rintro e w41 ⟨rfl, hb⟩
  have g1 := g1.past hb
  have g2 := g2.past hb
  have g3 := g3.past hb
  have g4 := g4.past hb
  have g5 := g5.past hb
  have g6 := g6.past hb
  have hBCU := hBCU.past hb
  have hBCD := hBCD.past hb
  have hABU := hABU.past hb
  have hABD := hABD.past hb
  have hXU := hXU.past hb
  have hXD := hXD.past hb
  have qx0 := bq hb lx qx0; have qx1 := bq hb lx qx1; have qx2 := bq hb lx qx2
  have lx := bl hb lx
  have qy0 := bq hb ly qy0; have qy1 := bq hb ly qy1; have qy2 := bq hb ly qy2
  have ly := bl hb ly
  have qz0 := bq hb lz qz0; have qz1 := bq hb lz qz1; have qz2 := bq hb lz qz2
  have lz := bl hb lz
  have qhBC0 := bq hb lhBC qhBC0; have qhBC1 := bq hb lhBC qhBC1; have qhBC2 := bq hb lhBC qhBC2
  have lhBC := bl hb lhBC
  have qhAB0 := bq hb lhAB qhAB0; have qhAB1 := bq hb lhAB qhAB1; have qhAB2 := bq hb lhAB qhAB2
  have lhAB := bl hb lhAB
  have qhX0 := bq hb lhX qhX0; have qhX1 := bq hb lhX qhX1; have qhX2 := bq hb lhX qhX2
  have lhX := bl hb lhX
  have hB := below_later hB hb
  clear hb
  go_wp2_with fail
  with_reducible refine (div_zero05 hABU.toNatAt hABD.toNatAt g3 g4 (Nat.le_trans (rlen_mul lp lq) (by decide)) (Nat.le_trans lq (by decide)) HZ.out).mono ?_
  rintro e w42 ⟨a9, n9, c9, a8, n8, c8, rfl, hb⟩
  have g1 := g1.past hb
  have g2 := g2.past hb
  have g3 := g3.past hb
  have g4 := g4.past hb
  have g5 := g5.past hb
  have g6 := g6.past hb
  have hABU := hABU.past hb
  have hABD := hABD.past hb
  have qx0 := bq hb lx qx0; have qx1 := bq hb lx qx1; have qx2 := bq hb lx qx2
  have lx := bl hb lx
  have qy0 := bq hb ly qy0; have qy1 := bq hb ly qy1; have qy2 := bq hb ly qy2
  have ly := bl hb ly
  have qz0 := bq hb lz qz0; have qz1 := bq hb lz qz1; have qz2 := bq hb lz qz2
  have lz := bl hb lz
  have qhAB0 := bq hb lhAB qhAB0; have qhAB1 := bq hb lhAB qhAB1; have qhAB2 := bq hb lhAB qhAB2
  have lhAB := bl hb lhAB
  have hB := below_later hB hb
  clear hb
  obtain rfl := HZ3.out
  go_wp2
  obtain ⟨w43, hW, hz0, hb, q, f⟩ := box1g w42 (w42.heap.size) (by omega) #[.bool false, .slice a9 n9 c9, .slice a8 n8 c8] 31
  rw [hW]
  clear hW
  have qx0 := bq hb lx qx0; have qx1 := bq hb lx qx1; have qx2 := bq hb lx qx2
  have lx := bl hb lx
  have qy0 := bq hb ly qy0; have qy1 := bq hb ly qy1; have qy2 := bq hb ly qy2
  have ly := bl hb ly
  have qz0 := bq hb lz qz0; have qz1 := bq hb lz qz1; have qz2 := bq hb lz qz2
  have lz := bl hb lz
  have qhAB0 := bq hb lhAB qhAB0; have qhAB1 := bq hb lhAB qhAB1; have qhAB2 := bq hb lhAB qhAB2
  have lhAB := bl hb lhAB
  have hB := below_later hB hb
  clear hb
  have lzz : w42.heap.size < w43.heap.size := by omega
  have qzz0 := q 0; have qzz1 := q 1; have qzz2 := q 2
  simp only [List.getElem?_toArray, List.getElem?_cons_zero, List.getElem?_cons_succ] at qzz0 qzz1 qzz2
  clear q f
  clear hz0
  go_ret
  exact ⟨rfl, hB⟩

set_option maxRecDepth 100000 in
set_option maxHeartbeats 32000000 in
theorem ratioField_some {p q r : Rat} {a1 : Option Addr} {n1 c1 : Nat} {a2 : Option Addr} {n2 c2 : Nat} {a3 : Option Addr} {n3 c3 : Nat} {a4 : Option Addr} {n4 c4 : Nat} {a5 : Option Addr} {n5 c5 : Nat} {a6 : Option Addr} {n6 c6 : Nat} {w : World} (g1 : NatAt w a1 n1 c1 (digs p.num.natAbs)) (g2 : NatAt w a2 n2 c2 (digs p.den)) (g3 : NatAt w a3 n3 c3 (digs q.num.natAbs)) (g4 : NatAt w a4 n4 c4 (digs q.den)) (g5 : NatAt w a5 n5 c5 (digs r.num.natAbs)) (g6 : NatAt w a6 n6 c6 (digs r.den)) (hs : ((digs p.num.natAbs).length ≤ 5 ∧ (digs p.den).length ≤ 5) ∧ ((digs q.num.natAbs).length ≤ 5 ∧ (digs q.den).length ≤ 5) ∧ ((digs r.num.natAbs).length ≤ 5 ∧ (digs r.den).length ≤ 5)) (hl : (longP ((neg p.num), (digs p.num.natAbs), (digs p.den)) || (longP ((neg q.num), (digs q.num.natAbs), (digs q.den)) || longP ((neg r.num), (digs r.num.natAbs), (digs r.den)))) = false) (hz : q ≠ 0) :
    Calls Try.prog 7 #[.agg #[.bool (neg p.num), .slice a1 n1 c1, .slice a2 n2 c2], .agg #[.bool (neg q.num), .slice a3 n3 c3, .slice a4 n4 c4], .agg #[.bool (neg r.num), .slice a5 n5 c5, .slice a6 n6 c6]] w (RetVal w (.bool true)) := by
  rw [← longB3] at hl
  have gk : ∀ i, i < 3 → ((rawF [((neg p.num), (digs p.num.natAbs), (digs p.den)), ((neg q.num), (digs q.num.natAbs), (digs q.den)), ((neg r.num), (digs r.num.natAbs), (digs r.den))]) i).2.1.length ≤ 68719476736 ∧ ((rawF [((neg p.num), (digs p.num.natAbs), (digs p.den)), ((neg q.num), (digs q.num.natAbs), (digs q.den)), ((neg r.num), (digs r.num.natAbs), (digs r.den))]) i).2.2.length ≤ 68719476736 := fun i hi => by
    match i, hi with
    | 0, _ => exact ⟨Nat.le_trans hs.1.1 (by decide), Nat.le_trans hs.1.2 (by decide)⟩
    | 1, _ => exact ⟨Nat.le_trans hs.2.1.1 (by decide), Nat.le_trans hs.2.1.2 (by decide)⟩
    | 2, _ => exact ⟨Nat.le_trans hs.2.2.1 (by decide), Nat.le_trans hs.2.2.2 (by decide)⟩
  have e3 := allR3 ((neg p.num), (digs p.num.natAbs), (digs p.den)) ((neg q.num), (digs q.num.natAbs), (digs q.den)) ((neg r.num), (digs r.num.natAbs), (digs r.den))
  rw [show decide (chk3 ((neg p.num), (digs p.num.natAbs), (digs p.den)) = 0) = true from decide_eq_true (chk3_parts p), show decide (chk3 ((neg q.num), (digs q.num.natAbs), (digs q.den)) = 0) = true from decide_eq_true (chk3_parts q), show decide (chk3 ((neg r.num), (digs r.num.natAbs), (digs r.den)) = 0) = true from decide_eq_true (chk3_parts r)] at e3
  have e3 : allR (rawF [((neg p.num), (digs p.num.natAbs), (digs p.den)), ((neg q.num), (digs q.num.natAbs), (digs q.den)), ((neg r.num), (digs r.num.natAbs), (digs r.den))]) 3 = true := e3
  have lp : rlen p ≤ 5 := Nat.max_le.2 hs.1
  have lq : rlen q ≤ 5 := Nat.max_le.2 hs.2.1
  have lr5 : rlen r ≤ 5 := Nat.max_le.2 hs.2.2
  have LB := Lib.hid hl
  have GK := Lib.hid gk
  have GB := Lib.hid e3
  have hz3 : ((n3 : Int) == 0) = false := by rw [beq_eq_false_iff_ne]; intro h0; exact hz (num_len0.1 (by have := g3.len; omega))
  have HZ := Lib.hid hz
  clear hz
  clear hl gk e3
  go_enter Try.func7, Try.ntmps7
  have hB := Below.refl w.heap.size w
  go_wp2_with fail
  obtain ⟨w1, hW, hz0, hb, q, f⟩ := box1g w (w.heap.size) (by omega) #[.bool (neg p.num), .slice a1 n1 c1, .slice a2 n2 c2] 31
  rw [hW]
  clear hW
  have g1 := g1.past hb
  have g2 := g2.past hb
  have g3 := g3.past hb
  have g4 := g4.past hb
  have g5 := g5.past hb
  have g6 := g6.past hb
  have hB := below_later hB hb
  clear hb
  have lx : w.heap.size < w1.heap.size := by omega
  have qx0 := q 0; have qx1 := q 1; have qx2 := q 2
  simp only [List.getElem?_toArray, List.getElem?_cons_zero, List.getElem?_cons_succ] at qx0 qx1 qx2
  clear q f
  obtain ⟨w2, hW, hz1, hb, q, f⟩ := box1g w1 (w.heap.size + 1) (by omega) #[.bool (neg q.num), .slice a3 n3 c3, .slice a4 n4 c4] 31
  rw [hW]
  clear hW
  have g1 := g1.past hb
  have g2 := g2.past hb
  have g3 := g3.past hb
  have g4 := g4.past hb
  have g5 := g5.past hb
  have g6 := g6.past hb
  have qx0 := bq hb lx qx0; have qx1 := bq hb lx qx1; have qx2 := bq hb lx qx2
  have lx := bl hb lx
  have hB := below_later hB hb
  clear hb
  have ly : w.heap.size + 1 < w2.heap.size := by omega
  have qy0 := q 0; have qy1 := q 1; have qy2 := q 2
  simp only [List.getElem?_toArray, List.getElem?_cons_zero, List.getElem?_cons_succ] at qy0 qy1 qy2
  clear q f
  obtain ⟨w3, hW, hz2, hb, q, f⟩ := box1g w2 (w.heap.size + 1 + 1) (by omega) #[.bool (neg r.num), .slice a5 n5 c5, .slice a6 n6 c6] 31
  rw [hW]
  clear hW
  have g1 := g1.past hb
  have g2 := g2.past hb
  have g3 := g3.past hb
  have g4 := g4.past hb
  have g5 := g5.past hb
  have g6 := g6.past hb
  have qx0 := bq hb lx qx0; have qx1 := bq hb lx qx1; have qx2 := bq hb lx qx2
  have lx := bl hb lx
  have qy0 := bq hb ly qy0; have qy1 := bq hb ly qy1; have qy2 := bq hb ly qy2
  have ly := bl hb ly
  have hB := below_later hB hb
  clear hb
  have lz : w.heap.size + 1 + 1 < w3.heap.size := by omega
  have qz0 := q 0; have qz1 := q 1; have qz2 := q 2
  simp only [List.getElem?_toArray, List.getElem?_cons_zero, List.getElem?_cons_succ] at qz0 qz1 qz2
  clear q f
  clear hz0
  clear hz1
  clear hz2
  with_reducible refine (ratioKnown_any _).mono ?_
  rintro e w4 ⟨rfl, hb⟩
  have g1 := g1.past hb
  have g2 := g2.past hb
  have g3 := g3.past hb
  have g4 := g4.past hb
  have g5 := g5.past hb
  have g6 := g6.past hb
  have qx0 := bq hb lx qx0; have qx1 := bq hb lx qx1; have qx2 := bq hb lx qx2
  have lx := bl hb lx
  have qy0 := bq hb ly qy0; have qy1 := bq hb ly qy1; have qy2 := bq hb ly qy2
  have ly := bl hb ly
  have qz0 := bq hb lz qz0; have qz1 := bq hb lz qz1; have qz2 := bq hb lz qz2
  have lz := bl hb lz
  have hB := below_later hB hb
  clear hb
  go_wp2_with fail
  obtain ⟨w5, hW, hz0, hb, q, f⟩ := box1g w4 (w4.heap.size) (by omega) #[.bool (neg p.num), .slice a1 n1 c1, .slice a2 n2 c2, .bool (neg q.num), .slice a3 n3 c3, .slice a4 n4 c4, .bool (neg r.num), .slice a5 n5 c5, .slice a6 n6 c6] 31
  rw [hW]
  clear hW
  have g1 := g1.past hb
  have g2 := g2.past hb
  have g3 := g3.past hb
  have g4 := g4.past hb
  have g5 := g5.past hb
  have g6 := g6.past hb
  have qx0 := bq hb lx qx0; have qx1 := bq hb lx qx1; have qx2 := bq hb lx qx2
  have lx := bl hb lx
  have qy0 := bq hb ly qy0; have qy1 := bq hb ly qy1; have qy2 := bq hb ly qy2
  have ly := bl hb ly
  have qz0 := bq hb lz qz0; have qz1 := bq hb lz qz1; have qz2 := bq hb lz qz2
  have lz := bl hb lz
  have hB := below_later hB hb
  clear hb
  have ls : w4.heap.size < w5.heap.size := by omega
  have qs0 := q 0; have qs1 := q 1; have qs2 := q 2; have qs3 := q 3; have qs4 := q 4; have qs5 := q 5; have qs6 := q 6; have qs7 := q 7; have qs8 := q 8
  simp only [List.getElem?_toArray, List.getElem?_cons_zero, List.getElem?_cons_succ] at qs0 qs1 qs2 qs3 qs4 qs5 qs6 qs7 qs8
  clear q f
  clear hz0
  with_reducible refine (long05_any _ _ _ _ _ (RatsAt.raw3 (x := ((neg p.num), (digs p.num.natAbs), (digs p.den))) (y := ((neg q.num), (digs q.num.natAbs), (digs q.den))) (z := ((neg r.num), (digs r.num.natAbs), (digs r.den))) ls qs0 qs1 qs2 qs3 qs4 qs5 qs6 qs7 qs8 g1 g2 g3 g4 g5 g6)).mono ?_
  rintro e w6 ⟨rfl, hb⟩
  have g1 := g1.past hb
  have g2 := g2.past hb
  have g3 := g3.past hb
  have g4 := g4.past hb
  have g5 := g5.past hb
  have g6 := g6.past hb
  have qx0 := bq hb lx qx0; have qx1 := bq hb lx qx1; have qx2 := bq hb lx qx2
  have lx := bl hb lx
  have qy0 := bq hb ly qy0; have qy1 := bq hb ly qy1; have qy2 := bq hb ly qy2
  have ly := bl hb ly
  have qz0 := bq hb lz qz0; have qz1 := bq hb lz qz1; have qz2 := bq hb lz qz2
  have lz := bl hb lz
  have qs0 := bq hb ls qs0; have qs1 := bq hb ls qs1; have qs2 := bq hb ls qs2; have qs3 := bq hb ls qs3; have qs4 := bq hb ls qs4; have qs5 := bq hb ls qs5; have qs6 := bq hb ls qs6; have qs7 := bq hb ls qs7; have qs8 := bq hb ls qs8
  have ls := bl hb ls
  have hB := below_later hB hb
  clear hb
  rw [LB.out]
  go_wp2_with fail
  obtain ⟨w7, hW, hz0, hb, q, f⟩ := box1g w6 (w6.heap.size) (by omega) #[.bool (neg p.num), .slice a1 n1 c1, .slice a2 n2 c2, .bool (neg q.num), .slice a3 n3 c3, .slice a4 n4 c4, .bool (neg r.num), .slice a5 n5 c5, .slice a6 n6 c6] 31
  rw [hW]
  clear hW
  have g1 := g1.past hb
  have g2 := g2.past hb
  have g3 := g3.past hb
  have g4 := g4.past hb
  have g5 := g5.past hb
  have g6 := g6.past hb
  have qx0 := bq hb lx qx0; have qx1 := bq hb lx qx1; have qx2 := bq hb lx qx2
  have lx := bl hb lx
  have qy0 := bq hb ly qy0; have qy1 := bq hb ly qy1; have qy2 := bq hb ly qy2
  have ly := bl hb ly
  have qz0 := bq hb lz qz0; have qz1 := bq hb lz qz1; have qz2 := bq hb lz qz2
  have lz := bl hb lz
  have hB := below_later hB hb
  clear hb
  have ls : w6.heap.size < w7.heap.size := by omega
  have qs0 := q 0; have qs1 := q 1; have qs2 := q 2; have qs3 := q 3; have qs4 := q 4; have qs5 := q 5; have qs6 := q 6; have qs7 := q 7; have qs8 := q 8
  simp only [List.getElem?_toArray, List.getElem?_cons_zero, List.getElem?_cons_succ] at qs0 qs1 qs2 qs3 qs4 qs5 qs6 qs7 qs8
  clear q f
  clear hz0
  with_reducible refine (good05_any _ _ _ _ _ (RatsAt.raw3 (x := ((neg p.num), (digs p.num.natAbs), (digs p.den))) (y := ((neg q.num), (digs q.num.natAbs), (digs q.den))) (z := ((neg r.num), (digs r.num.natAbs), (digs r.den))) ls qs0 qs1 qs2 qs3 qs4 qs5 qs6 qs7 qs8 g1 g2 g3 g4 g5 g6) GK.out).mono ?_
  rintro e w8 ⟨rfl, hb⟩
  have g1 := g1.past hb
  have g2 := g2.past hb
  have g3 := g3.past hb
  have g4 := g4.past hb
  have g5 := g5.past hb
  have g6 := g6.past hb
  have qx0 := bq hb lx qx0; have qx1 := bq hb lx qx1; have qx2 := bq hb lx qx2
  have lx := bl hb lx
  have qy0 := bq hb ly qy0; have qy1 := bq hb ly qy1; have qy2 := bq hb ly qy2
  have ly := bl hb ly
  have qz0 := bq hb lz qz0; have qz1 := bq hb lz qz1; have qz2 := bq hb lz qz2
  have lz := bl hb lz
  have qs0 := bq hb ls qs0; have qs1 := bq hb ls qs1; have qs2 := bq hb ls qs2; have qs3 := bq hb ls qs3; have qs4 := bq hb ls qs4; have qs5 := bq hb ls qs5; have qs6 := bq hb ls qs6; have qs7 := bq hb ls qs7; have qs8 := bq hb ls qs8
  have ls := bl hb ls
  have hB := below_later hB hb
  clear hb
  rw [GB.out]
  go_wp2_with fail
  obtain ⟨w9, hW, hz0, hb, q, f⟩ := box1g w8 (w8.heap.size) (by omega) #[.bool (neg p.num), .slice a1 n1 c1, .slice a2 n2 c2, .bool (neg q.num), .slice a3 n3 c3, .slice a4 n4 c4, .bool (neg r.num), .slice a5 n5 c5, .slice a6 n6 c6] 31
  rw [hW]
  clear hW
  have g1 := g1.past hb
  have g2 := g2.past hb
  have g3 := g3.past hb
  have g4 := g4.past hb
  have g5 := g5.past hb
  have g6 := g6.past hb
  have qx0 := bq hb lx qx0; have qx1 := bq hb lx qx1; have qx2 := bq hb lx qx2
  have lx := bl hb lx
  have qy0 := bq hb ly qy0; have qy1 := bq hb ly qy1; have qy2 := bq hb ly qy2
  have ly := bl hb ly
  have qz0 := bq hb lz qz0; have qz1 := bq hb lz qz1; have qz2 := bq hb lz qz2
  have lz := bl hb lz
  have hB := below_later hB hb
  clear hb
  have ls : w8.heap.size < w9.heap.size := by omega
  have qs0 := q 0; have qs1 := q 1; have qs2 := q 2; have qs3 := q 3; have qs4 := q 4; have qs5 := q 5; have qs6 := q 6; have qs7 := q 7; have qs8 := q 8
  simp only [List.getElem?_toArray, List.getElem?_cons_zero, List.getElem?_cons_succ] at qs0 qs1 qs2 qs3 qs4 qs5 qs6 qs7 qs8
  clear q f
  clear hz0
  with_reducible refine (add_three (RatsAt.three ls qs0 qs1 qs2 qs3 qs4 qs5 qs6 qs7 qs8 g1 g2 g3 g4 g5 g6) (Nat.le_trans lp (by decide)) (Nat.le_trans lq (by decide)) (Nat.le_trans lr5 (by decide))).mono ?_
  rintro e w10 ⟨ahSU, nhSU, chSU, ahSD, nhSD, chSD, rfl, hSU, hSD, hb⟩
  have g1 := g1.past hb
  have g2 := g2.past hb
  have g3 := g3.past hb
  have g4 := g4.past hb
  have g5 := g5.past hb
  have g6 := g6.past hb
  have qx0 := bq hb lx qx0; have qx1 := bq hb lx qx1; have qx2 := bq hb lx qx2
  have lx := bl hb lx
  have qy0 := bq hb ly qy0; have qy1 := bq hb ly qy1; have qy2 := bq hb ly qy2
  have ly := bl hb ly
  have qz0 := bq hb lz qz0; have qz1 := bq hb lz qz1; have qz2 := bq hb lz qz2
  have lz := bl hb lz
  have qs0 := bq hb ls qs0; have qs1 := bq hb ls qs1; have qs2 := bq hb ls qs2; have qs3 := bq hb ls qs3; have qs4 := bq hb ls qs4; have qs5 := bq hb ls qs5; have qs6 := bq hb ls qs6; have qs7 := bq hb ls qs7; have qs8 := bq hb ls qs8
  have ls := bl hb ls
  have hB := below_later hB hb
  clear hb
  go_wp2_with fail
  obtain ⟨w11, hW, hz0, hb, q, f⟩ := box1g w10 (w10.heap.size) (by omega) #[.bool (neg (p + q + r).num), .slice ahSU nhSU chSU, .slice ahSD nhSD chSD] 31
  rw [hW]
  clear hW
  have g1 := g1.past hb
  have g2 := g2.past hb
  have g3 := g3.past hb
  have g4 := g4.past hb
  have g5 := g5.past hb
  have g6 := g6.past hb
  have hSU := hSU.past hb
  have hSD := hSD.past hb
  have qx0 := bq hb lx qx0; have qx1 := bq hb lx qx1; have qx2 := bq hb lx qx2
  have lx := bl hb lx
  have qy0 := bq hb ly qy0; have qy1 := bq hb ly qy1; have qy2 := bq hb ly qy2
  have ly := bl hb ly
  have qz0 := bq hb lz qz0; have qz1 := bq hb lz qz1; have qz2 := bq hb lz qz2
  have lz := bl hb lz
  have hB := below_later hB hb
  clear hb
  have lhS : w10.heap.size < w11.heap.size := by omega
  have qhS0 := q 0; have qhS1 := q 1; have qhS2 := q 2
  simp only [List.getElem?_toArray, List.getElem?_cons_zero, List.getElem?_cons_succ] at qhS0 qhS1 qhS2
  clear q f
  obtain ⟨w12, hW, hz1, hb, q, f⟩ := box1g w11 (w10.heap.size + 1) (by omega) #[.bool (neg r.num), .slice a5 n5 c5, .slice a6 n6 c6, .bool (neg p.num), .slice a1 n1 c1, .slice a2 n2 c2, .bool (neg q.num), .slice a3 n3 c3, .slice a4 n4 c4] 31
  rw [hW]
  clear hW
  have g1 := g1.past hb
  have g2 := g2.past hb
  have g3 := g3.past hb
  have g4 := g4.past hb
  have g5 := g5.past hb
  have g6 := g6.past hb
  have hSU := hSU.past hb
  have hSD := hSD.past hb
  have qx0 := bq hb lx qx0; have qx1 := bq hb lx qx1; have qx2 := bq hb lx qx2
  have lx := bl hb lx
  have qy0 := bq hb ly qy0; have qy1 := bq hb ly qy1; have qy2 := bq hb ly qy2
  have ly := bl hb ly
  have qz0 := bq hb lz qz0; have qz1 := bq hb lz qz1; have qz2 := bq hb lz qz2
  have lz := bl hb lz
  have qhS0 := bq hb lhS qhS0; have qhS1 := bq hb lhS qhS1; have qhS2 := bq hb lhS qhS2
  have lhS := bl hb lhS
  have hB := below_later hB hb
  clear hb
  have ls : w10.heap.size + 1 < w12.heap.size := by omega
  have qs0 := q 0; have qs1 := q 1; have qs2 := q 2; have qs3 := q 3; have qs4 := q 4; have qs5 := q 5; have qs6 := q 6; have qs7 := q 7; have qs8 := q 8
  simp only [List.getElem?_toArray, List.getElem?_cons_zero, List.getElem?_cons_succ] at qs0 qs1 qs2 qs3 qs4 qs5 qs6 qs7 qs8
  clear q f
  clear hz0
  clear hz1
  with_reducible refine (add_three (RatsAt.three ls qs0 qs1 qs2 qs3 qs4 qs5 qs6 qs7 qs8 g5 g6 g1 g2 g3 g4) (Nat.le_trans lr5 (by decide)) (Nat.le_trans lp (by decide)) (Nat.le_trans lq (by decide))).mono ?_
  rintro e w13 ⟨ahTU, nhTU, chTU, ahTD, nhTD, chTD, rfl, hTU, hTD, hb⟩
  have g1 := g1.past hb
  have g2 := g2.past hb
  have g3 := g3.past hb
  have g4 := g4.past hb
  have g5 := g5.past hb
  have g6 := g6.past hb
  have hSU := hSU.past hb
  have hSD := hSD.past hb
  have qx0 := bq hb lx qx0; have qx1 := bq hb lx qx1; have qx2 := bq hb lx qx2
  have lx := bl hb lx
  have qy0 := bq hb ly qy0; have qy1 := bq hb ly qy1; have qy2 := bq hb ly qy2
  have ly := bl hb ly
  have qz0 := bq hb lz qz0; have qz1 := bq hb lz qz1; have qz2 := bq hb lz qz2
  have lz := bl hb lz
  have qhS0 := bq hb lhS qhS0; have qhS1 := bq hb lhS qhS1; have qhS2 := bq hb lhS qhS2
  have lhS := bl hb lhS
  have qs0 := bq hb ls qs0; have qs1 := bq hb ls qs1; have qs2 := bq hb ls qs2; have qs3 := bq hb ls qs3; have qs4 := bq hb ls qs4; have qs5 := bq hb ls qs5; have qs6 := bq hb ls qs6; have qs7 := bq hb ls qs7; have qs8 := bq hb ls qs8
  have ls := bl hb ls
  have hB := below_later hB hb
  clear hb
  rw [show r + p + q = p + q + r from rat_turn_add p q r] at hTU hTD ⊢
  go_wp2_with fail
  obtain ⟨w14, hW, hz0, hb, q, f⟩ := box1g w13 (w13.heap.size) (by omega) #[.bool (neg (p + q + r).num), .slice ahTU nhTU chTU, .slice ahTD nhTD chTD] 31
  rw [hW]
  clear hW
  have g1 := g1.past hb
  have g2 := g2.past hb
  have g3 := g3.past hb
  have g4 := g4.past hb
  have g5 := g5.past hb
  have g6 := g6.past hb
  have hSU := hSU.past hb
  have hSD := hSD.past hb
  have hTU := hTU.past hb
  have hTD := hTD.past hb
  have qx0 := bq hb lx qx0; have qx1 := bq hb lx qx1; have qx2 := bq hb lx qx2
  have lx := bl hb lx
  have qy0 := bq hb ly qy0; have qy1 := bq hb ly qy1; have qy2 := bq hb ly qy2
  have ly := bl hb ly
  have qz0 := bq hb lz qz0; have qz1 := bq hb lz qz1; have qz2 := bq hb lz qz2
  have lz := bl hb lz
  have qhS0 := bq hb lhS qhS0; have qhS1 := bq hb lhS qhS1; have qhS2 := bq hb lhS qhS2
  have lhS := bl hb lhS
  have hB := below_later hB hb
  clear hb
  have lhT : w13.heap.size < w14.heap.size := by omega
  have qhT0 := q 0; have qhT1 := q 1; have qhT2 := q 2
  simp only [List.getElem?_toArray, List.getElem?_cons_zero, List.getElem?_cons_succ] at qhT0 qhT1 qhT2
  clear q f
  obtain ⟨w15, hW, hz1, hb, q, f⟩ := box1g w14 (w13.heap.size + 1) (by omega) #[.bool (neg p.num), .slice a1 n1 c1, .slice a2 n2 c2, .bool (neg q.num), .slice a3 n3 c3, .slice a4 n4 c4, .bool (neg r.num), .slice a5 n5 c5, .slice a6 n6 c6] 31
  rw [hW]
  clear hW
  have g1 := g1.past hb
  have g2 := g2.past hb
  have g3 := g3.past hb
  have g4 := g4.past hb
  have g5 := g5.past hb
  have g6 := g6.past hb
  have hSU := hSU.past hb
  have hSD := hSD.past hb
  have hTU := hTU.past hb
  have hTD := hTD.past hb
  have qx0 := bq hb lx qx0; have qx1 := bq hb lx qx1; have qx2 := bq hb lx qx2
  have lx := bl hb lx
  have qy0 := bq hb ly qy0; have qy1 := bq hb ly qy1; have qy2 := bq hb ly qy2
  have ly := bl hb ly
  have qz0 := bq hb lz qz0; have qz1 := bq hb lz qz1; have qz2 := bq hb lz qz2
  have lz := bl hb lz
  have qhS0 := bq hb lhS qhS0; have qhS1 := bq hb lhS qhS1; have qhS2 := bq hb lhS qhS2
  have lhS := bl hb lhS
  have qhT0 := bq hb lhT qhT0; have qhT1 := bq hb lhT qhT1; have qhT2 := bq hb lhT qhT2
  have lhT := bl hb lhT
  have hB := below_later hB hb
  clear hb
  have ls : w13.heap.size + 1 < w15.heap.size := by omega
  have qs0 := q 0; have qs1 := q 1; have qs2 := q 2; have qs3 := q 3; have qs4 := q 4; have qs5 := q 5; have qs6 := q 6; have qs7 := q 7; have qs8 := q 8
  simp only [List.getElem?_toArray, List.getElem?_cons_zero, List.getElem?_cons_succ] at qs0 qs1 qs2 qs3 qs4 qs5 qs6 qs7 qs8
  clear q f
  clear hz0
  clear hz1
  with_reducible refine (mul_three (RatsAt.three ls qs0 qs1 qs2 qs3 qs4 qs5 qs6 qs7 qs8 g1 g2 g3 g4 g5 g6) (Nat.le_trans lp (by decide)) (Nat.le_trans lq (by decide)) (Nat.le_trans lr5 (by decide))).mono ?_
  rintro e w16 ⟨ahPU, nhPU, chPU, ahPD, nhPD, chPD, rfl, hPU, hPD, hb⟩
  have g1 := g1.past hb
  have g2 := g2.past hb
  have g3 := g3.past hb
  have g4 := g4.past hb
  have g5 := g5.past hb
  have g6 := g6.past hb
  have hSU := hSU.past hb
  have hSD := hSD.past hb
  have hTU := hTU.past hb
  have hTD := hTD.past hb
  have qx0 := bq hb lx qx0; have qx1 := bq hb lx qx1; have qx2 := bq hb lx qx2
  have lx := bl hb lx
  have qy0 := bq hb ly qy0; have qy1 := bq hb ly qy1; have qy2 := bq hb ly qy2
  have ly := bl hb ly
  have qz0 := bq hb lz qz0; have qz1 := bq hb lz qz1; have qz2 := bq hb lz qz2
  have lz := bl hb lz
  have qhS0 := bq hb lhS qhS0; have qhS1 := bq hb lhS qhS1; have qhS2 := bq hb lhS qhS2
  have lhS := bl hb lhS
  have qhT0 := bq hb lhT qhT0; have qhT1 := bq hb lhT qhT1; have qhT2 := bq hb lhT qhT2
  have lhT := bl hb lhT
  have qs0 := bq hb ls qs0; have qs1 := bq hb ls qs1; have qs2 := bq hb ls qs2; have qs3 := bq hb ls qs3; have qs4 := bq hb ls qs4; have qs5 := bq hb ls qs5; have qs6 := bq hb ls qs6; have qs7 := bq hb ls qs7; have qs8 := bq hb ls qs8
  have ls := bl hb ls
  have hB := below_later hB hb
  clear hb
  go_wp2_with fail
  obtain ⟨w17, hW, hz0, hb, q, f⟩ := box1g w16 (w16.heap.size) (by omega) #[.bool (neg (p * q * r).num), .slice ahPU nhPU chPU, .slice ahPD nhPD chPD] 31
  rw [hW]
  clear hW
  have g1 := g1.past hb
  have g2 := g2.past hb
  have g3 := g3.past hb
  have g4 := g4.past hb
  have g5 := g5.past hb
  have g6 := g6.past hb
  have hSU := hSU.past hb
  have hSD := hSD.past hb
  have hTU := hTU.past hb
  have hTD := hTD.past hb
  have hPU := hPU.past hb
  have hPD := hPD.past hb
  have qx0 := bq hb lx qx0; have qx1 := bq hb lx qx1; have qx2 := bq hb lx qx2
  have lx := bl hb lx
  have qy0 := bq hb ly qy0; have qy1 := bq hb ly qy1; have qy2 := bq hb ly qy2
  have ly := bl hb ly
  have qz0 := bq hb lz qz0; have qz1 := bq hb lz qz1; have qz2 := bq hb lz qz2
  have lz := bl hb lz
  have qhS0 := bq hb lhS qhS0; have qhS1 := bq hb lhS qhS1; have qhS2 := bq hb lhS qhS2
  have lhS := bl hb lhS
  have qhT0 := bq hb lhT qhT0; have qhT1 := bq hb lhT qhT1; have qhT2 := bq hb lhT qhT2
  have lhT := bl hb lhT
  have hB := below_later hB hb
  clear hb
  have lhP : w16.heap.size < w17.heap.size := by omega
  have qhP0 := q 0; have qhP1 := q 1; have qhP2 := q 2
  simp only [List.getElem?_toArray, List.getElem?_cons_zero, List.getElem?_cons_succ] at qhP0 qhP1 qhP2
  clear q f
  obtain ⟨w18, hW, hz1, hb, q, f⟩ := box1g w17 (w16.heap.size + 1) (by omega) #[.bool (neg q.num), .slice a3 n3 c3, .slice a4 n4 c4, .bool (neg r.num), .slice a5 n5 c5, .slice a6 n6 c6, .bool (neg p.num), .slice a1 n1 c1, .slice a2 n2 c2] 31
  rw [hW]
  clear hW
  have g1 := g1.past hb
  have g2 := g2.past hb
  have g3 := g3.past hb
  have g4 := g4.past hb
  have g5 := g5.past hb
  have g6 := g6.past hb
  have hSU := hSU.past hb
  have hSD := hSD.past hb
  have hTU := hTU.past hb
  have hTD := hTD.past hb
  have hPU := hPU.past hb
  have hPD := hPD.past hb
  have qx0 := bq hb lx qx0; have qx1 := bq hb lx qx1; have qx2 := bq hb lx qx2
  have lx := bl hb lx
  have qy0 := bq hb ly qy0; have qy1 := bq hb ly qy1; have qy2 := bq hb ly qy2
  have ly := bl hb ly
  have qz0 := bq hb lz qz0; have qz1 := bq hb lz qz1; have qz2 := bq hb lz qz2
  have lz := bl hb lz
  have qhS0 := bq hb lhS qhS0; have qhS1 := bq hb lhS qhS1; have qhS2 := bq hb lhS qhS2
  have lhS := bl hb lhS
  have qhT0 := bq hb lhT qhT0; have qhT1 := bq hb lhT qhT1; have qhT2 := bq hb lhT qhT2
  have lhT := bl hb lhT
  have qhP0 := bq hb lhP qhP0; have qhP1 := bq hb lhP qhP1; have qhP2 := bq hb lhP qhP2
  have lhP := bl hb lhP
  have hB := below_later hB hb
  clear hb
  have ls : w16.heap.size + 1 < w18.heap.size := by omega
  have qs0 := q 0; have qs1 := q 1; have qs2 := q 2; have qs3 := q 3; have qs4 := q 4; have qs5 := q 5; have qs6 := q 6; have qs7 := q 7; have qs8 := q 8
  simp only [List.getElem?_toArray, List.getElem?_cons_zero, List.getElem?_cons_succ] at qs0 qs1 qs2 qs3 qs4 qs5 qs6 qs7 qs8
  clear q f
  clear hz0
  clear hz1
  with_reducible refine (mul_three (RatsAt.three ls qs0 qs1 qs2 qs3 qs4 qs5 qs6 qs7 qs8 g3 g4 g5 g6 g1 g2) (Nat.le_trans lq (by decide)) (Nat.le_trans lr5 (by decide)) (Nat.le_trans lp (by decide))).mono ?_
  rintro e w19 ⟨ahQU, nhQU, chQU, ahQD, nhQD, chQD, rfl, hQU, hQD, hb⟩
  have g1 := g1.past hb
  have g2 := g2.past hb
  have g3 := g3.past hb
  have g4 := g4.past hb
  have g5 := g5.past hb
  have g6 := g6.past hb
  have hSU := hSU.past hb
  have hSD := hSD.past hb
  have hTU := hTU.past hb
  have hTD := hTD.past hb
  have hPU := hPU.past hb
  have hPD := hPD.past hb
  have qx0 := bq hb lx qx0; have qx1 := bq hb lx qx1; have qx2 := bq hb lx qx2
  have lx := bl hb lx
  have qy0 := bq hb ly qy0; have qy1 := bq hb ly qy1; have qy2 := bq hb ly qy2
  have ly := bl hb ly
  have qz0 := bq hb lz qz0; have qz1 := bq hb lz qz1; have qz2 := bq hb lz qz2
  have lz := bl hb lz
  have qhS0 := bq hb lhS qhS0; have qhS1 := bq hb lhS qhS1; have qhS2 := bq hb lhS qhS2
  have lhS := bl hb lhS
  have qhT0 := bq hb lhT qhT0; have qhT1 := bq hb lhT qhT1; have qhT2 := bq hb lhT qhT2
  have lhT := bl hb lhT
  have qhP0 := bq hb lhP qhP0; have qhP1 := bq hb lhP qhP1; have qhP2 := bq hb lhP qhP2
  have lhP := bl hb lhP
  have qs0 := bq hb ls qs0; have qs1 := bq hb ls qs1; have qs2 := bq hb ls qs2; have qs3 := bq hb ls qs3; have qs4 := bq hb ls qs4; have qs5 := bq hb ls qs5; have qs6 := bq hb ls qs6; have qs7 := bq hb ls qs7; have qs8 := bq hb ls qs8
  have ls := bl hb ls
  have hB := below_later hB hb
  clear hb
  rw [show q * r * p = p * q * r from rat_turn_mul p q r] at hQU hQD ⊢
  go_wp2_with fail
  obtain ⟨w20, hW, hz0, hb, q, f⟩ := box1g w19 (w19.heap.size) (by omega) #[.bool (neg (p * q * r).num), .slice ahQU nhQU chQU, .slice ahQD nhQD chQD] 31
  rw [hW]
  clear hW
  have g1 := g1.past hb
  have g2 := g2.past hb
  have g3 := g3.past hb
  have g4 := g4.past hb
  have g5 := g5.past hb
  have g6 := g6.past hb
  have hSU := hSU.past hb
  have hSD := hSD.past hb
  have hTU := hTU.past hb
  have hTD := hTD.past hb
  have hPU := hPU.past hb
  have hPD := hPD.past hb
  have hQU := hQU.past hb
  have hQD := hQD.past hb
  have qx0 := bq hb lx qx0; have qx1 := bq hb lx qx1; have qx2 := bq hb lx qx2
  have lx := bl hb lx
  have qy0 := bq hb ly qy0; have qy1 := bq hb ly qy1; have qy2 := bq hb ly qy2
  have ly := bl hb ly
  have qz0 := bq hb lz qz0; have qz1 := bq hb lz qz1; have qz2 := bq hb lz qz2
  have lz := bl hb lz
  have qhS0 := bq hb lhS qhS0; have qhS1 := bq hb lhS qhS1; have qhS2 := bq hb lhS qhS2
  have lhS := bl hb lhS
  have qhT0 := bq hb lhT qhT0; have qhT1 := bq hb lhT qhT1; have qhT2 := bq hb lhT qhT2
  have lhT := bl hb lhT
  have qhP0 := bq hb lhP qhP0; have qhP1 := bq hb lhP qhP1; have qhP2 := bq hb lhP qhP2
  have lhP := bl hb lhP
  have hB := below_later hB hb
  clear hb
  have lhQ : w19.heap.size < w20.heap.size := by omega
  have qhQ0 := q 0; have qhQ1 := q 1; have qhQ2 := q 2
  simp only [List.getElem?_toArray, List.getElem?_cons_zero, List.getElem?_cons_succ] at qhQ0 qhQ1 qhQ2
  clear q f
  obtain ⟨w21, hW, hz1, hb, q, f⟩ := box1g w20 (w19.heap.size + 1) (by omega) #[.bool (neg q.num), .slice a3 n3 c3, .slice a4 n4 c4, .bool (neg r.num), .slice a5 n5 c5, .slice a6 n6 c6] 31
  rw [hW]
  clear hW
  have g1 := g1.past hb
  have g2 := g2.past hb
  have g3 := g3.past hb
  have g4 := g4.past hb
  have g5 := g5.past hb
  have g6 := g6.past hb
  have hSU := hSU.past hb
  have hSD := hSD.past hb
  have hTU := hTU.past hb
  have hTD := hTD.past hb
  have hPU := hPU.past hb
  have hPD := hPD.past hb
  have hQU := hQU.past hb
  have hQD := hQD.past hb
  have qx0 := bq hb lx qx0; have qx1 := bq hb lx qx1; have qx2 := bq hb lx qx2
  have lx := bl hb lx
  have qy0 := bq hb ly qy0; have qy1 := bq hb ly qy1; have qy2 := bq hb ly qy2
  have ly := bl hb ly
  have qz0 := bq hb lz qz0; have qz1 := bq hb lz qz1; have qz2 := bq hb lz qz2
  have lz := bl hb lz
  have qhS0 := bq hb lhS qhS0; have qhS1 := bq hb lhS qhS1; have qhS2 := bq hb lhS qhS2
  have lhS := bl hb lhS
  have qhT0 := bq hb lhT qhT0; have qhT1 := bq hb lhT qhT1; have qhT2 := bq hb lhT qhT2
  have lhT := bl hb lhT
  have qhP0 := bq hb lhP qhP0; have qhP1 := bq hb lhP qhP1; have qhP2 := bq hb lhP qhP2
  have lhP := bl hb lhP
  have qhQ0 := bq hb lhQ qhQ0; have qhQ1 := bq hb lhQ qhQ1; have qhQ2 := bq hb lhQ qhQ2
  have lhQ := bl hb lhQ
  have hB := below_later hB hb
  clear hb
  have ls : w19.heap.size + 1 < w21.heap.size := by omega
  have qs0 := q 0; have qs1 := q 1; have qs2 := q 2; have qs3 := q 3; have qs4 := q 4; have qs5 := q 5
  simp only [List.getElem?_toArray, List.getElem?_cons_zero, List.getElem?_cons_succ] at qs0 qs1 qs2 qs3 qs4 qs5
  clear q f
  clear hz0
  clear hz1
  with_reducible refine (add_two (RatsAt.two ls qs0 qs1 qs2 qs3 qs4 qs5 g3 g4 g5 g6) (Nat.le_trans lq (by decide)) (Nat.le_trans lr5 (by decide))).mono ?_
  rintro e w22 ⟨ahBCU, nhBCU, chBCU, ahBCD, nhBCD, chBCD, rfl, hBCU, hBCD, hb⟩
  have g1 := g1.past hb
  have g2 := g2.past hb
  have g3 := g3.past hb
  have g4 := g4.past hb
  have g5 := g5.past hb
  have g6 := g6.past hb
  have hSU := hSU.past hb
  have hSD := hSD.past hb
  have hTU := hTU.past hb
  have hTD := hTD.past hb
  have hPU := hPU.past hb
  have hPD := hPD.past hb
  have hQU := hQU.past hb
  have hQD := hQD.past hb
  have qx0 := bq hb lx qx0; have qx1 := bq hb lx qx1; have qx2 := bq hb lx qx2
  have lx := bl hb lx
  have qy0 := bq hb ly qy0; have qy1 := bq hb ly qy1; have qy2 := bq hb ly qy2
  have ly := bl hb ly
  have qz0 := bq hb lz qz0; have qz1 := bq hb lz qz1; have qz2 := bq hb lz qz2
  have lz := bl hb lz
  have qhS0 := bq hb lhS qhS0; have qhS1 := bq hb lhS qhS1; have qhS2 := bq hb lhS qhS2
  have lhS := bl hb lhS
  have qhT0 := bq hb lhT qhT0; have qhT1 := bq hb lhT qhT1; have qhT2 := bq hb lhT qhT2
  have lhT := bl hb lhT
  have qhP0 := bq hb lhP qhP0; have qhP1 := bq hb lhP qhP1; have qhP2 := bq hb lhP qhP2
  have lhP := bl hb lhP
  have qhQ0 := bq hb lhQ qhQ0; have qhQ1 := bq hb lhQ qhQ1; have qhQ2 := bq hb lhQ qhQ2
  have lhQ := bl hb lhQ
  have qs0 := bq hb ls qs0; have qs1 := bq hb ls qs1; have qs2 := bq hb ls qs2; have qs3 := bq hb ls qs3; have qs4 := bq hb ls qs4; have qs5 := bq hb ls qs5
  have ls := bl hb ls
  have hB := below_later hB hb
  clear hb
  go_wp2_with fail
  obtain ⟨w23, hW, hz0, hb, q, f⟩ := box1g w22 (w22.heap.size) (by omega) #[.bool (neg (q + r).num), .slice ahBCU nhBCU chBCU, .slice ahBCD nhBCD chBCD] 31
  rw [hW]
  clear hW
  have g1 := g1.past hb
  have g2 := g2.past hb
  have g3 := g3.past hb
  have g4 := g4.past hb
  have g5 := g5.past hb
  have g6 := g6.past hb
  have hSU := hSU.past hb
  have hSD := hSD.past hb
  have hTU := hTU.past hb
  have hTD := hTD.past hb
  have hPU := hPU.past hb
  have hPD := hPD.past hb
  have hQU := hQU.past hb
  have hQD := hQD.past hb
  have hBCU := hBCU.past hb
  have hBCD := hBCD.past hb
  have qx0 := bq hb lx qx0; have qx1 := bq hb lx qx1; have qx2 := bq hb lx qx2
  have lx := bl hb lx
  have qy0 := bq hb ly qy0; have qy1 := bq hb ly qy1; have qy2 := bq hb ly qy2
  have ly := bl hb ly
  have qz0 := bq hb lz qz0; have qz1 := bq hb lz qz1; have qz2 := bq hb lz qz2
  have lz := bl hb lz
  have qhS0 := bq hb lhS qhS0; have qhS1 := bq hb lhS qhS1; have qhS2 := bq hb lhS qhS2
  have lhS := bl hb lhS
  have qhT0 := bq hb lhT qhT0; have qhT1 := bq hb lhT qhT1; have qhT2 := bq hb lhT qhT2
  have lhT := bl hb lhT
  have qhP0 := bq hb lhP qhP0; have qhP1 := bq hb lhP qhP1; have qhP2 := bq hb lhP qhP2
  have lhP := bl hb lhP
  have qhQ0 := bq hb lhQ qhQ0; have qhQ1 := bq hb lhQ qhQ1; have qhQ2 := bq hb lhQ qhQ2
  have lhQ := bl hb lhQ
  have hB := below_later hB hb
  clear hb
  have lhBC : w22.heap.size < w23.heap.size := by omega
  have qhBC0 := q 0; have qhBC1 := q 1; have qhBC2 := q 2
  simp only [List.getElem?_toArray, List.getElem?_cons_zero, List.getElem?_cons_succ] at qhBC0 qhBC1 qhBC2
  clear q f
  obtain ⟨w24, hW, hz1, hb, q, f⟩ := box1g w23 (w22.heap.size + 1) (by omega) #[.bool (neg p.num), .slice a1 n1 c1, .slice a2 n2 c2, .bool (neg ((q + r)).num), .slice ahBCU nhBCU chBCU, .slice ahBCD nhBCD chBCD] 31
  rw [hW]
  clear hW
  have g1 := g1.past hb
  have g2 := g2.past hb
  have g3 := g3.past hb
  have g4 := g4.past hb
  have g5 := g5.past hb
  have g6 := g6.past hb
  have hSU := hSU.past hb
  have hSD := hSD.past hb
  have hTU := hTU.past hb
  have hTD := hTD.past hb
  have hPU := hPU.past hb
  have hPD := hPD.past hb
  have hQU := hQU.past hb
  have hQD := hQD.past hb
  have hBCU := hBCU.past hb
  have hBCD := hBCD.past hb
  have qx0 := bq hb lx qx0; have qx1 := bq hb lx qx1; have qx2 := bq hb lx qx2
  have lx := bl hb lx
  have qy0 := bq hb ly qy0; have qy1 := bq hb ly qy1; have qy2 := bq hb ly qy2
  have ly := bl hb ly
  have qz0 := bq hb lz qz0; have qz1 := bq hb lz qz1; have qz2 := bq hb lz qz2
  have lz := bl hb lz
  have qhS0 := bq hb lhS qhS0; have qhS1 := bq hb lhS qhS1; have qhS2 := bq hb lhS qhS2
  have lhS := bl hb lhS
  have qhT0 := bq hb lhT qhT0; have qhT1 := bq hb lhT qhT1; have qhT2 := bq hb lhT qhT2
  have lhT := bl hb lhT
  have qhP0 := bq hb lhP qhP0; have qhP1 := bq hb lhP qhP1; have qhP2 := bq hb lhP qhP2
  have lhP := bl hb lhP
  have qhQ0 := bq hb lhQ qhQ0; have qhQ1 := bq hb lhQ qhQ1; have qhQ2 := bq hb lhQ qhQ2
  have lhQ := bl hb lhQ
  have qhBC0 := bq hb lhBC qhBC0; have qhBC1 := bq hb lhBC qhBC1; have qhBC2 := bq hb lhBC qhBC2
  have lhBC := bl hb lhBC
  have hB := below_later hB hb
  clear hb
  have ls : w22.heap.size + 1 < w24.heap.size := by omega
  have qs0 := q 0; have qs1 := q 1; have qs2 := q 2; have qs3 := q 3; have qs4 := q 4; have qs5 := q 5
  simp only [List.getElem?_toArray, List.getElem?_cons_zero, List.getElem?_cons_succ] at qs0 qs1 qs2 qs3 qs4 qs5
  clear q f
  clear hz0
  clear hz1
  with_reducible refine (mul_two (RatsAt.two ls qs0 qs1 qs2 qs3 qs4 qs5 g1 g2 hBCU.toNatAt hBCD.toNatAt) (Nat.le_trans lp (by decide)) (Nat.le_trans (rlen_add lq lr5) (by decide))).mono ?_
  rintro e w25 ⟨ahWU, nhWU, chWU, ahWD, nhWD, chWD, rfl, hWU, hWD, hb⟩
  have g1 := g1.past hb
  have g2 := g2.past hb
  have g3 := g3.past hb
  have g4 := g4.past hb
  have g5 := g5.past hb
  have g6 := g6.past hb
  have hSU := hSU.past hb
  have hSD := hSD.past hb
  have hTU := hTU.past hb
  have hTD := hTD.past hb
  have hPU := hPU.past hb
  have hPD := hPD.past hb
  have hQU := hQU.past hb
  have hQD := hQD.past hb
  have hBCU := hBCU.past hb
  have hBCD := hBCD.past hb
  have qx0 := bq hb lx qx0; have qx1 := bq hb lx qx1; have qx2 := bq hb lx qx2
  have lx := bl hb lx
  have qy0 := bq hb ly qy0; have qy1 := bq hb ly qy1; have qy2 := bq hb ly qy2
  have ly := bl hb ly
  have qz0 := bq hb lz qz0; have qz1 := bq hb lz qz1; have qz2 := bq hb lz qz2
  have lz := bl hb lz
  have qhS0 := bq hb lhS qhS0; have qhS1 := bq hb lhS qhS1; have qhS2 := bq hb lhS qhS2
  have lhS := bl hb lhS
  have qhT0 := bq hb lhT qhT0; have qhT1 := bq hb lhT qhT1; have qhT2 := bq hb lhT qhT2
  have lhT := bl hb lhT
  have qhP0 := bq hb lhP qhP0; have qhP1 := bq hb lhP qhP1; have qhP2 := bq hb lhP qhP2
  have lhP := bl hb lhP
  have qhQ0 := bq hb lhQ qhQ0; have qhQ1 := bq hb lhQ qhQ1; have qhQ2 := bq hb lhQ qhQ2
  have lhQ := bl hb lhQ
  have qhBC0 := bq hb lhBC qhBC0; have qhBC1 := bq hb lhBC qhBC1; have qhBC2 := bq hb lhBC qhBC2
  have lhBC := bl hb lhBC
  have qs0 := bq hb ls qs0; have qs1 := bq hb ls qs1; have qs2 := bq hb ls qs2; have qs3 := bq hb ls qs3; have qs4 := bq hb ls qs4; have qs5 := bq hb ls qs5
  have ls := bl hb ls
  have hB := below_later hB hb
  clear hb
  go_wp2_with fail
  obtain ⟨w26, hW, hz0, hb, q, f⟩ := box1g w25 (w25.heap.size) (by omega) #[.bool (neg (p * (q + r)).num), .slice ahWU nhWU chWU, .slice ahWD nhWD chWD] 31
  rw [hW]
  clear hW
  have g1 := g1.past hb
  have g2 := g2.past hb
  have g3 := g3.past hb
  have g4 := g4.past hb
  have g5 := g5.past hb
  have g6 := g6.past hb
  have hSU := hSU.past hb
  have hSD := hSD.past hb
  have hTU := hTU.past hb
  have hTD := hTD.past hb
  have hPU := hPU.past hb
  have hPD := hPD.past hb
  have hQU := hQU.past hb
  have hQD := hQD.past hb
  have hBCU := hBCU.past hb
  have hBCD := hBCD.past hb
  have hWU := hWU.past hb
  have hWD := hWD.past hb
  have qx0 := bq hb lx qx0; have qx1 := bq hb lx qx1; have qx2 := bq hb lx qx2
  have lx := bl hb lx
  have qy0 := bq hb ly qy0; have qy1 := bq hb ly qy1; have qy2 := bq hb ly qy2
  have ly := bl hb ly
  have qz0 := bq hb lz qz0; have qz1 := bq hb lz qz1; have qz2 := bq hb lz qz2
  have lz := bl hb lz
  have qhS0 := bq hb lhS qhS0; have qhS1 := bq hb lhS qhS1; have qhS2 := bq hb lhS qhS2
  have lhS := bl hb lhS
  have qhT0 := bq hb lhT qhT0; have qhT1 := bq hb lhT qhT1; have qhT2 := bq hb lhT qhT2
  have lhT := bl hb lhT
  have qhP0 := bq hb lhP qhP0; have qhP1 := bq hb lhP qhP1; have qhP2 := bq hb lhP qhP2
  have lhP := bl hb lhP
  have qhQ0 := bq hb lhQ qhQ0; have qhQ1 := bq hb lhQ qhQ1; have qhQ2 := bq hb lhQ qhQ2
  have lhQ := bl hb lhQ
  have qhBC0 := bq hb lhBC qhBC0; have qhBC1 := bq hb lhBC qhBC1; have qhBC2 := bq hb lhBC qhBC2
  have lhBC := bl hb lhBC
  have hB := below_later hB hb
  clear hb
  have lhW : w25.heap.size < w26.heap.size := by omega
  have qhW0 := q 0; have qhW1 := q 1; have qhW2 := q 2
  simp only [List.getElem?_toArray, List.getElem?_cons_zero, List.getElem?_cons_succ] at qhW0 qhW1 qhW2
  clear q f
  obtain ⟨w27, hW, hz1, hb, q, f⟩ := box1g w26 (w25.heap.size + 1) (by omega) #[.bool (neg p.num), .slice a1 n1 c1, .slice a2 n2 c2, .bool (neg q.num), .slice a3 n3 c3, .slice a4 n4 c4] 31
  rw [hW]
  clear hW
  have g1 := g1.past hb
  have g2 := g2.past hb
  have g3 := g3.past hb
  have g4 := g4.past hb
  have g5 := g5.past hb
  have g6 := g6.past hb
  have hSU := hSU.past hb
  have hSD := hSD.past hb
  have hTU := hTU.past hb
  have hTD := hTD.past hb
  have hPU := hPU.past hb
  have hPD := hPD.past hb
  have hQU := hQU.past hb
  have hQD := hQD.past hb
  have hBCU := hBCU.past hb
  have hBCD := hBCD.past hb
  have hWU := hWU.past hb
  have hWD := hWD.past hb
  have qx0 := bq hb lx qx0; have qx1 := bq hb lx qx1; have qx2 := bq hb lx qx2
  have lx := bl hb lx
  have qy0 := bq hb ly qy0; have qy1 := bq hb ly qy1; have qy2 := bq hb ly qy2
  have ly := bl hb ly
  have qz0 := bq hb lz qz0; have qz1 := bq hb lz qz1; have qz2 := bq hb lz qz2
  have lz := bl hb lz
  have qhS0 := bq hb lhS qhS0; have qhS1 := bq hb lhS qhS1; have qhS2 := bq hb lhS qhS2
  have lhS := bl hb lhS
  have qhT0 := bq hb lhT qhT0; have qhT1 := bq hb lhT qhT1; have qhT2 := bq hb lhT qhT2
  have lhT := bl hb lhT
  have qhP0 := bq hb lhP qhP0; have qhP1 := bq hb lhP qhP1; have qhP2 := bq hb lhP qhP2
  have lhP := bl hb lhP
  have qhQ0 := bq hb lhQ qhQ0; have qhQ1 := bq hb lhQ qhQ1; have qhQ2 := bq hb lhQ qhQ2
  have lhQ := bl hb lhQ
  have qhBC0 := bq hb lhBC qhBC0; have qhBC1 := bq hb lhBC qhBC1; have qhBC2 := bq hb lhBC qhBC2
  have lhBC := bl hb lhBC
  have qhW0 := bq hb lhW qhW0; have qhW1 := bq hb lhW qhW1; have qhW2 := bq hb lhW qhW2
  have lhW := bl hb lhW
  have hB := below_later hB hb
  clear hb
  have ls : w25.heap.size + 1 < w27.heap.size := by omega
  have qs0 := q 0; have qs1 := q 1; have qs2 := q 2; have qs3 := q 3; have qs4 := q 4; have qs5 := q 5
  simp only [List.getElem?_toArray, List.getElem?_cons_zero, List.getElem?_cons_succ] at qs0 qs1 qs2 qs3 qs4 qs5
  clear q f
  clear hz0
  clear hz1
  with_reducible refine (mul_two (RatsAt.two ls qs0 qs1 qs2 qs3 qs4 qs5 g1 g2 g3 g4) (Nat.le_trans lp (by decide)) (Nat.le_trans lq (by decide))).mono ?_
  rintro e w28 ⟨ahABU, nhABU, chABU, ahABD, nhABD, chABD, rfl, hABU, hABD, hb⟩
  have g1 := g1.past hb
  have g2 := g2.past hb
  have g3 := g3.past hb
  have g4 := g4.past hb
  have g5 := g5.past hb
  have g6 := g6.past hb
  have hSU := hSU.past hb
  have hSD := hSD.past hb
  have hTU := hTU.past hb
  have hTD := hTD.past hb
  have hPU := hPU.past hb
  have hPD := hPD.past hb
  have hQU := hQU.past hb
  have hQD := hQD.past hb
  have hBCU := hBCU.past hb
  have hBCD := hBCD.past hb
  have hWU := hWU.past hb
  have hWD := hWD.past hb
  have qx0 := bq hb lx qx0; have qx1 := bq hb lx qx1; have qx2 := bq hb lx qx2
  have lx := bl hb lx
  have qy0 := bq hb ly qy0; have qy1 := bq hb ly qy1; have qy2 := bq hb ly qy2
  have ly := bl hb ly
  have qz0 := bq hb lz qz0; have qz1 := bq hb lz qz1; have qz2 := bq hb lz qz2
  have lz := bl hb lz
  have qhS0 := bq hb lhS qhS0; have qhS1 := bq hb lhS qhS1; have qhS2 := bq hb lhS qhS2
  have lhS := bl hb lhS
  have qhT0 := bq hb lhT qhT0; have qhT1 := bq hb lhT qhT1; have qhT2 := bq hb lhT qhT2
  have lhT := bl hb lhT
  have qhP0 := bq hb lhP qhP0; have qhP1 := bq hb lhP qhP1; have qhP2 := bq hb lhP qhP2
  have lhP := bl hb lhP
  have qhQ0 := bq hb lhQ qhQ0; have qhQ1 := bq hb lhQ qhQ1; have qhQ2 := bq hb lhQ qhQ2
  have lhQ := bl hb lhQ
  have qhBC0 := bq hb lhBC qhBC0; have qhBC1 := bq hb lhBC qhBC1; have qhBC2 := bq hb lhBC qhBC2
  have lhBC := bl hb lhBC
  have qhW0 := bq hb lhW qhW0; have qhW1 := bq hb lhW qhW1; have qhW2 := bq hb lhW qhW2
  have lhW := bl hb lhW
  have qs0 := bq hb ls qs0; have qs1 := bq hb ls qs1; have qs2 := bq hb ls qs2; have qs3 := bq hb ls qs3; have qs4 := bq hb ls qs4; have qs5 := bq hb ls qs5
  have ls := bl hb ls
  have hB := below_later hB hb
  clear hb
  go_wp2_with fail
  obtain ⟨w29, hW, hz0, hb, q, f⟩ := box1g w28 (w28.heap.size) (by omega) #[.bool (neg (p * q).num), .slice ahABU nhABU chABU, .slice ahABD nhABD chABD] 31
  rw [hW]
  clear hW
  have g1 := g1.past hb
  have g2 := g2.past hb
  have g3 := g3.past hb
  have g4 := g4.past hb
  have g5 := g5.past hb
  have g6 := g6.past hb
  have hSU := hSU.past hb
  have hSD := hSD.past hb
  have hTU := hTU.past hb
  have hTD := hTD.past hb
  have hPU := hPU.past hb
  have hPD := hPD.past hb
  have hQU := hQU.past hb
  have hQD := hQD.past hb
  have hBCU := hBCU.past hb
  have hBCD := hBCD.past hb
  have hWU := hWU.past hb
  have hWD := hWD.past hb
  have hABU := hABU.past hb
  have hABD := hABD.past hb
  have qx0 := bq hb lx qx0; have qx1 := bq hb lx qx1; have qx2 := bq hb lx qx2
  have lx := bl hb lx
  have qy0 := bq hb ly qy0; have qy1 := bq hb ly qy1; have qy2 := bq hb ly qy2
  have ly := bl hb ly
  have qz0 := bq hb lz qz0; have qz1 := bq hb lz qz1; have qz2 := bq hb lz qz2
  have lz := bl hb lz
  have qhS0 := bq hb lhS qhS0; have qhS1 := bq hb lhS qhS1; have qhS2 := bq hb lhS qhS2
  have lhS := bl hb lhS
  have qhT0 := bq hb lhT qhT0; have qhT1 := bq hb lhT qhT1; have qhT2 := bq hb lhT qhT2
  have lhT := bl hb lhT
  have qhP0 := bq hb lhP qhP0; have qhP1 := bq hb lhP qhP1; have qhP2 := bq hb lhP qhP2
  have lhP := bl hb lhP
  have qhQ0 := bq hb lhQ qhQ0; have qhQ1 := bq hb lhQ qhQ1; have qhQ2 := bq hb lhQ qhQ2
  have lhQ := bl hb lhQ
  have qhBC0 := bq hb lhBC qhBC0; have qhBC1 := bq hb lhBC qhBC1; have qhBC2 := bq hb lhBC qhBC2
  have lhBC := bl hb lhBC
  have qhW0 := bq hb lhW qhW0; have qhW1 := bq hb lhW qhW1; have qhW2 := bq hb lhW qhW2
  have lhW := bl hb lhW
  have hB := below_later hB hb
  clear hb
  have lhAB : w28.heap.size < w29.heap.size := by omega
  have qhAB0 := q 0; have qhAB1 := q 1; have qhAB2 := q 2
  simp only [List.getElem?_toArray, List.getElem?_cons_zero, List.getElem?_cons_succ] at qhAB0 qhAB1 qhAB2
  clear q f
  obtain ⟨w30, hW, hz1, hb, q, f⟩ := box1g w29 (w28.heap.size + 1) (by omega) #[.bool (neg p.num), .slice a1 n1 c1, .slice a2 n2 c2, .bool (neg r.num), .slice a5 n5 c5, .slice a6 n6 c6] 31
  rw [hW]
  clear hW
  have g1 := g1.past hb
  have g2 := g2.past hb
  have g3 := g3.past hb
  have g4 := g4.past hb
  have g5 := g5.past hb
  have g6 := g6.past hb
  have hSU := hSU.past hb
  have hSD := hSD.past hb
  have hTU := hTU.past hb
  have hTD := hTD.past hb
  have hPU := hPU.past hb
  have hPD := hPD.past hb
  have hQU := hQU.past hb
  have hQD := hQD.past hb
  have hBCU := hBCU.past hb
  have hBCD := hBCD.past hb
  have hWU := hWU.past hb
  have hWD := hWD.past hb
  have hABU := hABU.past hb
  have hABD := hABD.past hb
  have qx0 := bq hb lx qx0; have qx1 := bq hb lx qx1; have qx2 := bq hb lx qx2
  have lx := bl hb lx
  have qy0 := bq hb ly qy0; have qy1 := bq hb ly qy1; have qy2 := bq hb ly qy2
  have ly := bl hb ly
  have qz0 := bq hb lz qz0; have qz1 := bq hb lz qz1; have qz2 := bq hb lz qz2
  have lz := bl hb lz
  have qhS0 := bq hb lhS qhS0; have qhS1 := bq hb lhS qhS1; have qhS2 := bq hb lhS qhS2
  have lhS := bl hb lhS
  have qhT0 := bq hb lhT qhT0; have qhT1 := bq hb lhT qhT1; have qhT2 := bq hb lhT qhT2
  have lhT := bl hb lhT
  have qhP0 := bq hb lhP qhP0; have qhP1 := bq hb lhP qhP1; have qhP2 := bq hb lhP qhP2
  have lhP := bl hb lhP
  have qhQ0 := bq hb lhQ qhQ0; have qhQ1 := bq hb lhQ qhQ1; have qhQ2 := bq hb lhQ qhQ2
  have lhQ := bl hb lhQ
  have qhBC0 := bq hb lhBC qhBC0; have qhBC1 := bq hb lhBC qhBC1; have qhBC2 := bq hb lhBC qhBC2
  have lhBC := bl hb lhBC
  have qhW0 := bq hb lhW qhW0; have qhW1 := bq hb lhW qhW1; have qhW2 := bq hb lhW qhW2
  have lhW := bl hb lhW
  have qhAB0 := bq hb lhAB qhAB0; have qhAB1 := bq hb lhAB qhAB1; have qhAB2 := bq hb lhAB qhAB2
  have lhAB := bl hb lhAB
  have hB := below_later hB hb
  clear hb
  have ls : w28.heap.size + 1 < w30.heap.size := by omega
  have qs0 := q 0; have qs1 := q 1; have qs2 := q 2; have qs3 := q 3; have qs4 := q 4; have qs5 := q 5
  simp only [List.getElem?_toArray, List.getElem?_cons_zero, List.getElem?_cons_succ] at qs0 qs1 qs2 qs3 qs4 qs5
  clear q f
  clear hz0
  clear hz1
  with_reducible refine (mul_two (RatsAt.two ls qs0 qs1 qs2 qs3 qs4 qs5 g1 g2 g5 g6) (Nat.le_trans lp (by decide)) (Nat.le_trans lr5 (by decide))).mono ?_
  rintro e w31 ⟨ahACU, nhACU, chACU, ahACD, nhACD, chACD, rfl, hACU, hACD, hb⟩
  have g1 := g1.past hb
  have g2 := g2.past hb
  have g3 := g3.past hb
  have g4 := g4.past hb
  have g5 := g5.past hb
  have g6 := g6.past hb
  have hSU := hSU.past hb
  have hSD := hSD.past hb
  have hTU := hTU.past hb
  have hTD := hTD.past hb
  have hPU := hPU.past hb
  have hPD := hPD.past hb
  have hQU := hQU.past hb
  have hQD := hQD.past hb
  have hBCU := hBCU.past hb
  have hBCD := hBCD.past hb
  have hWU := hWU.past hb
  have hWD := hWD.past hb
  have hABU := hABU.past hb
  have hABD := hABD.past hb
  have qx0 := bq hb lx qx0; have qx1 := bq hb lx qx1; have qx2 := bq hb lx qx2
  have lx := bl hb lx
  have qy0 := bq hb ly qy0; have qy1 := bq hb ly qy1; have qy2 := bq hb ly qy2
  have ly := bl hb ly
  have qz0 := bq hb lz qz0; have qz1 := bq hb lz qz1; have qz2 := bq hb lz qz2
  have lz := bl hb lz
  have qhS0 := bq hb lhS qhS0; have qhS1 := bq hb lhS qhS1; have qhS2 := bq hb lhS qhS2
  have lhS := bl hb lhS
  have qhT0 := bq hb lhT qhT0; have qhT1 := bq hb lhT qhT1; have qhT2 := bq hb lhT qhT2
  have lhT := bl hb lhT
  have qhP0 := bq hb lhP qhP0; have qhP1 := bq hb lhP qhP1; have qhP2 := bq hb lhP qhP2
  have lhP := bl hb lhP
  have qhQ0 := bq hb lhQ qhQ0; have qhQ1 := bq hb lhQ qhQ1; have qhQ2 := bq hb lhQ qhQ2
  have lhQ := bl hb lhQ
  have qhBC0 := bq hb lhBC qhBC0; have qhBC1 := bq hb lhBC qhBC1; have qhBC2 := bq hb lhBC qhBC2
  have lhBC := bl hb lhBC
  have qhW0 := bq hb lhW qhW0; have qhW1 := bq hb lhW qhW1; have qhW2 := bq hb lhW qhW2
  have lhW := bl hb lhW
  have qhAB0 := bq hb lhAB qhAB0; have qhAB1 := bq hb lhAB qhAB1; have qhAB2 := bq hb lhAB qhAB2
  have lhAB := bl hb lhAB
  have qs0 := bq hb ls qs0; have qs1 := bq hb ls qs1; have qs2 := bq hb ls qs2; have qs3 := bq hb ls qs3; have qs4 := bq hb ls qs4; have qs5 := bq hb ls qs5
  have ls := bl hb ls
  have hB := below_later hB hb
  clear hb
  go_wp2_with fail
  obtain ⟨w32, hW, hz0, hb, q, f⟩ := box1g w31 (w31.heap.size) (by omega) #[.bool (neg (p * r).num), .slice ahACU nhACU chACU, .slice ahACD nhACD chACD] 31
  rw [hW]
  clear hW
  have g1 := g1.past hb
  have g2 := g2.past hb
  have g3 := g3.past hb
  have g4 := g4.past hb
  have g5 := g5.past hb
  have g6 := g6.past hb
  have hSU := hSU.past hb
  have hSD := hSD.past hb
  have hTU := hTU.past hb
  have hTD := hTD.past hb
  have hPU := hPU.past hb
  have hPD := hPD.past hb
  have hQU := hQU.past hb
  have hQD := hQD.past hb
  have hBCU := hBCU.past hb
  have hBCD := hBCD.past hb
  have hWU := hWU.past hb
  have hWD := hWD.past hb
  have hABU := hABU.past hb
  have hABD := hABD.past hb
  have hACU := hACU.past hb
  have hACD := hACD.past hb
  have qx0 := bq hb lx qx0; have qx1 := bq hb lx qx1; have qx2 := bq hb lx qx2
  have lx := bl hb lx
  have qy0 := bq hb ly qy0; have qy1 := bq hb ly qy1; have qy2 := bq hb ly qy2
  have ly := bl hb ly
  have qz0 := bq hb lz qz0; have qz1 := bq hb lz qz1; have qz2 := bq hb lz qz2
  have lz := bl hb lz
  have qhS0 := bq hb lhS qhS0; have qhS1 := bq hb lhS qhS1; have qhS2 := bq hb lhS qhS2
  have lhS := bl hb lhS
  have qhT0 := bq hb lhT qhT0; have qhT1 := bq hb lhT qhT1; have qhT2 := bq hb lhT qhT2
  have lhT := bl hb lhT
  have qhP0 := bq hb lhP qhP0; have qhP1 := bq hb lhP qhP1; have qhP2 := bq hb lhP qhP2
  have lhP := bl hb lhP
  have qhQ0 := bq hb lhQ qhQ0; have qhQ1 := bq hb lhQ qhQ1; have qhQ2 := bq hb lhQ qhQ2
  have lhQ := bl hb lhQ
  have qhBC0 := bq hb lhBC qhBC0; have qhBC1 := bq hb lhBC qhBC1; have qhBC2 := bq hb lhBC qhBC2
  have lhBC := bl hb lhBC
  have qhW0 := bq hb lhW qhW0; have qhW1 := bq hb lhW qhW1; have qhW2 := bq hb lhW qhW2
  have lhW := bl hb lhW
  have qhAB0 := bq hb lhAB qhAB0; have qhAB1 := bq hb lhAB qhAB1; have qhAB2 := bq hb lhAB qhAB2
  have lhAB := bl hb lhAB
  have hB := below_later hB hb
  clear hb
  have lhAC : w31.heap.size < w32.heap.size := by omega
  have qhAC0 := q 0; have qhAC1 := q 1; have qhAC2 := q 2
  simp only [List.getElem?_toArray, List.getElem?_cons_zero, List.getElem?_cons_succ] at qhAC0 qhAC1 qhAC2
  clear q f
  obtain ⟨w33, hW, hz1, hb, q, f⟩ := box1g w32 (w31.heap.size + 1) (by omega) #[.bool (neg ((p * q)).num), .slice ahABU nhABU chABU, .slice ahABD nhABD chABD, .bool (neg ((p * r)).num), .slice ahACU nhACU chACU, .slice ahACD nhACD chACD] 31
  rw [hW]
  clear hW
  have g1 := g1.past hb
  have g2 := g2.past hb
  have g3 := g3.past hb
  have g4 := g4.past hb
  have g5 := g5.past hb
  have g6 := g6.past hb
  have hSU := hSU.past hb
  have hSD := hSD.past hb
  have hTU := hTU.past hb
  have hTD := hTD.past hb
  have hPU := hPU.past hb
  have hPD := hPD.past hb
  have hQU := hQU.past hb
  have hQD := hQD.past hb
  have hBCU := hBCU.past hb
  have hBCD := hBCD.past hb
  have hWU := hWU.past hb
  have hWD := hWD.past hb
  have hABU := hABU.past hb
  have hABD := hABD.past hb
  have hACU := hACU.past hb
  have hACD := hACD.past hb
  have qx0 := bq hb lx qx0; have qx1 := bq hb lx qx1; have qx2 := bq hb lx qx2
  have lx := bl hb lx
  have qy0 := bq hb ly qy0; have qy1 := bq hb ly qy1; have qy2 := bq hb ly qy2
  have ly := bl hb ly
  have qz0 := bq hb lz qz0; have qz1 := bq hb lz qz1; have qz2 := bq hb lz qz2
  have lz := bl hb lz
  have qhS0 := bq hb lhS qhS0; have qhS1 := bq hb lhS qhS1; have qhS2 := bq hb lhS qhS2
  have lhS := bl hb lhS
  have qhT0 := bq hb lhT qhT0; have qhT1 := bq hb lhT qhT1; have qhT2 := bq hb lhT qhT2
  have lhT := bl hb lhT
  have qhP0 := bq hb lhP qhP0; have qhP1 := bq hb lhP qhP1; have qhP2 := bq hb lhP qhP2
  have lhP := bl hb lhP
  have qhQ0 := bq hb lhQ qhQ0; have qhQ1 := bq hb lhQ qhQ1; have qhQ2 := bq hb lhQ qhQ2
  have lhQ := bl hb lhQ
  have qhBC0 := bq hb lhBC qhBC0; have qhBC1 := bq hb lhBC qhBC1; have qhBC2 := bq hb lhBC qhBC2
  have lhBC := bl hb lhBC
  have qhW0 := bq hb lhW qhW0; have qhW1 := bq hb lhW qhW1; have qhW2 := bq hb lhW qhW2
  have lhW := bl hb lhW
  have qhAB0 := bq hb lhAB qhAB0; have qhAB1 := bq hb lhAB qhAB1; have qhAB2 := bq hb lhAB qhAB2
  have lhAB := bl hb lhAB
  have qhAC0 := bq hb lhAC qhAC0; have qhAC1 := bq hb lhAC qhAC1; have qhAC2 := bq hb lhAC qhAC2
  have lhAC := bl hb lhAC
  have hB := below_later hB hb
  clear hb
  have ls : w31.heap.size + 1 < w33.heap.size := by omega
  have qs0 := q 0; have qs1 := q 1; have qs2 := q 2; have qs3 := q 3; have qs4 := q 4; have qs5 := q 5
  simp only [List.getElem?_toArray, List.getElem?_cons_zero, List.getElem?_cons_succ] at qs0 qs1 qs2 qs3 qs4 qs5
  clear q f
  clear hz0
  clear hz1
  with_reducible refine (add_two (RatsAt.two ls qs0 qs1 qs2 qs3 qs4 qs5 hABU.toNatAt hABD.toNatAt hACU.toNatAt hACD.toNatAt) (Nat.le_trans (rlen_mul lp lq) (by decide)) (Nat.le_trans (rlen_mul lp lr5) (by decide))).mono ?_
  rintro e w34 ⟨ahVU, nhVU, chVU, ahVD, nhVD, chVD, rfl, hVU, hVD, hb⟩
  have g1 := g1.past hb
  have g2 := g2.past hb
  have g3 := g3.past hb
  have g4 := g4.past hb
  have g5 := g5.past hb
  have g6 := g6.past hb
  have hSU := hSU.past hb
  have hSD := hSD.past hb
  have hTU := hTU.past hb
  have hTD := hTD.past hb
  have hPU := hPU.past hb
  have hPD := hPD.past hb
  have hQU := hQU.past hb
  have hQD := hQD.past hb
  have hBCU := hBCU.past hb
  have hBCD := hBCD.past hb
  have hWU := hWU.past hb
  have hWD := hWD.past hb
  have hABU := hABU.past hb
  have hABD := hABD.past hb
  have hACU := hACU.past hb
  have hACD := hACD.past hb
  have qx0 := bq hb lx qx0; have qx1 := bq hb lx qx1; have qx2 := bq hb lx qx2
  have lx := bl hb lx
  have qy0 := bq hb ly qy0; have qy1 := bq hb ly qy1; have qy2 := bq hb ly qy2
  have ly := bl hb ly
  have qz0 := bq hb lz qz0; have qz1 := bq hb lz qz1; have qz2 := bq hb lz qz2
  have lz := bl hb lz
  have qhS0 := bq hb lhS qhS0; have qhS1 := bq hb lhS qhS1; have qhS2 := bq hb lhS qhS2
  have lhS := bl hb lhS
  have qhT0 := bq hb lhT qhT0; have qhT1 := bq hb lhT qhT1; have qhT2 := bq hb lhT qhT2
  have lhT := bl hb lhT
  have qhP0 := bq hb lhP qhP0; have qhP1 := bq hb lhP qhP1; have qhP2 := bq hb lhP qhP2
  have lhP := bl hb lhP
  have qhQ0 := bq hb lhQ qhQ0; have qhQ1 := bq hb lhQ qhQ1; have qhQ2 := bq hb lhQ qhQ2
  have lhQ := bl hb lhQ
  have qhBC0 := bq hb lhBC qhBC0; have qhBC1 := bq hb lhBC qhBC1; have qhBC2 := bq hb lhBC qhBC2
  have lhBC := bl hb lhBC
  have qhW0 := bq hb lhW qhW0; have qhW1 := bq hb lhW qhW1; have qhW2 := bq hb lhW qhW2
  have lhW := bl hb lhW
  have qhAB0 := bq hb lhAB qhAB0; have qhAB1 := bq hb lhAB qhAB1; have qhAB2 := bq hb lhAB qhAB2
  have lhAB := bl hb lhAB
  have qhAC0 := bq hb lhAC qhAC0; have qhAC1 := bq hb lhAC qhAC1; have qhAC2 := bq hb lhAC qhAC2
  have lhAC := bl hb lhAC
  have qs0 := bq hb ls qs0; have qs1 := bq hb ls qs1; have qs2 := bq hb ls qs2; have qs3 := bq hb ls qs3; have qs4 := bq hb ls qs4; have qs5 := bq hb ls qs5
  have ls := bl hb ls
  have hB := below_later hB hb
  clear hb
  rw [show p * q + p * r = p * (q + r) from (Rat.mul_add p q r).symm] at hVU hVD ⊢
  go_wp2_with fail
  obtain ⟨w35, hW, hz0, hb, q, f⟩ := box1g w34 (w34.heap.size) (by omega) #[.bool (neg (p * (q + r)).num), .slice ahVU nhVU chVU, .slice ahVD nhVD chVD] 31
  rw [hW]
  clear hW
  have g1 := g1.past hb
  have g2 := g2.past hb
  have g3 := g3.past hb
  have g4 := g4.past hb
  have g5 := g5.past hb
  have g6 := g6.past hb
  have hSU := hSU.past hb
  have hSD := hSD.past hb
  have hTU := hTU.past hb
  have hTD := hTD.past hb
  have hPU := hPU.past hb
  have hPD := hPD.past hb
  have hQU := hQU.past hb
  have hQD := hQD.past hb
  have hBCU := hBCU.past hb
  have hBCD := hBCD.past hb
  have hWU := hWU.past hb
  have hWD := hWD.past hb
  have hABU := hABU.past hb
  have hABD := hABD.past hb
  have hACU := hACU.past hb
  have hACD := hACD.past hb
  have hVU := hVU.past hb
  have hVD := hVD.past hb
  have qx0 := bq hb lx qx0; have qx1 := bq hb lx qx1; have qx2 := bq hb lx qx2
  have lx := bl hb lx
  have qy0 := bq hb ly qy0; have qy1 := bq hb ly qy1; have qy2 := bq hb ly qy2
  have ly := bl hb ly
  have qz0 := bq hb lz qz0; have qz1 := bq hb lz qz1; have qz2 := bq hb lz qz2
  have lz := bl hb lz
  have qhS0 := bq hb lhS qhS0; have qhS1 := bq hb lhS qhS1; have qhS2 := bq hb lhS qhS2
  have lhS := bl hb lhS
  have qhT0 := bq hb lhT qhT0; have qhT1 := bq hb lhT qhT1; have qhT2 := bq hb lhT qhT2
  have lhT := bl hb lhT
  have qhP0 := bq hb lhP qhP0; have qhP1 := bq hb lhP qhP1; have qhP2 := bq hb lhP qhP2
  have lhP := bl hb lhP
  have qhQ0 := bq hb lhQ qhQ0; have qhQ1 := bq hb lhQ qhQ1; have qhQ2 := bq hb lhQ qhQ2
  have lhQ := bl hb lhQ
  have qhBC0 := bq hb lhBC qhBC0; have qhBC1 := bq hb lhBC qhBC1; have qhBC2 := bq hb lhBC qhBC2
  have lhBC := bl hb lhBC
  have qhW0 := bq hb lhW qhW0; have qhW1 := bq hb lhW qhW1; have qhW2 := bq hb lhW qhW2
  have lhW := bl hb lhW
  have qhAB0 := bq hb lhAB qhAB0; have qhAB1 := bq hb lhAB qhAB1; have qhAB2 := bq hb lhAB qhAB2
  have lhAB := bl hb lhAB
  have qhAC0 := bq hb lhAC qhAC0; have qhAC1 := bq hb lhAC qhAC1; have qhAC2 := bq hb lhAC qhAC2
  have lhAC := bl hb lhAC
  have hB := below_later hB hb
  clear hb
  have lhV : w34.heap.size < w35.heap.size := by omega
  have qhV0 := q 0; have qhV1 := q 1; have qhV2 := q 2
  simp only [List.getElem?_toArray, List.getElem?_cons_zero, List.getElem?_cons_succ] at qhV0 qhV1 qhV2
  clear q f
  clear hz0
  with_reducible refine (same05_yes hSU.toNatAt hSD.toNatAt hTU.toNatAt hTD.toNatAt (Nat.le_trans (rlen_add (rlen_add lp lq) lr5) (by decide))).mono ?_
  rintro e w36 ⟨rfl, hb⟩
  have g1 := g1.past hb
  have g2 := g2.past hb
  have g3 := g3.past hb
  have g4 := g4.past hb
  have g5 := g5.past hb
  have g6 := g6.past hb
  have hSU := hSU.past hb
  have hSD := hSD.past hb
  have hTU := hTU.past hb
  have hTD := hTD.past hb
  have hPU := hPU.past hb
  have hPD := hPD.past hb
  have hQU := hQU.past hb
  have hQD := hQD.past hb
  have hBCU := hBCU.past hb
  have hBCD := hBCD.past hb
  have hWU := hWU.past hb
  have hWD := hWD.past hb
  have hABU := hABU.past hb
  have hABD := hABD.past hb
  have hACU := hACU.past hb
  have hACD := hACD.past hb
  have hVU := hVU.past hb
  have hVD := hVD.past hb
  have qx0 := bq hb lx qx0; have qx1 := bq hb lx qx1; have qx2 := bq hb lx qx2
  have lx := bl hb lx
  have qy0 := bq hb ly qy0; have qy1 := bq hb ly qy1; have qy2 := bq hb ly qy2
  have ly := bl hb ly
  have qz0 := bq hb lz qz0; have qz1 := bq hb lz qz1; have qz2 := bq hb lz qz2
  have lz := bl hb lz
  have qhS0 := bq hb lhS qhS0; have qhS1 := bq hb lhS qhS1; have qhS2 := bq hb lhS qhS2
  have lhS := bl hb lhS
  have qhT0 := bq hb lhT qhT0; have qhT1 := bq hb lhT qhT1; have qhT2 := bq hb lhT qhT2
  have lhT := bl hb lhT
  have qhP0 := bq hb lhP qhP0; have qhP1 := bq hb lhP qhP1; have qhP2 := bq hb lhP qhP2
  have lhP := bl hb lhP
  have qhQ0 := bq hb lhQ qhQ0; have qhQ1 := bq hb lhQ qhQ1; have qhQ2 := bq hb lhQ qhQ2
  have lhQ := bl hb lhQ
  have qhBC0 := bq hb lhBC qhBC0; have qhBC1 := bq hb lhBC qhBC1; have qhBC2 := bq hb lhBC qhBC2
  have lhBC := bl hb lhBC
  have qhW0 := bq hb lhW qhW0; have qhW1 := bq hb lhW qhW1; have qhW2 := bq hb lhW qhW2
  have lhW := bl hb lhW
  have qhAB0 := bq hb lhAB qhAB0; have qhAB1 := bq hb lhAB qhAB1; have qhAB2 := bq hb lhAB qhAB2
  have lhAB := bl hb lhAB
  have qhAC0 := bq hb lhAC qhAC0; have qhAC1 := bq hb lhAC qhAC1; have qhAC2 := bq hb lhAC qhAC2
  have lhAC := bl hb lhAC
  have qhV0 := bq hb lhV qhV0; have qhV1 := bq hb lhV qhV1; have qhV2 := bq hb lhV qhV2
  have lhV := bl hb lhV
  have hB := below_later hB hb
  clear hb
  go_wp2_with fail
  with_reducible refine (same05_yes hPU.toNatAt hPD.toNatAt hQU.toNatAt hQD.toNatAt (Nat.le_trans (rlen_mul (rlen_mul lp lq) lr5) (by decide))).mono ?_
  rintro e w37 ⟨rfl, hb⟩
  have g1 := g1.past hb
  have g2 := g2.past hb
  have g3 := g3.past hb
  have g4 := g4.past hb
  have g5 := g5.past hb
  have g6 := g6.past hb
  have hPU := hPU.past hb
  have hPD := hPD.past hb
  have hQU := hQU.past hb
  have hQD := hQD.past hb
  have hBCU := hBCU.past hb
  have hBCD := hBCD.past hb
  have hWU := hWU.past hb
  have hWD := hWD.past hb
  have hABU := hABU.past hb
  have hABD := hABD.past hb
  have hACU := hACU.past hb
  have hACD := hACD.past hb
  have hVU := hVU.past hb
  have hVD := hVD.past hb
  have qx0 := bq hb lx qx0; have qx1 := bq hb lx qx1; have qx2 := bq hb lx qx2
  have lx := bl hb lx
  have qy0 := bq hb ly qy0; have qy1 := bq hb ly qy1; have qy2 := bq hb ly qy2
  have ly := bl hb ly
  have qz0 := bq hb lz qz0; have qz1 := bq hb lz qz1; have qz2 := bq hb lz qz2
  have lz := bl hb lz
  have qhP0 := bq hb lhP qhP0; have qhP1 := bq hb lhP qhP1; have qhP2 := bq hb lhP qhP2
  have lhP := bl hb lhP
  have qhQ0 := bq hb lhQ qhQ0; have qhQ1 := bq hb lhQ qhQ1; have qhQ2 := bq hb lhQ qhQ2
  have lhQ := bl hb lhQ
  have qhBC0 := bq hb lhBC qhBC0; have qhBC1 := bq hb lhBC qhBC1; have qhBC2 := bq hb lhBC qhBC2
  have lhBC := bl hb lhBC
  have qhW0 := bq hb lhW qhW0; have qhW1 := bq hb lhW qhW1; have qhW2 := bq hb lhW qhW2
  have lhW := bl hb lhW
  have qhAB0 := bq hb lhAB qhAB0; have qhAB1 := bq hb lhAB qhAB1; have qhAB2 := bq hb lhAB qhAB2
  have lhAB := bl hb lhAB
  have qhAC0 := bq hb lhAC qhAC0; have qhAC1 := bq hb lhAC qhAC1; have qhAC2 := bq hb lhAC qhAC2
  have lhAC := bl hb lhAC
  have qhV0 := bq hb lhV qhV0; have qhV1 := bq hb lhV qhV1; have qhV2 := bq hb lhV qhV2
  have lhV := bl hb lhV
  have hB := below_later hB hb
  clear hb
  go_wp2_with fail
  with_reducible refine (same05_yes hWU.toNatAt hWD.toNatAt hVU.toNatAt hVD.toNatAt (Nat.le_trans (rlen_mul lp (rlen_add lq lr5)) (by decide))).mono ?_
  rintro e w38 ⟨rfl, hb⟩
  have g1 := g1.past hb
  have g2 := g2.past hb
  have g3 := g3.past hb
  have g4 := g4.past hb
  have g5 := g5.past hb
  have g6 := g6.past hb
  have hBCU := hBCU.past hb
  have hBCD := hBCD.past hb
  have hWU := hWU.past hb
  have hWD := hWD.past hb
  have hABU := hABU.past hb
  have hABD := hABD.past hb
  have hACU := hACU.past hb
  have hACD := hACD.past hb
  have hVU := hVU.past hb
  have hVD := hVD.past hb
  have qx0 := bq hb lx qx0; have qx1 := bq hb lx qx1; have qx2 := bq hb lx qx2
  have lx := bl hb lx
  have qy0 := bq hb ly qy0; have qy1 := bq hb ly qy1; have qy2 := bq hb ly qy2
  have ly := bl hb ly
  have qz0 := bq hb lz qz0; have qz1 := bq hb lz qz1; have qz2 := bq hb lz qz2
  have lz := bl hb lz
  have qhBC0 := bq hb lhBC qhBC0; have qhBC1 := bq hb lhBC qhBC1; have qhBC2 := bq hb lhBC qhBC2
  have lhBC := bl hb lhBC
  have qhW0 := bq hb lhW qhW0; have qhW1 := bq hb lhW qhW1; have qhW2 := bq hb lhW qhW2
  have lhW := bl hb lhW
  have qhAB0 := bq hb lhAB qhAB0; have qhAB1 := bq hb lhAB qhAB1; have qhAB2 := bq hb lhAB qhAB2
  have lhAB := bl hb lhAB
  have qhAC0 := bq hb lhAC qhAC0; have qhAC1 := bq hb lhAC qhAC1; have qhAC2 := bq hb lhAC qhAC2
  have lhAC := bl hb lhAC
  have qhV0 := bq hb lhV qhV0; have qhV1 := bq hb lhV qhV1; have qhV2 := bq hb lhV qhV2
  have lhV := bl hb lhV
  have hB := below_later hB hb
  clear hb
  go_wp2_with fail
  with_reducible refine (sub_rat hBCU.toNatAt hBCD.toNatAt g5 g6 (Nat.le_trans (rlen_add lq lr5) (by decide)) (Nat.le_trans lr5 (by decide))).mono ?_
  rintro e w39 ⟨ahXU, nhXU, chXU, ahXD, nhXD, chXD, rfl, hXU, hXD, hb⟩
  have g1 := g1.past hb
  have g2 := g2.past hb
  have g3 := g3.past hb
  have g4 := g4.past hb
  have g5 := g5.past hb
  have g6 := g6.past hb
  have hBCU := hBCU.past hb
  have hBCD := hBCD.past hb
  have hABU := hABU.past hb
  have hABD := hABD.past hb
  have qx0 := bq hb lx qx0; have qx1 := bq hb lx qx1; have qx2 := bq hb lx qx2
  have lx := bl hb lx
  have qy0 := bq hb ly qy0; have qy1 := bq hb ly qy1; have qy2 := bq hb ly qy2
  have ly := bl hb ly
  have qz0 := bq hb lz qz0; have qz1 := bq hb lz qz1; have qz2 := bq hb lz qz2
  have lz := bl hb lz
  have qhBC0 := bq hb lhBC qhBC0; have qhBC1 := bq hb lhBC qhBC1; have qhBC2 := bq hb lhBC qhBC2
  have lhBC := bl hb lhBC
  have qhAB0 := bq hb lhAB qhAB0; have qhAB1 := bq hb lhAB qhAB1; have qhAB2 := bq hb lhAB qhAB2
  have lhAB := bl hb lhAB
  have hB := below_later hB hb
  clear hb
  rw [show q + r - r = q from Rat.add_sub_cancel] at hXU hXD ⊢
  go_wp2_with fail
  obtain ⟨w40, hW, hz0, hb, q, f⟩ := box1g w39 (w39.heap.size) (by omega) #[.bool (neg (q).num), .slice ahXU nhXU chXU, .slice ahXD nhXD chXD] 31
  rw [hW]
  clear hW
  have g1 := g1.past hb
  have g2 := g2.past hb
  have g3 := g3.past hb
  have g4 := g4.past hb
  have g5 := g5.past hb
  have g6 := g6.past hb
  have hBCU := hBCU.past hb
  have hBCD := hBCD.past hb
  have hABU := hABU.past hb
  have hABD := hABD.past hb
  have hXU := hXU.past hb
  have hXD := hXD.past hb
  have qx0 := bq hb lx qx0; have qx1 := bq hb lx qx1; have qx2 := bq hb lx qx2
  have lx := bl hb lx
  have qy0 := bq hb ly qy0; have qy1 := bq hb ly qy1; have qy2 := bq hb ly qy2
  have ly := bl hb ly
  have qz0 := bq hb lz qz0; have qz1 := bq hb lz qz1; have qz2 := bq hb lz qz2
  have lz := bl hb lz
  have qhBC0 := bq hb lhBC qhBC0; have qhBC1 := bq hb lhBC qhBC1; have qhBC2 := bq hb lhBC qhBC2
  have lhBC := bl hb lhBC
  have qhAB0 := bq hb lhAB qhAB0; have qhAB1 := bq hb lhAB qhAB1; have qhAB2 := bq hb lhAB qhAB2
  have lhAB := bl hb lhAB
  have hB := below_later hB hb
  clear hb
  have lhX : w39.heap.size < w40.heap.size := by omega
  have qhX0 := q 0; have qhX1 := q 1; have qhX2 := q 2
  simp only [List.getElem?_toArray, List.getElem?_cons_zero, List.getElem?_cons_succ] at qhX0 qhX1 qhX2
  clear q f
  clear hz0
  with_reducible refine (same05_yes hXU.toNatAt hXD.toNatAt g3 g4 (Nat.le_trans lq (by decide))).mono ?_
  rintro e w41 ⟨rfl, hb⟩
  have g1 := g1.past hb
  have g2 := g2.past hb
  have g3 := g3.past hb
  have g4 := g4.past hb
  have g5 := g5.past hb
  have g6 := g6.past hb
  have hBCU := hBCU.past hb
  have hBCD := hBCD.past hb
  have hABU := hABU.past hb
  have hABD := hABD.past hb
  have hXU := hXU.past hb
  have hXD := hXD.past hb
  have qx0 := bq hb lx qx0; have qx1 := bq hb lx qx1; have qx2 := bq hb lx qx2
  have lx := bl hb lx
  have qy0 := bq hb ly qy0; have qy1 := bq hb ly qy1; have qy2 := bq hb ly qy2
  have ly := bl hb ly
  have qz0 := bq hb lz qz0; have qz1 := bq hb lz qz1; have qz2 := bq hb lz qz2
  have lz := bl hb lz
  have qhBC0 := bq hb lhBC qhBC0; have qhBC1 := bq hb lhBC qhBC1; have qhBC2 := bq hb lhBC qhBC2
  have lhBC := bl hb lhBC
  have qhAB0 := bq hb lhAB qhAB0; have qhAB1 := bq hb lhAB qhAB1; have qhAB2 := bq hb lhAB qhAB2
  have lhAB := bl hb lhAB
  have qhX0 := bq hb lhX qhX0; have qhX1 := bq hb lhX qhX1; have qhX2 := bq hb lhX qhX2
  have lhX := bl hb lhX
  have hB := below_later hB hb
  clear hb
  go_wp2_with fail
  with_reducible refine (div_rat hABU.toNatAt hABD.toNatAt g3 g4 (Nat.le_trans (rlen_mul lp lq) (by decide)) (Nat.le_trans lq (by decide)) HZ.out).mono ?_
  rintro e w42 ⟨ahOU, nhOU, chOU, ahOD, nhOD, chOD, rfl, hOU, hOD, hb⟩
  have g1 := g1.past hb
  have g2 := g2.past hb
  have g3 := g3.past hb
  have g4 := g4.past hb
  have g5 := g5.past hb
  have g6 := g6.past hb
  have hABU := hABU.past hb
  have hABD := hABD.past hb
  have qx0 := bq hb lx qx0; have qx1 := bq hb lx qx1; have qx2 := bq hb lx qx2
  have lx := bl hb lx
  have qy0 := bq hb ly qy0; have qy1 := bq hb ly qy1; have qy2 := bq hb ly qy2
  have ly := bl hb ly
  have qz0 := bq hb lz qz0; have qz1 := bq hb lz qz1; have qz2 := bq hb lz qz2
  have lz := bl hb lz
  have qhAB0 := bq hb lhAB qhAB0; have qhAB1 := bq hb lhAB qhAB1; have qhAB2 := bq hb lhAB qhAB2
  have lhAB := bl hb lhAB
  have hB := below_later hB hb
  clear hb
  rw [show p * q / q = p from rat_mul_div HZ.out] at hOU hOD ⊢
  go_wp2_with fail
  obtain ⟨w43, hW, hz0, hb, q, f⟩ := box1g w42 (w42.heap.size) (by omega) #[.bool (neg (p).num), .slice ahOU nhOU chOU, .slice ahOD nhOD chOD] 31
  rw [hW]
  clear hW
  have g1 := g1.past hb
  have g2 := g2.past hb
  have g3 := g3.past hb
  have g4 := g4.past hb
  have g5 := g5.past hb
  have g6 := g6.past hb
  have hOU := hOU.past hb
  have hOD := hOD.past hb
  have qx0 := bq hb lx qx0; have qx1 := bq hb lx qx1; have qx2 := bq hb lx qx2
  have lx := bl hb lx
  have qy0 := bq hb ly qy0; have qy1 := bq hb ly qy1; have qy2 := bq hb ly qy2
  have ly := bl hb ly
  have qz0 := bq hb lz qz0; have qz1 := bq hb lz qz1; have qz2 := bq hb lz qz2
  have lz := bl hb lz
  have hB := below_later hB hb
  clear hb
  have lhO : w42.heap.size < w43.heap.size := by omega
  have qhO0 := q 0; have qhO1 := q 1; have qhO2 := q 2
  simp only [List.getElem?_toArray, List.getElem?_cons_zero, List.getElem?_cons_succ] at qhO0 qhO1 qhO2
  clear q f
  clear hz0
  with_reducible refine (same05_yes hOU.toNatAt hOD.toNatAt g1 g2 (Nat.le_trans lp (by decide))).mono ?_
  rintro e w44 ⟨rfl, hb⟩
  have g1 := g1.past hb
  have g2 := g2.past hb
  have g3 := g3.past hb
  have g4 := g4.past hb
  have g5 := g5.past hb
  have g6 := g6.past hb
  have hOU := hOU.past hb
  have hOD := hOD.past hb
  have qx0 := bq hb lx qx0; have qx1 := bq hb lx qx1; have qx2 := bq hb lx qx2
  have lx := bl hb lx
  have qy0 := bq hb ly qy0; have qy1 := bq hb ly qy1; have qy2 := bq hb ly qy2
  have ly := bl hb ly
  have qz0 := bq hb lz qz0; have qz1 := bq hb lz qz1; have qz2 := bq hb lz qz2
  have lz := bl hb lz
  have qhO0 := bq hb lhO qhO0; have qhO1 := bq hb lhO qhO1; have qhO2 := bq hb lhO qhO2
  have lhO := bl hb lhO
  have hB := below_later hB hb
  clear hb
  go_wp2
  go_ret
  exact ⟨rfl, hB⟩

theorem ratioField_fine {p q r : Rat} {a1 : Option Addr} {n1 c1 : Nat} {a2 : Option Addr} {n2 c2 : Nat} {a3 : Option Addr} {n3 c3 : Nat} {a4 : Option Addr} {n4 c4 : Nat} {a5 : Option Addr} {n5 c5 : Nat} {a6 : Option Addr} {n6 c6 : Nat} {w : World} (g1 : NatAt w a1 n1 c1 (digs p.num.natAbs)) (g2 : NatAt w a2 n2 c2 (digs p.den)) (g3 : NatAt w a3 n3 c3 (digs q.num.natAbs)) (g4 : NatAt w a4 n4 c4 (digs q.den)) (g5 : NatAt w a5 n5 c5 (digs r.num.natAbs)) (g6 : NatAt w a6 n6 c6 (digs r.den)) (hs : ((digs p.num.natAbs).length ≤ 5 ∧ (digs p.den).length ≤ 5) ∧ ((digs q.num.natAbs).length ≤ 5 ∧ (digs q.den).length ≤ 5) ∧ ((digs r.num.natAbs).length ≤ 5 ∧ (digs r.den).length ≤ 5)) (hl : (longP ((neg p.num), (digs p.num.natAbs), (digs p.den)) || (longP ((neg q.num), (digs q.num.natAbs), (digs q.den)) || longP ((neg r.num), (digs r.num.natAbs), (digs r.den)))) = false) :
    Calls Try.prog 7 #[.agg #[.bool (neg p.num), .slice a1 n1 c1, .slice a2 n2 c2], .agg #[.bool (neg q.num), .slice a3 n3 c3, .slice a4 n4 c4], .agg #[.bool (neg r.num), .slice a5 n5 c5, .slice a6 n6 c6]] w (RetVal w (.bool true)) := by
  by_cases hz : q = 0
  · exact ratioField_zero g1 g2 g3 g4 g5 g6 hs hl hz
  · exact ratioField_some g1 g2 g3 g4 g5 g6 hs hl hz

theorem ratioField_any {b1 : Bool} {a1 : Option Addr} {n1 c1 : Nat} {l1 : List Nat} {a2 : Option Addr} {n2 c2 : Nat} {l2 : List Nat} {b3 : Bool} {a3 : Option Addr} {n3 c3 : Nat} {l3 : List Nat} {a4 : Option Addr} {n4 c4 : Nat} {l4 : List Nat} {b5 : Bool} {a5 : Option Addr} {n5 c5 : Nat} {l5 : List Nat} {a6 : Option Addr} {n6 c6 : Nat} {l6 : List Nat} {w : World} (g1 : NatAt w a1 n1 c1 l1) (g2 : NatAt w a2 n2 c2 l2) (g3 : NatAt w a3 n3 c3 l3) (g4 : NatAt w a4 n4 c4 l4) (g5 : NatAt w a5 n5 c5 l5) (g6 : NatAt w a6 n6 c6 l6) :
    Calls Try.prog 7 #[.agg #[.bool b1, .slice a1 n1 c1, .slice a2 n2 c2], .agg #[.bool b3, .slice a3 n3 c3, .slice a4 n4 c4], .agg #[.bool b5, .slice a5 n5 c5, .slice a6 n6 c6]] w (RetVal w (.bool true)) := by
  cases hl : (longP (b1, l1, l2) || (longP (b3, l3, l4) || longP (b5, l5, l6)))
  · have hl2 := hl
    rw [Bool.or_eq_false_iff, Bool.or_eq_false_iff, longP_no, longP_no, longP_no] at hl2
    cases hb : (decide (chk3 (b1, l1, l2) = 0) && (decide (chk3 (b3, l3, l4) = 0) && decide (chk3 (b5, l5, l6) = 0)))
    · exact ratioField_bad g1 g2 g3 g4 g5 g6 hl2 hl hb
    · rw [Bool.and_eq_true, Bool.and_eq_true, decide_eq_true_iff, decide_eq_true_iff, decide_eq_true_iff] at hb
      obtain ⟨h1, h2, h3⟩ := hb
      obtain ⟨p, rfl, rfl, rfl⟩ := chkR_rat g1.dig g2.dig h1
      obtain ⟨q, rfl, rfl, rfl⟩ := chkR_rat g3.dig g4.dig h2
      obtain ⟨r, rfl, rfl, rfl⟩ := chkR_rat g5.dig g6.dig h3
      exact ratioField_fine g1 g2 g3 g4 g5 g6 hl2 hl
  · exact ratioField_long g1 g2 g3 g4 g5 g6 hl

end Go.Proofs.Ytmhjhhcdjecdbaa
