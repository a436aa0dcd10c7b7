/- the laws of ratio: RatioOrder. -/
import Derived.Test.YtmhjhhcdjecdbaaLaw05e
import Derived.Test.YtmhjhhcdjecdbaaRat4
set_option linter.unusedVariables false
set_option linter.unusedSimpArgs false
namespace Go.Proofs.Ytmhjhhcdjecdbaa
open Go.RowKit


set_option maxRecDepth 100000 in
set_option maxHeartbeats 8000000 in
theorem ratioOrder_long {b1 : Bool} {a1 : Option Addr} {n1 c1 : Nat} {l1 : List Nat} {a2 : Option Addr} {n2 c2 : Nat} {l2 : List Nat} {b3 : Bool} {a3 : Option Addr} {n3 c3 : Nat} {l3 : List Nat} {a4 : Option Addr} {n4 c4 : Nat} {l4 : List Nat} {b5 : Bool} {a5 : Option Addr} {n5 c5 : Nat} {l5 : List Nat} {a6 : Option Addr} {n6 c6 : Nat} {l6 : List Nat} {w : World} (g1 : NatAt w a1 n1 c1 l1) (g2 : NatAt w a2 n2 c2 l2) (g3 : NatAt w a3 n3 c3 l3) (g4 : NatAt w a4 n4 c4 l4) (g5 : NatAt w a5 n5 c5 l5) (g6 : NatAt w a6 n6 c6 l6) (hl : (longP (b1, l1, l2) || (longP (b3, l3, l4) || longP (b5, l5, l6))) = true) :
    Calls Try.prog 4 #[.agg #[.bool b1, .slice a1 n1 c1, .slice a2 n2 c2], .agg #[.bool b3, .slice a3 n3 c3, .slice a4 n4 c4], .agg #[.bool b5, .slice a5 n5 c5, .slice a6 n6 c6]] w (RetVal w (.bool true)) := by
  rw [← longB3] at hl
  have LB := Lib.hid hl
  clear hl
  go_enter Try.func4, Try.ntmps4
  have hB := Below.refl w.heap.size w
  go_wp2_with fail
  obtain ⟨w1, hW, hz0, hb, q, f⟩ := box1g w (w.heap.size) (by omega) #[.bool b1, .slice a1 n1 c1, .slice a2 n2 c2] 31
  rw [hW]
  clear hW
  have g1 := g1.past hb
  have g2 := g2.past hb
  have g3 := g3.past hb
  have g4 := g4.past hb
  have g5 := g5.past hb
  have g6 := g6.past hb
  have hB := below_later hB hb
  clear hb
  have lx : w.heap.size < w1.heap.size := by omega
  have qx0 := q 0; have qx1 := q 1; have qx2 := q 2
  simp only [List.getElem?_toArray, List.getElem?_cons_zero, List.getElem?_cons_succ] at qx0 qx1 qx2
  clear q f
  obtain ⟨w2, hW, hz1, hb, q, f⟩ := box1g w1 (w.heap.size + 1) (by omega) #[.bool b3, .slice a3 n3 c3, .slice a4 n4 c4] 31
  rw [hW]
  clear hW
  have g1 := g1.past hb
  have g2 := g2.past hb
  have g3 := g3.past hb
  have g4 := g4.past hb
  have g5 := g5.past hb
  have g6 := g6.past hb
  have qx0 := bq hb lx qx0; have qx1 := bq hb lx qx1; have qx2 := bq hb lx qx2
  have lx := bl hb lx
  have hB := below_later hB hb
  clear hb
  have ly : w.heap.size + 1 < w2.heap.size := by omega
  have qy0 := q 0; have qy1 := q 1; have qy2 := q 2
  simp only [List.getElem?_toArray, List.getElem?_cons_zero, List.getElem?_cons_succ] at qy0 qy1 qy2
  clear q f
  obtain ⟨w3, hW, hz2, hb, q, f⟩ := box1g w2 (w.heap.size + 1 + 1) (by omega) #[.bool b5, .slice a5 n5 c5, .slice a6 n6 c6] 31
  rw [hW]
  clear hW
  have g1 := g1.past hb
  have g2 := g2.past hb
  have g3 := g3.past hb
  have g4 := g4.past hb
  have g5 := g5.past hb
  have g6 := g6.past hb
  have qx0 := bq hb lx qx0; have qx1 := bq hb lx qx1; have qx2 := bq hb lx qx2
  have lx := bl hb lx
  have qy0 := bq hb ly qy0; have qy1 := bq hb ly qy1; have qy2 := bq hb ly qy2
  have ly := bl hb ly
  have hB := below_later hB hb
  clear hb
  have lz : w.heap.size + 1 + 1 < w3.heap.size := by omega
  have qz0 := q 0; have qz1 := q 1; have qz2 := q 2
  simp only [List.getElem?_toArray, List.getElem?_cons_zero, List.getElem?_cons_succ] at qz0 qz1 qz2
  clear q f
  clear hz0
  clear hz1
  clear hz2
  with_reducible refine (awake05 _).mono ?_
  rintro e w4 ⟨rfl, hb⟩
  have g1 := g1.past hb
  have g2 := g2.past hb
  have g3 := g3.past hb
  have g4 := g4.past hb
  have g5 := g5.past hb
  have g6 := g6.past hb
  have qx0 := bq hb lx qx0; have qx1 := bq hb lx qx1; have qx2 := bq hb lx qx2
  have lx := bl hb lx
  have qy0 := bq hb ly qy0; have qy1 := bq hb ly qy1; have qy2 := bq hb ly qy2
  have ly := bl hb ly
  have qz0 := bq hb lz qz0; have qz1 := bq hb lz qz1; have qz2 := bq hb lz qz2
  have lz := bl hb lz
  have hB := below_later hB hb
  clear hb
  go_wp2_with fail
  obtain ⟨w5, hW, hz0, hb, q, f⟩ := box1g w4 (w4.heap.size) (by omega) #[.bool b1, .slice a1 n1 c1, .slice a2 n2 c2, .bool b3, .slice a3 n3 c3, .slice a4 n4 c4, .bool b5, .slice a5 n5 c5, .slice a6 n6 c6] 31
  rw [hW]
  clear hW
  have g1 := g1.past hb
  have g2 := g2.past hb
  have g3 := g3.past hb
  have g4 := g4.past hb
  have g5 := g5.past hb
  have g6 := g6.past hb
  have qx0 := bq hb lx qx0; have qx1 := bq hb lx qx1; have qx2 := bq hb lx qx2
  have lx := bl hb lx
  have qy0 := bq hb ly qy0; have qy1 := bq hb ly qy1; have qy2 := bq hb ly qy2
  have ly := bl hb ly
  have qz0 := bq hb lz qz0; have qz1 := bq hb lz qz1; have qz2 := bq hb lz qz2
  have lz := bl hb lz
  have hB := below_later hB hb
  clear hb
  have ls : w4.heap.size < w5.heap.size := by omega
  have qs0 := q 0; have qs1 := q 1; have qs2 := q 2; have qs3 := q 3; have qs4 := q 4; have qs5 := q 5; have qs6 := q 6; have qs7 := q 7; have qs8 := q 8
  simp only [List.getElem?_toArray, List.getElem?_cons_zero, List.getElem?_cons_succ] at qs0 qs1 qs2 qs3 qs4 qs5 qs6 qs7 qs8
  clear q f
  clear hz0
  with_reducible refine (long05_any _ _ _ _ _ (RatsAt.raw3 (x := (b1, l1, l2)) (y := (b3, l3, l4)) (z := (b5, l5, l6)) ls qs0 qs1 qs2 qs3 qs4 qs5 qs6 qs7 qs8 g1 g2 g3 g4 g5 g6)).mono ?_
  rintro e w6 ⟨rfl, hb⟩
  have g1 := g1.past hb
  have g2 := g2.past hb
  have g3 := g3.past hb
  have g4 := g4.past hb
  have g5 := g5.past hb
  have g6 := g6.past hb
  have qx0 := bq hb lx qx0; have qx1 := bq hb lx qx1; have qx2 := bq hb lx qx2
  have lx := bl hb lx
  have qy0 := bq hb ly qy0; have qy1 := bq hb ly qy1; have qy2 := bq hb ly qy2
  have ly := bl hb ly
  have qz0 := bq hb lz qz0; have qz1 := bq hb lz qz1; have qz2 := bq hb lz qz2
  have lz := bl hb lz
  have qs0 := bq hb ls qs0; have qs1 := bq hb ls qs1; have qs2 := bq hb ls qs2; have qs3 := bq hb ls qs3; have qs4 := bq hb ls qs4; have qs5 := bq hb ls qs5; have qs6 := bq hb ls qs6; have qs7 := bq hb ls qs7; have qs8 := bq hb ls qs8
  have ls := bl hb ls
  have hB := below_later hB hb
  clear hb
  rw [LB.out]
  go_wp2
  go_ret
  exact ⟨rfl, hB⟩

set_option maxRecDepth 100000 in
set_option maxHeartbeats 8000000 in
theorem ratioOrder_bad {b1 : Bool} {a1 : Option Addr} {n1 c1 : Nat} {l1 : List Nat} {a2 : Option Addr} {n2 c2 : Nat} {l2 : List Nat} {b3 : Bool} {a3 : Option Addr} {n3 c3 : Nat} {l3 : List Nat} {a4 : Option Addr} {n4 c4 : Nat} {l4 : List Nat} {b5 : Bool} {a5 : Option Addr} {n5 c5 : Nat} {l5 : List Nat} {a6 : Option Addr} {n6 c6 : Nat} {l6 : List Nat} {w : World} (g1 : NatAt w a1 n1 c1 l1) (g2 : NatAt w a2 n2 c2 l2) (g3 : NatAt w a3 n3 c3 l3) (g4 : NatAt w a4 n4 c4 l4) (g5 : NatAt w a5 n5 c5 l5) (g6 : NatAt w a6 n6 c6 l6) (hs : (l1.length ≤ 5 ∧ l2.length ≤ 5) ∧ (l3.length ≤ 5 ∧ l4.length ≤ 5) ∧ (l5.length ≤ 5 ∧ l6.length ≤ 5)) (hl : (longP (b1, l1, l2) || (longP (b3, l3, l4) || longP (b5, l5, l6))) = false) (hb : (decide (chk3 (b1, l1, l2) = 0) && (decide (chk3 (b3, l3, l4) = 0) && decide (chk3 (b5, l5, l6) = 0))) = false) :
    Calls Try.prog 4 #[.agg #[.bool b1, .slice a1 n1 c1, .slice a2 n2 c2], .agg #[.bool b3, .slice a3 n3 c3, .slice a4 n4 c4], .agg #[.bool b5, .slice a5 n5 c5, .slice a6 n6 c6]] w (RetVal w (.bool true)) := by
  rw [← longB3] at hl
  rw [← allR3] at hb
  have gk : ∀ i, i < 3 → ((rawF [(b1, l1, l2), (b3, l3, l4), (b5, l5, l6)]) i).2.1.length ≤ 68719476736 ∧ ((rawF [(b1, l1, l2), (b3, l3, l4), (b5, l5, l6)]) i).2.2.length ≤ 68719476736 := fun i hi => by
    match i, hi with
    | 0, _ => exact ⟨Nat.le_trans hs.1.1 (by decide), Nat.le_trans hs.1.2 (by decide)⟩
    | 1, _ => exact ⟨Nat.le_trans hs.2.1.1 (by decide), Nat.le_trans hs.2.1.2 (by decide)⟩
    | 2, _ => exact ⟨Nat.le_trans hs.2.2.1 (by decide), Nat.le_trans hs.2.2.2 (by decide)⟩
  have GK := Lib.hid gk
  have LB := Lib.hid hl
  have GB := Lib.hid hb
  clear hl hb gk
  go_enter Try.func4, Try.ntmps4
  have hB := Below.refl w.heap.size w
  go_wp2_with fail
  obtain ⟨w1, hW, hz0, hb, q, f⟩ := box1g w (w.heap.size) (by omega) #[.bool b1, .slice a1 n1 c1, .slice a2 n2 c2] 31
  rw [hW]
  clear hW
  have g1 := g1.past hb
  have g2 := g2.past hb
  have g3 := g3.past hb
  have g4 := g4.past hb
  have g5 := g5.past hb
  have g6 := g6.past hb
  have hB := below_later hB hb
  clear hb
  have lx : w.heap.size < w1.heap.size := by omega
  have qx0 := q 0; have qx1 := q 1; have qx2 := q 2
  simp only [List.getElem?_toArray, List.getElem?_cons_zero, List.getElem?_cons_succ] at qx0 qx1 qx2
  clear q f
  obtain ⟨w2, hW, hz1, hb, q, f⟩ := box1g w1 (w.heap.size + 1) (by omega) #[.bool b3, .slice a3 n3 c3, .slice a4 n4 c4] 31
  rw [hW]
  clear hW
  have g1 := g1.past hb
  have g2 := g2.past hb
  have g3 := g3.past hb
  have g4 := g4.past hb
  have g5 := g5.past hb
  have g6 := g6.past hb
  have qx0 := bq hb lx qx0; have qx1 := bq hb lx qx1; have qx2 := bq hb lx qx2
  have lx := bl hb lx
  have hB := below_later hB hb
  clear hb
  have ly : w.heap.size + 1 < w2.heap.size := by omega
  have qy0 := q 0; have qy1 := q 1; have qy2 := q 2
  simp only [List.getElem?_toArray, List.getElem?_cons_zero, List.getElem?_cons_succ] at qy0 qy1 qy2
  clear q f
  obtain ⟨w3, hW, hz2, hb, q, f⟩ := box1g w2 (w.heap.size + 1 + 1) (by omega) #[.bool b5, .slice a5 n5 c5, .slice a6 n6 c6] 31
  rw [hW]
  clear hW
  have g1 := g1.past hb
  have g2 := g2.past hb
  have g3 := g3.past hb
  have g4 := g4.past hb
  have g5 := g5.past hb
  have g6 := g6.past hb
  have qx0 := bq hb lx qx0; have qx1 := bq hb lx qx1; have qx2 := bq hb lx qx2
  have lx := bl hb lx
  have qy0 := bq hb ly qy0; have qy1 := bq hb ly qy1; have qy2 := bq hb ly qy2
  have ly := bl hb ly
  have hB := below_later hB hb
  clear hb
  have lz : w.heap.size + 1 + 1 < w3.heap.size := by omega
  have qz0 := q 0; have qz1 := q 1; have qz2 := q 2
  simp only [List.getElem?_toArray, List.getElem?_cons_zero, List.getElem?_cons_succ] at qz0 qz1 qz2
  clear q f
  clear hz0
  clear hz1
  clear hz2
  with_reducible refine (awake05 _).mono ?_
  rintro e w4 ⟨rfl, hb⟩
  have g1 := g1.past hb
  have g2 := g2.past hb
  have g3 := g3.past hb
  have g4 := g4.past hb
  have g5 := g5.past hb
  have g6 := g6.past hb
  have qx0 := bq hb lx qx0; have qx1 := bq hb lx qx1; have qx2 := bq hb lx qx2
  have lx := bl hb lx
  have qy0 := bq hb ly qy0; have qy1 := bq hb ly qy1; have qy2 := bq hb ly qy2
  have ly := bl hb ly
  have qz0 := bq hb lz qz0; have qz1 := bq hb lz qz1; have qz2 := bq hb lz qz2
  have lz := bl hb lz
  have hB := below_later hB hb
  clear hb
  go_wp2_with fail
  obtain ⟨w5, hW, hz0, hb, q, f⟩ := box1g w4 (w4.heap.size) (by omega) #[.bool b1, .slice a1 n1 c1, .slice a2 n2 c2, .bool b3, .slice a3 n3 c3, .slice a4 n4 c4, .bool b5, .slice a5 n5 c5, .slice a6 n6 c6] 31
  rw [hW]
  clear hW
  have g1 := g1.past hb
  have g2 := g2.past hb
  have g3 := g3.past hb
  have g4 := g4.past hb
  have g5 := g5.past hb
  have g6 := g6.past hb
  have qx0 := bq hb lx qx0; have qx1 := bq hb lx qx1; have qx2 := bq hb lx qx2
  have lx := bl hb lx
  have qy0 := bq hb ly qy0; have qy1 := bq hb ly qy1; have qy2 := bq hb ly qy2
  have ly := bl hb ly
  have qz0 := bq hb lz qz0; have qz1 := bq hb lz qz1; have qz2 := bq hb lz qz2
  have lz := bl hb lz
  have hB := below_later hB hb
  clear hb
  have ls : w4.heap.size < w5.heap.size := by omega
  have qs0 := q 0; have qs1 := q 1; have qs2 := q 2; have qs3 := q 3; have qs4 := q 4; have qs5 := q 5; have qs6 := q 6; have qs7 := q 7; have qs8 := q 8
  simp only [List.getElem?_toArray, List.getElem?_cons_zero, List.getElem?_cons_succ] at qs0 qs1 qs2 qs3 qs4 qs5 qs6 qs7 qs8
  clear q f
  clear hz0
  with_reducible refine (long05_any _ _ _ _ _ (RatsAt.raw3 (x := (b1, l1, l2)) (y := (b3, l3, l4)) (z := (b5, l5, l6)) ls qs0 qs1 qs2 qs3 qs4 qs5 qs6 qs7 qs8 g1 g2 g3 g4 g5 g6)).mono ?_
  rintro e w6 ⟨rfl, hb⟩
  have g1 := g1.past hb
  have g2 := g2.past hb
  have g3 := g3.past hb
  have g4 := g4.past hb
  have g5 := g5.past hb
  have g6 := g6.past hb
  have qx0 := bq hb lx qx0; have qx1 := bq hb lx qx1; have qx2 := bq hb lx qx2
  have lx := bl hb lx
  have qy0 := bq hb ly qy0; have qy1 := bq hb ly qy1; have qy2 := bq hb ly qy2
  have ly := bl hb ly
  have qz0 := bq hb lz qz0; have qz1 := bq hb lz qz1; have qz2 := bq hb lz qz2
  have lz := bl hb lz
  have qs0 := bq hb ls qs0; have qs1 := bq hb ls qs1; have qs2 := bq hb ls qs2; have qs3 := bq hb ls qs3; have qs4 := bq hb ls qs4; have qs5 := bq hb ls qs5; have qs6 := bq hb ls qs6; have qs7 := bq hb ls qs7; have qs8 := bq hb ls qs8
  have ls := bl hb ls
  have hB := below_later hB hb
  clear hb
  rw [LB.out]
  go_wp2_with fail
  obtain ⟨w7, hW, hz0, hb, q, f⟩ := box1g w6 (w6.heap.size) (by omega) #[.bool b1, .slice a1 n1 c1, .slice a2 n2 c2, .bool b3, .slice a3 n3 c3, .slice a4 n4 c4, .bool b5, .slice a5 n5 c5, .slice a6 n6 c6] 31
  rw [hW]
  clear hW
  have g1 := g1.past hb
  have g2 := g2.past hb
  have g3 := g3.past hb
  have g4 := g4.past hb
  have g5 := g5.past hb
  have g6 := g6.past hb
  have qx0 := bq hb lx qx0; have qx1 := bq hb lx qx1; have qx2 := bq hb lx qx2
  have lx := bl hb lx
  have qy0 := bq hb ly qy0; have qy1 := bq hb ly qy1; have qy2 := bq hb ly qy2
  have ly := bl hb ly
  have qz0 := bq hb lz qz0; have qz1 := bq hb lz qz1; have qz2 := bq hb lz qz2
  have lz := bl hb lz
  have hB := below_later hB hb
  clear hb
  have ls : w6.heap.size < w7.heap.size := by omega
  have qs0 := q 0; have qs1 := q 1; have qs2 := q 2; have qs3 := q 3; have qs4 := q 4; have qs5 := q 5; have qs6 := q 6; have qs7 := q 7; have qs8 := q 8
  simp only [List.getElem?_toArray, List.getElem?_cons_zero, List.getElem?_cons_succ] at qs0 qs1 qs2 qs3 qs4 qs5 qs6 qs7 qs8
  clear q f
  clear hz0
  with_reducible refine (good05_any _ _ _ _ _ (RatsAt.raw3 (x := (b1, l1, l2)) (y := (b3, l3, l4)) (z := (b5, l5, l6)) ls qs0 qs1 qs2 qs3 qs4 qs5 qs6 qs7 qs8 g1 g2 g3 g4 g5 g6) GK.out).mono ?_
  rintro e w8 ⟨rfl, hb⟩
  have g1 := g1.past hb
  have g2 := g2.past hb
  have g3 := g3.past hb
  have g4 := g4.past hb
  have g5 := g5.past hb
  have g6 := g6.past hb
  have qx0 := bq hb lx qx0; have qx1 := bq hb lx qx1; have qx2 := bq hb lx qx2
  have lx := bl hb lx
  have qy0 := bq hb ly qy0; have qy1 := bq hb ly qy1; have qy2 := bq hb ly qy2
  have ly := bl hb ly
  have qz0 := bq hb lz qz0; have qz1 := bq hb lz qz1; have qz2 := bq hb lz qz2
  have lz := bl hb lz
  have qs0 := bq hb ls qs0; have qs1 := bq hb ls qs1; have qs2 := bq hb ls qs2; have qs3 := bq hb ls qs3; have qs4 := bq hb ls qs4; have qs5 := bq hb ls qs5; have qs6 := bq hb ls qs6; have qs7 := bq hb ls qs7; have qs8 := bq hb ls qs8
  have ls := bl hb ls
  have hB := below_later hB hb
  clear hb
  rw [GB.out]
  go_wp2
  go_ret
  exact ⟨rfl, hB⟩

set_option maxRecDepth 100000 in
set_option maxHeartbeats 16000000 in
theorem ratioOrder_pos {p q r : Rat} {a1 : Option Addr} {n1 c1 : Nat} {a2 : Option Addr} {n2 c2 : Nat} {a3 : Option Addr} {n3 c3 : Nat} {a4 : Option Addr} {n4 c4 : Nat} {a5 : Option Addr} {n5 c5 : Nat} {a6 : Option Addr} {n6 c6 : Nat} {w : World} (g1 : NatAt w a1 n1 c1 (digs p.num.natAbs)) (g2 : NatAt w a2 n2 c2 (digs p.den)) (g3 : NatAt w a3 n3 c3 (digs q.num.natAbs)) (g4 : NatAt w a4 n4 c4 (digs q.den)) (g5 : NatAt w a5 n5 c5 (digs r.num.natAbs)) (g6 : NatAt w a6 n6 c6 (digs r.den)) (hs : ((digs p.num.natAbs).length ≤ 5 ∧ (digs p.den).length ≤ 5) ∧ ((digs q.num.natAbs).length ≤ 5 ∧ (digs q.den).length ≤ 5) ∧ ((digs r.num.natAbs).length ≤ 5 ∧ (digs r.den).length ≤ 5)) (hl : (longP ((neg p.num), (digs p.num.natAbs), (digs p.den)) || (longP ((neg q.num), (digs q.num.natAbs), (digs q.den)) || longP ((neg r.num), (digs r.num.natAbs), (digs r.den)))) = false) (hn : (p - q).num.sign = 1) :
    Calls Try.prog 4 #[.agg #[.bool (neg p.num), .slice a1 n1 c1, .slice a2 n2 c2], .agg #[.bool (neg q.num), .slice a3 n3 c3, .slice a4 n4 c4], .agg #[.bool (neg r.num), .slice a5 n5 c5, .slice a6 n6 c6]] w (RetVal w (.bool true)) := by
  rw [← longB3] at hl
  have gk : ∀ i, i < 3 → ((rawF [((neg p.num), (digs p.num.natAbs), (digs p.den)), ((neg q.num), (digs q.num.natAbs), (digs q.den)), ((neg r.num), (digs r.num.natAbs), (digs r.den))]) i).2.1.length ≤ 68719476736 ∧ ((rawF [((neg p.num), (digs p.num.natAbs), (digs p.den)), ((neg q.num), (digs q.num.natAbs), (digs q.den)), ((neg r.num), (digs r.num.natAbs), (digs r.den))]) i).2.2.length ≤ 68719476736 := fun i hi => by
    match i, hi with
    | 0, _ => exact ⟨Nat.le_trans hs.1.1 (by decide), Nat.le_trans hs.1.2 (by decide)⟩
    | 1, _ => exact ⟨Nat.le_trans hs.2.1.1 (by decide), Nat.le_trans hs.2.1.2 (by decide)⟩
    | 2, _ => exact ⟨Nat.le_trans hs.2.2.1 (by decide), Nat.le_trans hs.2.2.2 (by decide)⟩
  have e3 := allR3 ((neg p.num), (digs p.num.natAbs), (digs p.den)) ((neg q.num), (digs q.num.natAbs), (digs q.den)) ((neg r.num), (digs r.num.natAbs), (digs r.den))
  rw [show decide (chk3 ((neg p.num), (digs p.num.natAbs), (digs p.den)) = 0) = true from decide_eq_true (chk3_parts p), show decide (chk3 ((neg q.num), (digs q.num.natAbs), (digs q.den)) = 0) = true from decide_eq_true (chk3_parts q), show decide (chk3 ((neg r.num), (digs r.num.natAbs), (digs r.den)) = 0) = true from decide_eq_true (chk3_parts r)] at e3
  have e3 : allR (rawF [((neg p.num), (digs p.num.natAbs), (digs p.den)), ((neg q.num), (digs q.num.natAbs), (digs q.den)), ((neg r.num), (digs r.num.natAbs), (digs r.den))]) 3 = true := e3
  have lp : rlen p ≤ 5 := Nat.max_le.2 hs.1
  have lq : rlen q ≤ 5 := Nat.max_le.2 hs.2.1
  have lr5 : rlen r ≤ 5 := Nat.max_le.2 hs.2.2
  have hm : (q - p).num.sign = -1 := by rw [sgn_turn p q, hn]; try rfl
  have ho : (p + r - (q + r)).num.sign = 1 := by rw [add_sub_add]; exact hn
  have hsame : eqR (neg p.num) (digs p.num.natAbs) (digs p.den) (neg q.num) (digs q.num.natAbs) (digs q.den) = false := by rw [eqR_eqQ]; exact decide_eq_false fun e => by rw [sgn_zero.2 e] at hn; exact absurd hn (by decide)
  obtain ⟨k, hk⟩ : ∃ k, (q - r).num.sign = k := ⟨_, rfl⟩
  obtain ⟨l, hl9⟩ : ∃ l, (p - r).num.sign = l := ⟨_, rfl⟩
  have LB := Lib.hid hl
  have GK := Lib.hid gk
  have GB := Lib.hid e3
  have NN := Lib.hid hn
  have MM := Lib.hid hm
  have KK := Lib.hid hk
  have LL := Lib.hid hl9
  have OO := Lib.hid ho
  have SS := Lib.hid hsame
  clear hl gk e3 hn hm hk hl9 ho hsame
  go_enter Try.func4, Try.ntmps4
  have hB := Below.refl w.heap.size w
  go_wp2_with fail
  obtain ⟨w1, hW, hz0, hb, q, f⟩ := box1g w (w.heap.size) (by omega) #[.bool (neg p.num), .slice a1 n1 c1, .slice a2 n2 c2] 31
  rw [hW]
  clear hW
  have g1 := g1.past hb
  have g2 := g2.past hb
  have g3 := g3.past hb
  have g4 := g4.past hb
  have g5 := g5.past hb
  have g6 := g6.past hb
  have hB := below_later hB hb
  clear hb
  have lx : w.heap.size < w1.heap.size := by omega
  have qx0 := q 0; have qx1 := q 1; have qx2 := q 2
  simp only [List.getElem?_toArray, List.getElem?_cons_zero, List.getElem?_cons_succ] at qx0 qx1 qx2
  clear q f
  obtain ⟨w2, hW, hz1, hb, q, f⟩ := box1g w1 (w.heap.size + 1) (by omega) #[.bool (neg q.num), .slice a3 n3 c3, .slice a4 n4 c4] 31
  rw [hW]
  clear hW
  have g1 := g1.past hb
  have g2 := g2.past hb
  have g3 := g3.past hb
  have g4 := g4.past hb
  have g5 := g5.past hb
  have g6 := g6.past hb
  have qx0 := bq hb lx qx0; have qx1 := bq hb lx qx1; have qx2 := bq hb lx qx2
  have lx := bl hb lx
  have hB := below_later hB hb
  clear hb
  have ly : w.heap.size + 1 < w2.heap.size := by omega
  have qy0 := q 0; have qy1 := q 1; have qy2 := q 2
  simp only [List.getElem?_toArray, List.getElem?_cons_zero, List.getElem?_cons_succ] at qy0 qy1 qy2
  clear q f
  obtain ⟨w3, hW, hz2, hb, q, f⟩ := box1g w2 (w.heap.size + 1 + 1) (by omega) #[.bool (neg r.num), .slice a5 n5 c5, .slice a6 n6 c6] 31
  rw [hW]
  clear hW
  have g1 := g1.past hb
  have g2 := g2.past hb
  have g3 := g3.past hb
  have g4 := g4.past hb
  have g5 := g5.past hb
  have g6 := g6.past hb
  have qx0 := bq hb lx qx0; have qx1 := bq hb lx qx1; have qx2 := bq hb lx qx2
  have lx := bl hb lx
  have qy0 := bq hb ly qy0; have qy1 := bq hb ly qy1; have qy2 := bq hb ly qy2
  have ly := bl hb ly
  have hB := below_later hB hb
  clear hb
  have lz : w.heap.size + 1 + 1 < w3.heap.size := by omega
  have qz0 := q 0; have qz1 := q 1; have qz2 := q 2
  simp only [List.getElem?_toArray, List.getElem?_cons_zero, List.getElem?_cons_succ] at qz0 qz1 qz2
  clear q f
  clear hz0
  clear hz1
  clear hz2
  with_reducible refine (awake05 _).mono ?_
  rintro e w4 ⟨rfl, hb⟩
  have g1 := g1.past hb
  have g2 := g2.past hb
  have g3 := g3.past hb
  have g4 := g4.past hb
  have g5 := g5.past hb
  have g6 := g6.past hb
  have qx0 := bq hb lx qx0; have qx1 := bq hb lx qx1; have qx2 := bq hb lx qx2
  have lx := bl hb lx
  have qy0 := bq hb ly qy0; have qy1 := bq hb ly qy1; have qy2 := bq hb ly qy2
  have ly := bl hb ly
  have qz0 := bq hb lz qz0; have qz1 := bq hb lz qz1; have qz2 := bq hb lz qz2
  have lz := bl hb lz
  have hB := below_later hB hb
  clear hb
  go_wp2_with fail
  obtain ⟨w5, hW, hz0, hb, q, f⟩ := box1g w4 (w4.heap.size) (by omega) #[.bool (neg p.num), .slice a1 n1 c1, .slice a2 n2 c2, .bool (neg q.num), .slice a3 n3 c3, .slice a4 n4 c4, .bool (neg r.num), .slice a5 n5 c5, .slice a6 n6 c6] 31
  rw [hW]
  clear hW
  have g1 := g1.past hb
  have g2 := g2.past hb
  have g3 := g3.past hb
  have g4 := g4.past hb
  have g5 := g5.past hb
  have g6 := g6.past hb
  have qx0 := bq hb lx qx0; have qx1 := bq hb lx qx1; have qx2 := bq hb lx qx2
  have lx := bl hb lx
  have qy0 := bq hb ly qy0; have qy1 := bq hb ly qy1; have qy2 := bq hb ly qy2
  have ly := bl hb ly
  have qz0 := bq hb lz qz0; have qz1 := bq hb lz qz1; have qz2 := bq hb lz qz2
  have lz := bl hb lz
  have hB := below_later hB hb
  clear hb
  have ls : w4.heap.size < w5.heap.size := by omega
  have qs0 := q 0; have qs1 := q 1; have qs2 := q 2; have qs3 := q 3; have qs4 := q 4; have qs5 := q 5; have qs6 := q 6; have qs7 := q 7; have qs8 := q 8
  simp only [List.getElem?_toArray, List.getElem?_cons_zero, List.getElem?_cons_succ] at qs0 qs1 qs2 qs3 qs4 qs5 qs6 qs7 qs8
  clear q f
  clear hz0
  with_reducible refine (long05_any _ _ _ _ _ (RatsAt.raw3 (x := ((neg p.num), (digs p.num.natAbs), (digs p.den))) (y := ((neg q.num), (digs q.num.natAbs), (digs q.den))) (z := ((neg r.num), (digs r.num.natAbs), (digs r.den))) ls qs0 qs1 qs2 qs3 qs4 qs5 qs6 qs7 qs8 g1 g2 g3 g4 g5 g6)).mono ?_
  rintro e w6 ⟨rfl, hb⟩
  have g1 := g1.past hb
  have g2 := g2.past hb
  have g3 := g3.past hb
  have g4 := g4.past hb
  have g5 := g5.past hb
  have g6 := g6.past hb
  have qx0 := bq hb lx qx0; have qx1 := bq hb lx qx1; have qx2 := bq hb lx qx2
  have lx := bl hb lx
  have qy0 := bq hb ly qy0; have qy1 := bq hb ly qy1; have qy2 := bq hb ly qy2
  have ly := bl hb ly
  have qz0 := bq hb lz qz0; have qz1 := bq hb lz qz1; have qz2 := bq hb lz qz2
  have lz := bl hb lz
  have qs0 := bq hb ls qs0; have qs1 := bq hb ls qs1; have qs2 := bq hb ls qs2; have qs3 := bq hb ls qs3; have qs4 := bq hb ls qs4; have qs5 := bq hb ls qs5; have qs6 := bq hb ls qs6; have qs7 := bq hb ls qs7; have qs8 := bq hb ls qs8
  have ls := bl hb ls
  have hB := below_later hB hb
  clear hb
  rw [LB.out]
  go_wp2_with fail
  obtain ⟨w7, hW, hz0, hb, q, f⟩ := box1g w6 (w6.heap.size) (by omega) #[.bool (neg p.num), .slice a1 n1 c1, .slice a2 n2 c2, .bool (neg q.num), .slice a3 n3 c3, .slice a4 n4 c4, .bool (neg r.num), .slice a5 n5 c5, .slice a6 n6 c6] 31
  rw [hW]
  clear hW
  have g1 := g1.past hb
  have g2 := g2.past hb
  have g3 := g3.past hb
  have g4 := g4.past hb
  have g5 := g5.past hb
  have g6 := g6.past hb
  have qx0 := bq hb lx qx0; have qx1 := bq hb lx qx1; have qx2 := bq hb lx qx2
  have lx := bl hb lx
  have qy0 := bq hb ly qy0; have qy1 := bq hb ly qy1; have qy2 := bq hb ly qy2
  have ly := bl hb ly
  have qz0 := bq hb lz qz0; have qz1 := bq hb lz qz1; have qz2 := bq hb lz qz2
  have lz := bl hb lz
  have hB := below_later hB hb
  clear hb
  have ls : w6.heap.size < w7.heap.size := by omega
  have qs0 := q 0; have qs1 := q 1; have qs2 := q 2; have qs3 := q 3; have qs4 := q 4; have qs5 := q 5; have qs6 := q 6; have qs7 := q 7; have qs8 := q 8
  simp only [List.getElem?_toArray, List.getElem?_cons_zero, List.getElem?_cons_succ] at qs0 qs1 qs2 qs3 qs4 qs5 qs6 qs7 qs8
  clear q f
  clear hz0
  with_reducible refine (good05_any _ _ _ _ _ (RatsAt.raw3 (x := ((neg p.num), (digs p.num.natAbs), (digs p.den))) (y := ((neg q.num), (digs q.num.natAbs), (digs q.den))) (z := ((neg r.num), (digs r.num.natAbs), (digs r.den))) ls qs0 qs1 qs2 qs3 qs4 qs5 qs6 qs7 qs8 g1 g2 g3 g4 g5 g6) GK.out).mono ?_
  rintro e w8 ⟨rfl, hb⟩
  have g1 := g1.past hb
  have g2 := g2.past hb
  have g3 := g3.past hb
  have g4 := g4.past hb
  have g5 := g5.past hb
  have g6 := g6.past hb
  have qx0 := bq hb lx qx0; have qx1 := bq hb lx qx1; have qx2 := bq hb lx qx2
  have lx := bl hb lx
  have qy0 := bq hb ly qy0; have qy1 := bq hb ly qy1; have qy2 := bq hb ly qy2
  have ly := bl hb ly
  have qz0 := bq hb lz qz0; have qz1 := bq hb lz qz1; have qz2 := bq hb lz qz2
  have lz := bl hb lz
  have qs0 := bq hb ls qs0; have qs1 := bq hb ls qs1; have qs2 := bq hb ls qs2; have qs3 := bq hb ls qs3; have qs4 := bq hb ls qs4; have qs5 := bq hb ls qs5; have qs6 := bq hb ls qs6; have qs7 := bq hb ls qs7; have qs8 := bq hb ls qs8
  have ls := bl hb ls
  have hB := below_later hB hb
  clear hb
  rw [GB.out]
  go_wp2_with fail
  with_reducible refine (cmp_rat g1 g2 g3 g4 (Nat.le_trans lp (by decide)) (Nat.le_trans lq (by decide))).mono ?_
  rintro e w9 ⟨rfl, hb⟩
  have g1 := g1.past hb
  have g2 := g2.past hb
  have g3 := g3.past hb
  have g4 := g4.past hb
  have g5 := g5.past hb
  have g6 := g6.past hb
  have qx0 := bq hb lx qx0; have qx1 := bq hb lx qx1; have qx2 := bq hb lx qx2
  have lx := bl hb lx
  have qy0 := bq hb ly qy0; have qy1 := bq hb ly qy1; have qy2 := bq hb ly qy2
  have ly := bl hb ly
  have qz0 := bq hb lz qz0; have qz1 := bq hb lz qz1; have qz2 := bq hb lz qz2
  have lz := bl hb lz
  have hB := below_later hB hb
  clear hb
  rw [NN.out]
  go_wp2_with fail
  with_reducible refine (cmp_rat g3 g4 g1 g2 (Nat.le_trans lq (by decide)) (Nat.le_trans lp (by decide))).mono ?_
  rintro e w10 ⟨rfl, hb⟩
  have g1 := g1.past hb
  have g2 := g2.past hb
  have g3 := g3.past hb
  have g4 := g4.past hb
  have g5 := g5.past hb
  have g6 := g6.past hb
  have qx0 := bq hb lx qx0; have qx1 := bq hb lx qx1; have qx2 := bq hb lx qx2
  have lx := bl hb lx
  have qy0 := bq hb ly qy0; have qy1 := bq hb ly qy1; have qy2 := bq hb ly qy2
  have ly := bl hb ly
  have qz0 := bq hb lz qz0; have qz1 := bq hb lz qz1; have qz2 := bq hb lz qz2
  have lz := bl hb lz
  have hB := below_later hB hb
  clear hb
  rw [MM.out]
  go_wp2_with fail
  with_reducible refine (cmp_rat g3 g4 g5 g6 (Nat.le_trans lq (by decide)) (Nat.le_trans lr5 (by decide))).mono ?_
  rintro e w11 ⟨rfl, hb⟩
  have g1 := g1.past hb
  have g2 := g2.past hb
  have g3 := g3.past hb
  have g4 := g4.past hb
  have g5 := g5.past hb
  have g6 := g6.past hb
  have qx0 := bq hb lx qx0; have qx1 := bq hb lx qx1; have qx2 := bq hb lx qx2
  have lx := bl hb lx
  have qy0 := bq hb ly qy0; have qy1 := bq hb ly qy1; have qy2 := bq hb ly qy2
  have ly := bl hb ly
  have qz0 := bq hb lz qz0; have qz1 := bq hb lz qz1; have qz2 := bq hb lz qz2
  have lz := bl hb lz
  have hB := below_later hB hb
  clear hb
  rw [KK.out]
  go_wp2_with fail
  with_reducible refine (cmp_rat g1 g2 g5 g6 (Nat.le_trans lp (by decide)) (Nat.le_trans lr5 (by decide))).mono ?_
  rintro e w12 ⟨rfl, hb⟩
  have g1 := g1.past hb
  have g2 := g2.past hb
  have g3 := g3.past hb
  have g4 := g4.past hb
  have g5 := g5.past hb
  have g6 := g6.past hb
  have qx0 := bq hb lx qx0; have qx1 := bq hb lx qx1; have qx2 := bq hb lx qx2
  have lx := bl hb lx
  have qy0 := bq hb ly qy0; have qy1 := bq hb ly qy1; have qy2 := bq hb ly qy2
  have ly := bl hb ly
  have qz0 := bq hb lz qz0; have qz1 := bq hb lz qz1; have qz2 := bq hb lz qz2
  have lz := bl hb lz
  have hB := below_later hB hb
  clear hb
  rw [LL.out]
  go_wp2_with fail
  with_reducible refine (sub_rat g1 g2 g3 g4 (Nat.le_trans lp (by decide)) (Nat.le_trans lq (by decide))).mono ?_
  rintro e w13 ⟨ahDU, nhDU, chDU, ahDD, nhDD, chDD, rfl, hDU, hDD, hb⟩
  have g1 := g1.past hb
  have g2 := g2.past hb
  have g3 := g3.past hb
  have g4 := g4.past hb
  have g5 := g5.past hb
  have g6 := g6.past hb
  have qx0 := bq hb lx qx0; have qx1 := bq hb lx qx1; have qx2 := bq hb lx qx2
  have lx := bl hb lx
  have qy0 := bq hb ly qy0; have qy1 := bq hb ly qy1; have qy2 := bq hb ly qy2
  have ly := bl hb ly
  have qz0 := bq hb lz qz0; have qz1 := bq hb lz qz1; have qz2 := bq hb lz qz2
  have lz := bl hb lz
  have hB := below_later hB hb
  clear hb
  have bD : nhDU ≤ 11 := by rw [← hDU.len]; exact rlen_up (rlen_sub lp lq)
  go_wp2_with fail
  obtain ⟨w14, hW, hz0, hb, q, f⟩ := box1g w13 (w13.heap.size) (by omega) #[.bool (neg (p - q).num), .slice ahDU nhDU chDU, .slice ahDD nhDD chDD] 31
  rw [hW]
  clear hW
  have g1 := g1.past hb
  have g2 := g2.past hb
  have g3 := g3.past hb
  have g4 := g4.past hb
  have g5 := g5.past hb
  have g6 := g6.past hb
  have hDU := hDU.past hb
  have hDD := hDD.past hb
  have qx0 := bq hb lx qx0; have qx1 := bq hb lx qx1; have qx2 := bq hb lx qx2
  have lx := bl hb lx
  have qy0 := bq hb ly qy0; have qy1 := bq hb ly qy1; have qy2 := bq hb ly qy2
  have ly := bl hb ly
  have qz0 := bq hb lz qz0; have qz1 := bq hb lz qz1; have qz2 := bq hb lz qz2
  have lz := bl hb lz
  have hB := below_later hB hb
  clear hb
  have ld : w13.heap.size < w14.heap.size := by omega
  have qd0 := q 0; have qd1 := q 1; have qd2 := q 2
  simp only [List.getElem?_toArray, List.getElem?_cons_zero, List.getElem?_cons_succ] at qd0 qd1 qd2
  clear q f
  obtain ⟨w15, hW, hz1, hb, q, f⟩ := box1g w14 (w13.heap.size + 1) (by omega) #[.bool (neg p.num), .slice a1 n1 c1, .slice a2 n2 c2, .bool (neg r.num), .slice a5 n5 c5, .slice a6 n6 c6] 31
  rw [hW]
  clear hW
  have g1 := g1.past hb
  have g2 := g2.past hb
  have g3 := g3.past hb
  have g4 := g4.past hb
  have g5 := g5.past hb
  have g6 := g6.past hb
  have hDU := hDU.past hb
  have hDD := hDD.past hb
  have qx0 := bq hb lx qx0; have qx1 := bq hb lx qx1; have qx2 := bq hb lx qx2
  have lx := bl hb lx
  have qy0 := bq hb ly qy0; have qy1 := bq hb ly qy1; have qy2 := bq hb ly qy2
  have ly := bl hb ly
  have qz0 := bq hb lz qz0; have qz1 := bq hb lz qz1; have qz2 := bq hb lz qz2
  have lz := bl hb lz
  have qd0 := bq hb ld qd0; have qd1 := bq hb ld qd1; have qd2 := bq hb ld qd2
  have ld := bl hb ld
  have hB := below_later hB hb
  clear hb
  have ls : w13.heap.size + 1 < w15.heap.size := by omega
  have qs0 := q 0; have qs1 := q 1; have qs2 := q 2; have qs3 := q 3; have qs4 := q 4; have qs5 := q 5
  simp only [List.getElem?_toArray, List.getElem?_cons_zero, List.getElem?_cons_succ] at qs0 qs1 qs2 qs3 qs4 qs5
  clear q f
  clear hz0
  clear hz1
  with_reducible refine (add_two (RatsAt.two ls qs0 qs1 qs2 qs3 qs4 qs5 g1 g2 g5 g6) (Nat.le_trans lp (by decide)) (Nat.le_trans lr5 (by decide))).mono ?_
  rintro e w16 ⟨ahXU, nhXU, chXU, ahXD, nhXD, chXD, rfl, hXU, hXD, hb⟩
  have g1 := g1.past hb
  have g2 := g2.past hb
  have g3 := g3.past hb
  have g4 := g4.past hb
  have g5 := g5.past hb
  have g6 := g6.past hb
  have hDU := hDU.past hb
  have hDD := hDD.past hb
  have qx0 := bq hb lx qx0; have qx1 := bq hb lx qx1; have qx2 := bq hb lx qx2
  have lx := bl hb lx
  have qy0 := bq hb ly qy0; have qy1 := bq hb ly qy1; have qy2 := bq hb ly qy2
  have ly := bl hb ly
  have qz0 := bq hb lz qz0; have qz1 := bq hb lz qz1; have qz2 := bq hb lz qz2
  have lz := bl hb lz
  have qd0 := bq hb ld qd0; have qd1 := bq hb ld qd1; have qd2 := bq hb ld qd2
  have ld := bl hb ld
  have qs0 := bq hb ls qs0; have qs1 := bq hb ls qs1; have qs2 := bq hb ls qs2; have qs3 := bq hb ls qs3; have qs4 := bq hb ls qs4; have qs5 := bq hb ls qs5
  have ls := bl hb ls
  have hB := below_later hB hb
  clear hb
  go_wp2_with fail
  obtain ⟨w17, hW, hz0, hb, q, f⟩ := box1g w16 (w16.heap.size) (by omega) #[.bool (neg (p + r).num), .slice ahXU nhXU chXU, .slice ahXD nhXD chXD] 31
  rw [hW]
  clear hW
  have g1 := g1.past hb
  have g2 := g2.past hb
  have g3 := g3.past hb
  have g4 := g4.past hb
  have g5 := g5.past hb
  have g6 := g6.past hb
  have hDU := hDU.past hb
  have hDD := hDD.past hb
  have hXU := hXU.past hb
  have hXD := hXD.past hb
  have qx0 := bq hb lx qx0; have qx1 := bq hb lx qx1; have qx2 := bq hb lx qx2
  have lx := bl hb lx
  have qy0 := bq hb ly qy0; have qy1 := bq hb ly qy1; have qy2 := bq hb ly qy2
  have ly := bl hb ly
  have qz0 := bq hb lz qz0; have qz1 := bq hb lz qz1; have qz2 := bq hb lz qz2
  have lz := bl hb lz
  have qd0 := bq hb ld qd0; have qd1 := bq hb ld qd1; have qd2 := bq hb ld qd2
  have ld := bl hb ld
  have hB := below_later hB hb
  clear hb
  have lhX : w16.heap.size < w17.heap.size := by omega
  have qhX0 := q 0; have qhX1 := q 1; have qhX2 := q 2
  simp only [List.getElem?_toArray, List.getElem?_cons_zero, List.getElem?_cons_succ] at qhX0 qhX1 qhX2
  clear q f
  obtain ⟨w18, hW, hz1, hb, q, f⟩ := box1g w17 (w16.heap.size + 1) (by omega) #[.bool (neg q.num), .slice a3 n3 c3, .slice a4 n4 c4, .bool (neg r.num), .slice a5 n5 c5, .slice a6 n6 c6] 31
  rw [hW]
  clear hW
  have g1 := g1.past hb
  have g2 := g2.past hb
  have g3 := g3.past hb
  have g4 := g4.past hb
  have g5 := g5.past hb
  have g6 := g6.past hb
  have hDU := hDU.past hb
  have hDD := hDD.past hb
  have hXU := hXU.past hb
  have hXD := hXD.past hb
  have qx0 := bq hb lx qx0; have qx1 := bq hb lx qx1; have qx2 := bq hb lx qx2
  have lx := bl hb lx
  have qy0 := bq hb ly qy0; have qy1 := bq hb ly qy1; have qy2 := bq hb ly qy2
  have ly := bl hb ly
  have qz0 := bq hb lz qz0; have qz1 := bq hb lz qz1; have qz2 := bq hb lz qz2
  have lz := bl hb lz
  have qd0 := bq hb ld qd0; have qd1 := bq hb ld qd1; have qd2 := bq hb ld qd2
  have ld := bl hb ld
  have qhX0 := bq hb lhX qhX0; have qhX1 := bq hb lhX qhX1; have qhX2 := bq hb lhX qhX2
  have lhX := bl hb lhX
  have hB := below_later hB hb
  clear hb
  have ls : w16.heap.size + 1 < w18.heap.size := by omega
  have qs0 := q 0; have qs1 := q 1; have qs2 := q 2; have qs3 := q 3; have qs4 := q 4; have qs5 := q 5
  simp only [List.getElem?_toArray, List.getElem?_cons_zero, List.getElem?_cons_succ] at qs0 qs1 qs2 qs3 qs4 qs5
  clear q f
  clear hz0
  clear hz1
  with_reducible refine (add_two (RatsAt.two ls qs0 qs1 qs2 qs3 qs4 qs5 g3 g4 g5 g6) (Nat.le_trans lq (by decide)) (Nat.le_trans lr5 (by decide))).mono ?_
  rintro e w19 ⟨ahYU, nhYU, chYU, ahYD, nhYD, chYD, rfl, hYU, hYD, hb⟩
  have g1 := g1.past hb
  have g2 := g2.past hb
  have g3 := g3.past hb
  have g4 := g4.past hb
  have g5 := g5.past hb
  have g6 := g6.past hb
  have hDU := hDU.past hb
  have hDD := hDD.past hb
  have hXU := hXU.past hb
  have hXD := hXD.past hb
  have qx0 := bq hb lx qx0; have qx1 := bq hb lx qx1; have qx2 := bq hb lx qx2
  have lx := bl hb lx
  have qy0 := bq hb ly qy0; have qy1 := bq hb ly qy1; have qy2 := bq hb ly qy2
  have ly := bl hb ly
  have qz0 := bq hb lz qz0; have qz1 := bq hb lz qz1; have qz2 := bq hb lz qz2
  have lz := bl hb lz
  have qd0 := bq hb ld qd0; have qd1 := bq hb ld qd1; have qd2 := bq hb ld qd2
  have ld := bl hb ld
  have qhX0 := bq hb lhX qhX0; have qhX1 := bq hb lhX qhX1; have qhX2 := bq hb lhX qhX2
  have lhX := bl hb lhX
  have qs0 := bq hb ls qs0; have qs1 := bq hb ls qs1; have qs2 := bq hb ls qs2; have qs3 := bq hb ls qs3; have qs4 := bq hb ls qs4; have qs5 := bq hb ls qs5
  have ls := bl hb ls
  have hB := below_later hB hb
  clear hb
  go_wp2_with fail
  obtain ⟨w20, hW, hz0, hb, q, f⟩ := box1g w19 (w19.heap.size) (by omega) #[.bool (neg (q + r).num), .slice ahYU nhYU chYU, .slice ahYD nhYD chYD] 31
  rw [hW]
  clear hW
  have g1 := g1.past hb
  have g2 := g2.past hb
  have g3 := g3.past hb
  have g4 := g4.past hb
  have g5 := g5.past hb
  have g6 := g6.past hb
  have hDU := hDU.past hb
  have hDD := hDD.past hb
  have hXU := hXU.past hb
  have hXD := hXD.past hb
  have hYU := hYU.past hb
  have hYD := hYD.past hb
  have qx0 := bq hb lx qx0; have qx1 := bq hb lx qx1; have qx2 := bq hb lx qx2
  have lx := bl hb lx
  have qy0 := bq hb ly qy0; have qy1 := bq hb ly qy1; have qy2 := bq hb ly qy2
  have ly := bl hb ly
  have qz0 := bq hb lz qz0; have qz1 := bq hb lz qz1; have qz2 := bq hb lz qz2
  have lz := bl hb lz
  have qd0 := bq hb ld qd0; have qd1 := bq hb ld qd1; have qd2 := bq hb ld qd2
  have ld := bl hb ld
  have qhX0 := bq hb lhX qhX0; have qhX1 := bq hb lhX qhX1; have qhX2 := bq hb lhX qhX2
  have lhX := bl hb lhX
  have hB := below_later hB hb
  clear hb
  have lhY : w19.heap.size < w20.heap.size := by omega
  have qhY0 := q 0; have qhY1 := q 1; have qhY2 := q 2
  simp only [List.getElem?_toArray, List.getElem?_cons_zero, List.getElem?_cons_succ] at qhY0 qhY1 qhY2
  clear q f
  clear hz0
  with_reducible refine (cmp_rat hXU.toNatAt hXD.toNatAt hYU.toNatAt hYD.toNatAt (Nat.le_trans (rlen_add lp lr5) (by decide)) (Nat.le_trans (rlen_add lq lr5) (by decide))).mono ?_
  rintro e w21 ⟨rfl, hb⟩
  have g1 := g1.past hb
  have g2 := g2.past hb
  have g3 := g3.past hb
  have g4 := g4.past hb
  have g5 := g5.past hb
  have g6 := g6.past hb
  have hDU := hDU.past hb
  have hDD := hDD.past hb
  have hXU := hXU.past hb
  have hXD := hXD.past hb
  have hYU := hYU.past hb
  have hYD := hYD.past hb
  have qx0 := bq hb lx qx0; have qx1 := bq hb lx qx1; have qx2 := bq hb lx qx2
  have lx := bl hb lx
  have qy0 := bq hb ly qy0; have qy1 := bq hb ly qy1; have qy2 := bq hb ly qy2
  have ly := bl hb ly
  have qz0 := bq hb lz qz0; have qz1 := bq hb lz qz1; have qz2 := bq hb lz qz2
  have lz := bl hb lz
  have qd0 := bq hb ld qd0; have qd1 := bq hb ld qd1; have qd2 := bq hb ld qd2
  have ld := bl hb ld
  have qhX0 := bq hb lhX qhX0; have qhX1 := bq hb lhX qhX1; have qhX2 := bq hb lhX qhX2
  have lhX := bl hb lhX
  have qhY0 := bq hb lhY qhY0; have qhY1 := bq hb lhY qhY1; have qhY2 := bq hb lhY qhY2
  have lhY := bl hb lhY
  have hB := below_later hB hb
  clear hb
  rw [OO.out]
  go_wp2_with fail
  with_reducible refine (sign_c hDU.toNatAt (by omega)).mono ?_
  rintro e w22 ⟨rfl, hb⟩
  have g1 := g1.past hb
  have g2 := g2.past hb
  have g3 := g3.past hb
  have g4 := g4.past hb
  have g5 := g5.past hb
  have g6 := g6.past hb
  have hDU := hDU.past hb
  have hDD := hDD.past hb
  have qx0 := bq hb lx qx0; have qx1 := bq hb lx qx1; have qx2 := bq hb lx qx2
  have lx := bl hb lx
  have qy0 := bq hb ly qy0; have qy1 := bq hb ly qy1; have qy2 := bq hb ly qy2
  have ly := bl hb ly
  have qz0 := bq hb lz qz0; have qz1 := bq hb lz qz1; have qz2 := bq hb lz qz2
  have lz := bl hb lz
  have qd0 := bq hb ld qd0; have qd1 := bq hb ld qd1; have qd2 := bq hb ld qd2
  have ld := bl hb ld
  have hB := below_later hB hb
  clear hb
  rw [NN.out]
  go_wp2_with fail
  with_reducible refine (sameRatio_any _ _ _ _ (digs p.num.natAbs) _ _ _ (digs p.den) _ _ _ _ (digs q.num.natAbs) _ _ _ (digs q.den) _ g1 g2 g3 g4).mono ?_
  rintro e w23 ⟨rfl, hb⟩
  have g1 := g1.past hb
  have g2 := g2.past hb
  have g3 := g3.past hb
  have g4 := g4.past hb
  have g5 := g5.past hb
  have g6 := g6.past hb
  have hDU := hDU.past hb
  have hDD := hDD.past hb
  have qx0 := bq hb lx qx0; have qx1 := bq hb lx qx1; have qx2 := bq hb lx qx2
  have lx := bl hb lx
  have qy0 := bq hb ly qy0; have qy1 := bq hb ly qy1; have qy2 := bq hb ly qy2
  have ly := bl hb ly
  have qz0 := bq hb lz qz0; have qz1 := bq hb lz qz1; have qz2 := bq hb lz qz2
  have lz := bl hb lz
  have qd0 := bq hb ld qd0; have qd1 := bq hb ld qd1; have qd2 := bq hb ld qd2
  have ld := bl hb ld
  have hB := below_later hB hb
  clear hb
  rw [SS.out]
  go_wp2
  go_ret
  exact ⟨rfl, hB⟩

set_option maxRecDepth 100000 in
set_option maxHeartbeats 16000000 in
theorem ratioOrder_eq {p q r : Rat} {a1 : Option Addr} {n1 c1 : Nat} {a2 : Option Addr} {n2 c2 : Nat} {a3 : Option Addr} {n3 c3 : Nat} {a4 : Option Addr} {n4 c4 : Nat} {a5 : Option Addr} {n5 c5 : Nat} {a6 : Option Addr} {n6 c6 : Nat} {w : World} (g1 : NatAt w a1 n1 c1 (digs p.num.natAbs)) (g2 : NatAt w a2 n2 c2 (digs p.den)) (g3 : NatAt w a3 n3 c3 (digs q.num.natAbs)) (g4 : NatAt w a4 n4 c4 (digs q.den)) (g5 : NatAt w a5 n5 c5 (digs r.num.natAbs)) (g6 : NatAt w a6 n6 c6 (digs r.den)) (hs : ((digs p.num.natAbs).length ≤ 5 ∧ (digs p.den).length ≤ 5) ∧ ((digs q.num.natAbs).length ≤ 5 ∧ (digs q.den).length ≤ 5) ∧ ((digs r.num.natAbs).length ≤ 5 ∧ (digs r.den).length ≤ 5)) (hl : (longP ((neg p.num), (digs p.num.natAbs), (digs p.den)) || (longP ((neg q.num), (digs q.num.natAbs), (digs q.den)) || longP ((neg r.num), (digs r.num.natAbs), (digs r.den)))) = false) (hn : (p - q).num.sign = 0) :
    Calls Try.prog 4 #[.agg #[.bool (neg p.num), .slice a1 n1 c1, .slice a2 n2 c2], .agg #[.bool (neg q.num), .slice a3 n3 c3, .slice a4 n4 c4], .agg #[.bool (neg r.num), .slice a5 n5 c5, .slice a6 n6 c6]] w (RetVal w (.bool true)) := by
  rw [← longB3] at hl
  have gk : ∀ i, i < 3 → ((rawF [((neg p.num), (digs p.num.natAbs), (digs p.den)), ((neg q.num), (digs q.num.natAbs), (digs q.den)), ((neg r.num), (digs r.num.natAbs), (digs r.den))]) i).2.1.length ≤ 68719476736 ∧ ((rawF [((neg p.num), (digs p.num.natAbs), (digs p.den)), ((neg q.num), (digs q.num.natAbs), (digs q.den)), ((neg r.num), (digs r.num.natAbs), (digs r.den))]) i).2.2.length ≤ 68719476736 := fun i hi => by
    match i, hi with
    | 0, _ => exact ⟨Nat.le_trans hs.1.1 (by decide), Nat.le_trans hs.1.2 (by decide)⟩
    | 1, _ => exact ⟨Nat.le_trans hs.2.1.1 (by decide), Nat.le_trans hs.2.1.2 (by decide)⟩
    | 2, _ => exact ⟨Nat.le_trans hs.2.2.1 (by decide), Nat.le_trans hs.2.2.2 (by decide)⟩
  have e3 := allR3 ((neg p.num), (digs p.num.natAbs), (digs p.den)) ((neg q.num), (digs q.num.natAbs), (digs q.den)) ((neg r.num), (digs r.num.natAbs), (digs r.den))
  rw [show decide (chk3 ((neg p.num), (digs p.num.natAbs), (digs p.den)) = 0) = true from decide_eq_true (chk3_parts p), show decide (chk3 ((neg q.num), (digs q.num.natAbs), (digs q.den)) = 0) = true from decide_eq_true (chk3_parts q), show decide (chk3 ((neg r.num), (digs r.num.natAbs), (digs r.den)) = 0) = true from decide_eq_true (chk3_parts r)] at e3
  have e3 : allR (rawF [((neg p.num), (digs p.num.natAbs), (digs p.den)), ((neg q.num), (digs q.num.natAbs), (digs q.den)), ((neg r.num), (digs r.num.natAbs), (digs r.den))]) 3 = true := e3
  have lp : rlen p ≤ 5 := Nat.max_le.2 hs.1
  have lq : rlen q ≤ 5 := Nat.max_le.2 hs.2.1
  have lr5 : rlen r ≤ 5 := Nat.max_le.2 hs.2.2
  have hm : (q - p).num.sign = 0 := by rw [sgn_turn p q, hn]; try rfl
  have ho : (p + r - (q + r)).num.sign = 0 := by rw [add_sub_add]; exact hn
  have hsame : eqR (neg p.num) (digs p.num.natAbs) (digs p.den) (neg q.num) (digs q.num.natAbs) (digs q.den) = true := by rw [eqR_eqQ]; exact decide_eq_true (sgn_zero.1 hn)
  obtain ⟨k, hk⟩ : ∃ k, (q - r).num.sign = k := ⟨_, rfl⟩
  obtain ⟨l, hl9⟩ : ∃ l, (p - r).num.sign = l := ⟨_, rfl⟩
  have LB := Lib.hid hl
  have GK := Lib.hid gk
  have GB := Lib.hid e3
  have NN := Lib.hid hn
  have MM := Lib.hid hm
  have KK := Lib.hid hk
  have LL := Lib.hid hl9
  have OO := Lib.hid ho
  have SS := Lib.hid hsame
  clear hl gk e3 hn hm hk hl9 ho hsame
  go_enter Try.func4, Try.ntmps4
  have hB := Below.refl w.heap.size w
  go_wp2_with fail
  obtain ⟨w1, hW, hz0, hb, q, f⟩ := box1g w (w.heap.size) (by omega) #[.bool (neg p.num), .slice a1 n1 c1, .slice a2 n2 c2] 31
  rw [hW]
  clear hW
  have g1 := g1.past hb
  have g2 := g2.past hb
  have g3 := g3.past hb
  have g4 := g4.past hb
  have g5 := g5.past hb
  have g6 := g6.past hb
  have hB := below_later hB hb
  clear hb
  have lx : w.heap.size < w1.heap.size := by omega
  have qx0 := q 0; have qx1 := q 1; have qx2 := q 2
  simp only [List.getElem?_toArray, List.getElem?_cons_zero, List.getElem?_cons_succ] at qx0 qx1 qx2
  clear q f
  obtain ⟨w2, hW, hz1, hb, q, f⟩ := box1g w1 (w.heap.size + 1) (by omega) #[.bool (neg q.num), .slice a3 n3 c3, .slice a4 n4 c4] 31
  rw [hW]
  clear hW
  have g1 := g1.past hb
  have g2 := g2.past hb
  have g3 := g3.past hb
  have g4 := g4.past hb
  have g5 := g5.past hb
  have g6 := g6.past hb
  have qx0 := bq hb lx qx0; have qx1 := bq hb lx qx1; have qx2 := bq hb lx qx2
  have lx := bl hb lx
  have hB := below_later hB hb
  clear hb
  have ly : w.heap.size + 1 < w2.heap.size := by omega
  have qy0 := q 0; have qy1 := q 1; have qy2 := q 2
  simp only [List.getElem?_toArray, List.getElem?_cons_zero, List.getElem?_cons_succ] at qy0 qy1 qy2
  clear q f
  obtain ⟨w3, hW, hz2, hb, q, f⟩ := box1g w2 (w.heap.size + 1 + 1) (by omega) #[.bool (neg r.num), .slice a5 n5 c5, .slice a6 n6 c6] 31
  rw [hW]
  clear hW
  have g1 := g1.past hb
  have g2 := g2.past hb
  have g3 := g3.past hb
  have g4 := g4.past hb
  have g5 := g5.past hb
  have g6 := g6.past hb
  have qx0 := bq hb lx qx0; have qx1 := bq hb lx qx1; have qx2 := bq hb lx qx2
  have lx := bl hb lx
  have qy0 := bq hb ly qy0; have qy1 := bq hb ly qy1; have qy2 := bq hb ly qy2
  have ly := bl hb ly
  have hB := below_later hB hb
  clear hb
  have lz : w.heap.size + 1 + 1 < w3.heap.size := by omega
  have qz0 := q 0; have qz1 := q 1; have qz2 := q 2
  simp only [List.getElem?_toArray, List.getElem?_cons_zero, List.getElem?_cons_succ] at qz0 qz1 qz2
  clear q f
  clear hz0
  clear hz1
  clear hz2
  with_reducible refine (awake05 _).mono ?_
  rintro e w4 ⟨rfl, hb⟩
  have g1 := g1.past hb
  have g2 := g2.past hb
  have g3 := g3.past hb
  have g4 := g4.past hb
  have g5 := g5.past hb
  have g6 := g6.past hb
  have qx0 := bq hb lx qx0; have qx1 := bq hb lx qx1; have qx2 := bq hb lx qx2
  have lx := bl hb lx
  have qy0 := bq hb ly qy0; have qy1 := bq hb ly qy1; have qy2 := bq hb ly qy2
  have ly := bl hb ly
  have qz0 := bq hb lz qz0; have qz1 := bq hb lz qz1; have qz2 := bq hb lz qz2
  have lz := bl hb lz
  have hB := below_later hB hb
  clear hb
  go_wp2_with fail
  obtain ⟨w5, hW, hz0, hb, q, f⟩ := box1g w4 (w4.heap.size) (by omega) #[.bool (neg p.num), .slice a1 n1 c1, .slice a2 n2 c2, .bool (neg q.num), .slice a3 n3 c3, .slice a4 n4 c4, .bool (neg r.num), .slice a5 n5 c5, .slice a6 n6 c6] 31
  rw [hW]
  clear hW
  have g1 := g1.past hb
  have g2 := g2.past hb
  have g3 := g3.past hb
  have g4 := g4.past hb
  have g5 := g5.past hb
  have g6 := g6.past hb
  have qx0 := bq hb lx qx0; have qx1 := bq hb lx qx1; have qx2 := bq hb lx qx2
  have lx := bl hb lx
  have qy0 := bq hb ly qy0; have qy1 := bq hb ly qy1; have qy2 := bq hb ly qy2
  have ly := bl hb ly
  have qz0 := bq hb lz qz0; have qz1 := bq hb lz qz1; have qz2 := bq hb lz qz2
  have lz := bl hb lz
  have hB := below_later hB hb
  clear hb
  have ls : w4.heap.size < w5.heap.size := by omega
  have qs0 := q 0; have qs1 := q 1; have qs2 := q 2; have qs3 := q 3; have qs4 := q 4; have qs5 := q 5; have qs6 := q 6; have qs7 := q 7; have qs8 := q 8
  simp only [List.getElem?_toArray, List.getElem?_cons_zero, List.getElem?_cons_succ] at qs0 qs1 qs2 qs3 qs4 qs5 qs6 qs7 qs8
  clear q f
  clear hz0
  with_reducible refine (long05_any _ _ _ _ _ (RatsAt.raw3 (x := ((neg p.num), (digs p.num.natAbs), (digs p.den))) (y := ((neg q.num), (digs q.num.natAbs), (digs q.den))) (z := ((neg r.num), (digs r.num.natAbs), (digs r.den))) ls qs0 qs1 qs2 qs3 qs4 qs5 qs6 qs7 qs8 g1 g2 g3 g4 g5 g6)).mono ?_
  rintro e w6 ⟨rfl, hb⟩
  have g1 := g1.past hb
  have g2 := g2.past hb
  have g3 := g3.past hb
  have g4 := g4.past hb
  have g5 := g5.past hb
  have g6 := g6.past hb
  have qx0 := bq hb lx qx0; have qx1 := bq hb lx qx1; have qx2 := bq hb lx qx2
  have lx := bl hb lx
  have qy0 := bq hb ly qy0; have qy1 := bq hb ly qy1; have qy2 := bq hb ly qy2
  have ly := bl hb ly
  have qz0 := bq hb lz qz0; have qz1 := bq hb lz qz1; have qz2 := bq hb lz qz2
  have lz := bl hb lz
  have qs0 := bq hb ls qs0; have qs1 := bq hb ls qs1; have qs2 := bq hb ls qs2; have qs3 := bq hb ls qs3; have qs4 := bq hb ls qs4; have qs5 := bq hb ls qs5; have qs6 := bq hb ls qs6; have qs7 := bq hb ls qs7; have qs8 := bq hb ls qs8
  have ls := bl hb ls
  have hB := below_later hB hb
  clear hb
  rw [LB.out]
  go_wp2_with fail
  obtain ⟨w7, hW, hz0, hb, q, f⟩ := box1g w6 (w6.heap.size) (by omega) #[.bool (neg p.num), .slice a1 n1 c1, .slice a2 n2 c2, .bool (neg q.num), .slice a3 n3 c3, .slice a4 n4 c4, .bool (neg r.num), .slice a5 n5 c5, .slice a6 n6 c6] 31
  rw [hW]
  clear hW
  have g1 := g1.past hb
  have g2 := g2.past hb
  have g3 := g3.past hb
  have g4 := g4.past hb
  have g5 := g5.past hb
  have g6 := g6.past hb
  have qx0 := bq hb lx qx0; have qx1 := bq hb lx qx1; have qx2 := bq hb lx qx2
  have lx := bl hb lx
  have qy0 := bq hb ly qy0; have qy1 := bq hb ly qy1; have qy2 := bq hb ly qy2
  have ly := bl hb ly
  have qz0 := bq hb lz qz0; have qz1 := bq hb lz qz1; have qz2 := bq hb lz qz2
  have lz := bl hb lz
  have hB := below_later hB hb
  clear hb
  have ls : w6.heap.size < w7.heap.size := by omega
  have qs0 := q 0; have qs1 := q 1; have qs2 := q 2; have qs3 := q 3; have qs4 := q 4; have qs5 := q 5; have qs6 := q 6; have qs7 := q 7; have qs8 := q 8
  simp only [List.getElem?_toArray, List.getElem?_cons_zero, List.getElem?_cons_succ] at qs0 qs1 qs2 qs3 qs4 qs5 qs6 qs7 qs8
  clear q f
  clear hz0
  with_reducible refine (good05_any _ _ _ _ _ (RatsAt.raw3 (x := ((neg p.num), (digs p.num.natAbs), (digs p.den))) (y := ((neg q.num), (digs q.num.natAbs), (digs q.den))) (z := ((neg r.num), (digs r.num.natAbs), (digs r.den))) ls qs0 qs1 qs2 qs3 qs4 qs5 qs6 qs7 qs8 g1 g2 g3 g4 g5 g6) GK.out).mono ?_
  rintro e w8 ⟨rfl, hb⟩
  have g1 := g1.past hb
  have g2 := g2.past hb
  have g3 := g3.past hb
  have g4 := g4.past hb
  have g5 := g5.past hb
  have g6 := g6.past hb
  have qx0 := bq hb lx qx0; have qx1 := bq hb lx qx1; have qx2 := bq hb lx qx2
  have lx := bl hb lx
  have qy0 := bq hb ly qy0; have qy1 := bq hb ly qy1; have qy2 := bq hb ly qy2
  have ly := bl hb ly
  have qz0 := bq hb lz qz0; have qz1 := bq hb lz qz1; have qz2 := bq hb lz qz2
  have lz := bl hb lz
  have qs0 := bq hb ls qs0; have qs1 := bq hb ls qs1; have qs2 := bq hb ls qs2; have qs3 := bq hb ls qs3; have qs4 := bq hb ls qs4; have qs5 := bq hb ls qs5; have qs6 := bq hb ls qs6; have qs7 := bq hb ls qs7; have qs8 := bq hb ls qs8
  have ls := bl hb ls
  have hB := below_later hB hb
  clear hb
  rw [GB.out]
  go_wp2_with fail
  with_reducible refine (cmp_rat g1 g2 g3 g4 (Nat.le_trans lp (by decide)) (Nat.le_trans lq (by decide))).mono ?_
  rintro e w9 ⟨rfl, hb⟩
  have g1 := g1.past hb
  have g2 := g2.past hb
  have g3 := g3.past hb
  have g4 := g4.past hb
  have g5 := g5.past hb
  have g6 := g6.past hb
  have qx0 := bq hb lx qx0; have qx1 := bq hb lx qx1; have qx2 := bq hb lx qx2
  have lx := bl hb lx
  have qy0 := bq hb ly qy0; have qy1 := bq hb ly qy1; have qy2 := bq hb ly qy2
  have ly := bl hb ly
  have qz0 := bq hb lz qz0; have qz1 := bq hb lz qz1; have qz2 := bq hb lz qz2
  have lz := bl hb lz
  have hB := below_later hB hb
  clear hb
  rw [NN.out]
  go_wp2_with fail
  with_reducible refine (cmp_rat g3 g4 g1 g2 (Nat.le_trans lq (by decide)) (Nat.le_trans lp (by decide))).mono ?_
  rintro e w10 ⟨rfl, hb⟩
  have g1 := g1.past hb
  have g2 := g2.past hb
  have g3 := g3.past hb
  have g4 := g4.past hb
  have g5 := g5.past hb
  have g6 := g6.past hb
  have qx0 := bq hb lx qx0; have qx1 := bq hb lx qx1; have qx2 := bq hb lx qx2
  have lx := bl hb lx
  have qy0 := bq hb ly qy0; have qy1 := bq hb ly qy1; have qy2 := bq hb ly qy2
  have ly := bl hb ly
  have qz0 := bq hb lz qz0; have qz1 := bq hb lz qz1; have qz2 := bq hb lz qz2
  have lz := bl hb lz
  have hB := below_later hB hb
  clear hb
  rw [MM.out]
  go_wp2_with fail
  with_reducible refine (cmp_rat g3 g4 g5 g6 (Nat.le_trans lq (by decide)) (Nat.le_trans lr5 (by decide))).mono ?_
  rintro e w11 ⟨rfl, hb⟩
  have g1 := g1.past hb
  have g2 := g2.past hb
  have g3 := g3.past hb
  have g4 := g4.past hb
  have g5 := g5.past hb
  have g6 := g6.past hb
  have qx0 := bq hb lx qx0; have qx1 := bq hb lx qx1; have qx2 := bq hb lx qx2
  have lx := bl hb lx
  have qy0 := bq hb ly qy0; have qy1 := bq hb ly qy1; have qy2 := bq hb ly qy2
  have ly := bl hb ly
  have qz0 := bq hb lz qz0; have qz1 := bq hb lz qz1; have qz2 := bq hb lz qz2
  have lz := bl hb lz
  have hB := below_later hB hb
  clear hb
  rw [KK.out]
  go_wp2_with fail
  with_reducible refine (cmp_rat g1 g2 g5 g6 (Nat.le_trans lp (by decide)) (Nat.le_trans lr5 (by decide))).mono ?_
  rintro e w12 ⟨rfl, hb⟩
  have g1 := g1.past hb
  have g2 := g2.past hb
  have g3 := g3.past hb
  have g4 := g4.past hb
  have g5 := g5.past hb
  have g6 := g6.past hb
  have qx0 := bq hb lx qx0; have qx1 := bq hb lx qx1; have qx2 := bq hb lx qx2
  have lx := bl hb lx
  have qy0 := bq hb ly qy0; have qy1 := bq hb ly qy1; have qy2 := bq hb ly qy2
  have ly := bl hb ly
  have qz0 := bq hb lz qz0; have qz1 := bq hb lz qz1; have qz2 := bq hb lz qz2
  have lz := bl hb lz
  have hB := below_later hB hb
  clear hb
  rw [LL.out]
  go_wp2_with fail
  with_reducible refine (sub_rat g1 g2 g3 g4 (Nat.le_trans lp (by decide)) (Nat.le_trans lq (by decide))).mono ?_
  rintro e w13 ⟨ahDU, nhDU, chDU, ahDD, nhDD, chDD, rfl, hDU, hDD, hb⟩
  have g1 := g1.past hb
  have g2 := g2.past hb
  have g3 := g3.past hb
  have g4 := g4.past hb
  have g5 := g5.past hb
  have g6 := g6.past hb
  have qx0 := bq hb lx qx0; have qx1 := bq hb lx qx1; have qx2 := bq hb lx qx2
  have lx := bl hb lx
  have qy0 := bq hb ly qy0; have qy1 := bq hb ly qy1; have qy2 := bq hb ly qy2
  have ly := bl hb ly
  have qz0 := bq hb lz qz0; have qz1 := bq hb lz qz1; have qz2 := bq hb lz qz2
  have lz := bl hb lz
  have hB := below_later hB hb
  clear hb
  have bD : nhDU ≤ 11 := by rw [← hDU.len]; exact rlen_up (rlen_sub lp lq)
  go_wp2_with fail
  obtain ⟨w14, hW, hz0, hb, q, f⟩ := box1g w13 (w13.heap.size) (by omega) #[.bool (neg (p - q).num), .slice ahDU nhDU chDU, .slice ahDD nhDD chDD] 31
  rw [hW]
  clear hW
  have g1 := g1.past hb
  have g2 := g2.past hb
  have g3 := g3.past hb
  have g4 := g4.past hb
  have g5 := g5.past hb
  have g6 := g6.past hb
  have hDU := hDU.past hb
  have hDD := hDD.past hb
  have qx0 := bq hb lx qx0; have qx1 := bq hb lx qx1; have qx2 := bq hb lx qx2
  have lx := bl hb lx
  have qy0 := bq hb ly qy0; have qy1 := bq hb ly qy1; have qy2 := bq hb ly qy2
  have ly := bl hb ly
  have qz0 := bq hb lz qz0; have qz1 := bq hb lz qz1; have qz2 := bq hb lz qz2
  have lz := bl hb lz
  have hB := below_later hB hb
  clear hb
  have ld : w13.heap.size < w14.heap.size := by omega
  have qd0 := q 0; have qd1 := q 1; have qd2 := q 2
  simp only [List.getElem?_toArray, List.getElem?_cons_zero, List.getElem?_cons_succ] at qd0 qd1 qd2
  clear q f
  obtain ⟨w15, hW, hz1, hb, q, f⟩ := box1g w14 (w13.heap.size + 1) (by omega) #[.bool (neg p.num), .slice a1 n1 c1, .slice a2 n2 c2, .bool (neg r.num), .slice a5 n5 c5, .slice a6 n6 c6] 31
  rw [hW]
  clear hW
  have g1 := g1.past hb
  have g2 := g2.past hb
  have g3 := g3.past hb
  have g4 := g4.past hb
  have g5 := g5.past hb
  have g6 := g6.past hb
  have hDU := hDU.past hb
  have hDD := hDD.past hb
  have qx0 := bq hb lx qx0; have qx1 := bq hb lx qx1; have qx2 := bq hb lx qx2
  have lx := bl hb lx
  have qy0 := bq hb ly qy0; have qy1 := bq hb ly qy1; have qy2 := bq hb ly qy2
  have ly := bl hb ly
  have qz0 := bq hb lz qz0; have qz1 := bq hb lz qz1; have qz2 := bq hb lz qz2
  have lz := bl hb lz
  have qd0 := bq hb ld qd0; have qd1 := bq hb ld qd1; have qd2 := bq hb ld qd2
  have ld := bl hb ld
  have hB := below_later hB hb
  clear hb
  have ls : w13.heap.size + 1 < w15.heap.size := by omega
  have qs0 := q 0; have qs1 := q 1; have qs2 := q 2; have qs3 := q 3; have qs4 := q 4; have qs5 := q 5
  simp only [List.getElem?_toArray, List.getElem?_cons_zero, List.getElem?_cons_succ] at qs0 qs1 qs2 qs3 qs4 qs5
  clear q f
  clear hz0
  clear hz1
  with_reducible refine (add_two (RatsAt.two ls qs0 qs1 qs2 qs3 qs4 qs5 g1 g2 g5 g6) (Nat.le_trans lp (by decide)) (Nat.le_trans lr5 (by decide))).mono ?_
  rintro e w16 ⟨ahXU, nhXU, chXU, ahXD, nhXD, chXD, rfl, hXU, hXD, hb⟩
  have g1 := g1.past hb
  have g2 := g2.past hb
  have g3 := g3.past hb
  have g4 := g4.past hb
  have g5 := g5.past hb
  have g6 := g6.past hb
  have hDU := hDU.past hb
  have hDD := hDD.past hb
  have qx0 := bq hb lx qx0; have qx1 := bq hb lx qx1; have qx2 := bq hb lx qx2
  have lx := bl hb lx
  have qy0 := bq hb ly qy0; have qy1 := bq hb ly qy1; have qy2 := bq hb ly qy2
  have ly := bl hb ly
  have qz0 := bq hb lz qz0; have qz1 := bq hb lz qz1; have qz2 := bq hb lz qz2
  have lz := bl hb lz
  have qd0 := bq hb ld qd0; have qd1 := bq hb ld qd1; have qd2 := bq hb ld qd2
  have ld := bl hb ld
  have qs0 := bq hb ls qs0; have qs1 := bq hb ls qs1; have qs2 := bq hb ls qs2; have qs3 := bq hb ls qs3; have qs4 := bq hb ls qs4; have qs5 := bq hb ls qs5
  have ls := bl hb ls
  have hB := below_later hB hb
  clear hb
  go_wp2_with fail
  obtain ⟨w17, hW, hz0, hb, q, f⟩ := box1g w16 (w16.heap.size) (by omega) #[.bool (neg (p + r).num), .slice ahXU nhXU chXU, .slice ahXD nhXD chXD] 31
  rw [hW]
  clear hW
  have g1 := g1.past hb
  have g2 := g2.past hb
  have g3 := g3.past hb
  have g4 := g4.past hb
  have g5 := g5.past hb
  have g6 := g6.past hb
  have hDU := hDU.past hb
  have hDD := hDD.past hb
  have hXU := hXU.past hb
  have hXD := hXD.past hb
  have qx0 := bq hb lx qx0; have qx1 := bq hb lx qx1; have qx2 := bq hb lx qx2
  have lx := bl hb lx
  have qy0 := bq hb ly qy0; have qy1 := bq hb ly qy1; have qy2 := bq hb ly qy2
  have ly := bl hb ly
  have qz0 := bq hb lz qz0; have qz1 := bq hb lz qz1; have qz2 := bq hb lz qz2
  have lz := bl hb lz
  have qd0 := bq hb ld qd0; have qd1 := bq hb ld qd1; have qd2 := bq hb ld qd2
  have ld := bl hb ld
  have hB := below_later hB hb
  clear hb
  have lhX : w16.heap.size < w17.heap.size := by omega
  have qhX0 := q 0; have qhX1 := q 1; have qhX2 := q 2
  simp only [List.getElem?_toArray, List.getElem?_cons_zero, List.getElem?_cons_succ] at qhX0 qhX1 qhX2
  clear q f
  obtain ⟨w18, hW, hz1, hb, q, f⟩ := box1g w17 (w16.heap.size + 1) (by omega) #[.bool (neg q.num), .slice a3 n3 c3, .slice a4 n4 c4, .bool (neg r.num), .slice a5 n5 c5, .slice a6 n6 c6] 31
  rw [hW]
  clear hW
  have g1 := g1.past hb
  have g2 := g2.past hb
  have g3 := g3.past hb
  have g4 := g4.past hb
  have g5 := g5.past hb
  have g6 := g6.past hb
  have hDU := hDU.past hb
  have hDD := hDD.past hb
  have hXU := hXU.past hb
  have hXD := hXD.past hb
  have qx0 := bq hb lx qx0; have qx1 := bq hb lx qx1; have qx2 := bq hb lx qx2
  have lx := bl hb lx
  have qy0 := bq hb ly qy0; have qy1 := bq hb ly qy1; have qy2 := bq hb ly qy2
  have ly := bl hb ly
  have qz0 := bq hb lz qz0; have qz1 := bq hb lz qz1; have qz2 := bq hb lz qz2
  have lz := bl hb lz
  have qd0 := bq hb ld qd0; have qd1 := bq hb ld qd1; have qd2 := bq hb ld qd2
  have ld := bl hb ld
  have qhX0 := bq hb lhX qhX0; have qhX1 := bq hb lhX qhX1; have qhX2 := bq hb lhX qhX2
  have lhX := bl hb lhX
  have hB := below_later hB hb
  clear hb
  have ls : w16.heap.size + 1 < w18.heap.size := by omega
  have qs0 := q 0; have qs1 := q 1; have qs2 := q 2; have qs3 := q 3; have qs4 := q 4; have qs5 := q 5
  simp only [List.getElem?_toArray, List.getElem?_cons_zero, List.getElem?_cons_succ] at qs0 qs1 qs2 qs3 qs4 qs5
  clear q f
  clear hz0
  clear hz1
  with_reducible refine (add_two (RatsAt.two ls qs0 qs1 qs2 qs3 qs4 qs5 g3 g4 g5 g6) (Nat.le_trans lq (by decide)) (Nat.le_trans lr5 (by decide))).mono ?_
  rintro e w19 ⟨ahYU, nhYU, chYU, ahYD, nhYD, chYD, rfl, hYU, hYD, hb⟩
  have g1 := g1.past hb
  have g2 := g2.past hb
  have g3 := g3.past hb
  have g4 := g4.past hb
  have g5 := g5.past hb
  have g6 := g6.past hb
  have hDU := hDU.past hb
  have hDD := hDD.past hb
  have hXU := hXU.past hb
  have hXD := hXD.past hb
  have qx0 := bq hb lx qx0; have qx1 := bq hb lx qx1; have qx2 := bq hb lx qx2
  have lx := bl hb lx
  have qy0 := bq hb ly qy0; have qy1 := bq hb ly qy1; have qy2 := bq hb ly qy2
  have ly := bl hb ly
  have qz0 := bq hb lz qz0; have qz1 := bq hb lz qz1; have qz2 := bq hb lz qz2
  have lz := bl hb lz
  have qd0 := bq hb ld qd0; have qd1 := bq hb ld qd1; have qd2 := bq hb ld qd2
  have ld := bl hb ld
  have qhX0 := bq hb lhX qhX0; have qhX1 := bq hb lhX qhX1; have qhX2 := bq hb lhX qhX2
  have lhX := bl hb lhX
  have qs0 := bq hb ls qs0; have qs1 := bq hb ls qs1; have qs2 := bq hb ls qs2; have qs3 := bq hb ls qs3; have qs4 := bq hb ls qs4; have qs5 := bq hb ls qs5
  have ls := bl hb ls
  have hB := below_later hB hb
  clear hb
  go_wp2_with fail
  obtain ⟨w20, hW, hz0, hb, q, f⟩ := box1g w19 (w19.heap.size) (by omega) #[.bool (neg (q + r).num), .slice ahYU nhYU chYU, .slice ahYD nhYD chYD] 31
  rw [hW]
  clear hW
  have g1 := g1.past hb
  have g2 := g2.past hb
  have g3 := g3.past hb
  have g4 := g4.past hb
  have g5 := g5.past hb
  have g6 := g6.past hb
  have hDU := hDU.past hb
  have hDD := hDD.past hb
  have hXU := hXU.past hb
  have hXD := hXD.past hb
  have hYU := hYU.past hb
  have hYD := hYD.past hb
  have qx0 := bq hb lx qx0; have qx1 := bq hb lx qx1; have qx2 := bq hb lx qx2
  have lx := bl hb lx
  have qy0 := bq hb ly qy0; have qy1 := bq hb ly qy1; have qy2 := bq hb ly qy2
  have ly := bl hb ly
  have qz0 := bq hb lz qz0; have qz1 := bq hb lz qz1; have qz2 := bq hb lz qz2
  have lz := bl hb lz
  have qd0 := bq hb ld qd0; have qd1 := bq hb ld qd1; have qd2 := bq hb ld qd2
  have ld := bl hb ld
  have qhX0 := bq hb lhX qhX0; have qhX1 := bq hb lhX qhX1; have qhX2 := bq hb lhX qhX2
  have lhX := bl hb lhX
  have hB := below_later hB hb
  clear hb
  have lhY : w19.heap.size < w20.heap.size := by omega
  have qhY0 := q 0; have qhY1 := q 1; have qhY2 := q 2
  simp only [List.getElem?_toArray, List.getElem?_cons_zero, List.getElem?_cons_succ] at qhY0 qhY1 qhY2
  clear q f
  clear hz0
  with_reducible refine (cmp_rat hXU.toNatAt hXD.toNatAt hYU.toNatAt hYD.toNatAt (Nat.le_trans (rlen_add lp lr5) (by decide)) (Nat.le_trans (rlen_add lq lr5) (by decide))).mono ?_
  rintro e w21 ⟨rfl, hb⟩
  have g1 := g1.past hb
  have g2 := g2.past hb
  have g3 := g3.past hb
  have g4 := g4.past hb
  have g5 := g5.past hb
  have g6 := g6.past hb
  have hDU := hDU.past hb
  have hDD := hDD.past hb
  have hXU := hXU.past hb
  have hXD := hXD.past hb
  have hYU := hYU.past hb
  have hYD := hYD.past hb
  have qx0 := bq hb lx qx0; have qx1 := bq hb lx qx1; have qx2 := bq hb lx qx2
  have lx := bl hb lx
  have qy0 := bq hb ly qy0; have qy1 := bq hb ly qy1; have qy2 := bq hb ly qy2
  have ly := bl hb ly
  have qz0 := bq hb lz qz0; have qz1 := bq hb lz qz1; have qz2 := bq hb lz qz2
  have lz := bl hb lz
  have qd0 := bq hb ld qd0; have qd1 := bq hb ld qd1; have qd2 := bq hb ld qd2
  have ld := bl hb ld
  have qhX0 := bq hb lhX qhX0; have qhX1 := bq hb lhX qhX1; have qhX2 := bq hb lhX qhX2
  have lhX := bl hb lhX
  have qhY0 := bq hb lhY qhY0; have qhY1 := bq hb lhY qhY1; have qhY2 := bq hb lhY qhY2
  have lhY := bl hb lhY
  have hB := below_later hB hb
  clear hb
  rw [OO.out]
  go_wp2_with fail
  with_reducible refine (sign_c hDU.toNatAt (by omega)).mono ?_
  rintro e w22 ⟨rfl, hb⟩
  have g1 := g1.past hb
  have g2 := g2.past hb
  have g3 := g3.past hb
  have g4 := g4.past hb
  have g5 := g5.past hb
  have g6 := g6.past hb
  have hDU := hDU.past hb
  have hDD := hDD.past hb
  have qx0 := bq hb lx qx0; have qx1 := bq hb lx qx1; have qx2 := bq hb lx qx2
  have lx := bl hb lx
  have qy0 := bq hb ly qy0; have qy1 := bq hb ly qy1; have qy2 := bq hb ly qy2
  have ly := bl hb ly
  have qz0 := bq hb lz qz0; have qz1 := bq hb lz qz1; have qz2 := bq hb lz qz2
  have lz := bl hb lz
  have qd0 := bq hb ld qd0; have qd1 := bq hb ld qd1; have qd2 := bq hb ld qd2
  have ld := bl hb ld
  have hB := below_later hB hb
  clear hb
  rw [NN.out]
  go_wp2_with fail
  with_reducible refine (sameRatio_any _ _ _ _ (digs p.num.natAbs) _ _ _ (digs p.den) _ _ _ _ (digs q.num.natAbs) _ _ _ (digs q.den) _ g1 g2 g3 g4).mono ?_
  rintro e w23 ⟨rfl, hb⟩
  have g1 := g1.past hb
  have g2 := g2.past hb
  have g3 := g3.past hb
  have g4 := g4.past hb
  have g5 := g5.past hb
  have g6 := g6.past hb
  have hDU := hDU.past hb
  have hDD := hDD.past hb
  have qx0 := bq hb lx qx0; have qx1 := bq hb lx qx1; have qx2 := bq hb lx qx2
  have lx := bl hb lx
  have qy0 := bq hb ly qy0; have qy1 := bq hb ly qy1; have qy2 := bq hb ly qy2
  have ly := bl hb ly
  have qz0 := bq hb lz qz0; have qz1 := bq hb lz qz1; have qz2 := bq hb lz qz2
  have lz := bl hb lz
  have qd0 := bq hb ld qd0; have qd1 := bq hb ld qd1; have qd2 := bq hb ld qd2
  have ld := bl hb ld
  have hB := below_later hB hb
  clear hb
  rw [SS.out]
  go_wp2
  go_ret
  exact ⟨rfl, hB⟩

set_option maxRecDepth 100000 in
set_option maxHeartbeats 16000000 in
theorem ratioOrder_lt1 {p q r : Rat} {a1 : Option Addr} {n1 c1 : Nat} {a2 : Option Addr} {n2 c2 : Nat} {a3 : Option Addr} {n3 c3 : Nat} {a4 : Option Addr} {n4 c4 : Nat} {a5 : Option Addr} {n5 c5 : Nat} {a6 : Option Addr} {n6 c6 : Nat} {w : World} (g1 : NatAt w a1 n1 c1 (digs p.num.natAbs)) (g2 : NatAt w a2 n2 c2 (digs p.den)) (g3 : NatAt w a3 n3 c3 (digs q.num.natAbs)) (g4 : NatAt w a4 n4 c4 (digs q.den)) (g5 : NatAt w a5 n5 c5 (digs r.num.natAbs)) (g6 : NatAt w a6 n6 c6 (digs r.den)) (hs : ((digs p.num.natAbs).length ≤ 5 ∧ (digs p.den).length ≤ 5) ∧ ((digs q.num.natAbs).length ≤ 5 ∧ (digs q.den).length ≤ 5) ∧ ((digs r.num.natAbs).length ≤ 5 ∧ (digs r.den).length ≤ 5)) (hl : (longP ((neg p.num), (digs p.num.natAbs), (digs p.den)) || (longP ((neg q.num), (digs q.num.natAbs), (digs q.den)) || longP ((neg r.num), (digs r.num.natAbs), (digs r.den)))) = false) (hn : (p - q).num.sign = -1) (hk : (q - r).num.sign = 1) :
    Calls Try.prog 4 #[.agg #[.bool (neg p.num), .slice a1 n1 c1, .slice a2 n2 c2], .agg #[.bool (neg q.num), .slice a3 n3 c3, .slice a4 n4 c4], .agg #[.bool (neg r.num), .slice a5 n5 c5, .slice a6 n6 c6]] w (RetVal w (.bool true)) := by
  rw [← longB3] at hl
  have gk : ∀ i, i < 3 → ((rawF [((neg p.num), (digs p.num.natAbs), (digs p.den)), ((neg q.num), (digs q.num.natAbs), (digs q.den)), ((neg r.num), (digs r.num.natAbs), (digs r.den))]) i).2.1.length ≤ 68719476736 ∧ ((rawF [((neg p.num), (digs p.num.natAbs), (digs p.den)), ((neg q.num), (digs q.num.natAbs), (digs q.den)), ((neg r.num), (digs r.num.natAbs), (digs r.den))]) i).2.2.length ≤ 68719476736 := fun i hi => by
    match i, hi with
    | 0, _ => exact ⟨Nat.le_trans hs.1.1 (by decide), Nat.le_trans hs.1.2 (by decide)⟩
    | 1, _ => exact ⟨Nat.le_trans hs.2.1.1 (by decide), Nat.le_trans hs.2.1.2 (by decide)⟩
    | 2, _ => exact ⟨Nat.le_trans hs.2.2.1 (by decide), Nat.le_trans hs.2.2.2 (by decide)⟩
  have e3 := allR3 ((neg p.num), (digs p.num.natAbs), (digs p.den)) ((neg q.num), (digs q.num.natAbs), (digs q.den)) ((neg r.num), (digs r.num.natAbs), (digs r.den))
  rw [show decide (chk3 ((neg p.num), (digs p.num.natAbs), (digs p.den)) = 0) = true from decide_eq_true (chk3_parts p), show decide (chk3 ((neg q.num), (digs q.num.natAbs), (digs q.den)) = 0) = true from decide_eq_true (chk3_parts q), show decide (chk3 ((neg r.num), (digs r.num.natAbs), (digs r.den)) = 0) = true from decide_eq_true (chk3_parts r)] at e3
  have e3 : allR (rawF [((neg p.num), (digs p.num.natAbs), (digs p.den)), ((neg q.num), (digs q.num.natAbs), (digs q.den)), ((neg r.num), (digs r.num.natAbs), (digs r.den))]) 3 = true := e3
  have lp : rlen p ≤ 5 := Nat.max_le.2 hs.1
  have lq : rlen q ≤ 5 := Nat.max_le.2 hs.2.1
  have lr5 : rlen r ≤ 5 := Nat.max_le.2 hs.2.2
  have hm : (q - p).num.sign = 1 := by rw [sgn_turn p q, hn]; try rfl
  have ho : (p + r - (q + r)).num.sign = -1 := by rw [add_sub_add]; exact hn
  have hsame : eqR (neg p.num) (digs p.num.natAbs) (digs p.den) (neg q.num) (digs q.num.natAbs) (digs q.den) = false := by rw [eqR_eqQ]; exact decide_eq_false fun e => by rw [sgn_zero.2 e] at hn; exact absurd hn (by decide)
  obtain ⟨l, hl9⟩ : ∃ l, (p - r).num.sign = l := ⟨_, rfl⟩
  have LB := Lib.hid hl
  have GK := Lib.hid gk
  have GB := Lib.hid e3
  have NN := Lib.hid hn
  have MM := Lib.hid hm
  have KK := Lib.hid hk
  have LL := Lib.hid hl9
  have OO := Lib.hid ho
  have SS := Lib.hid hsame
  clear hl gk e3 hn hm hk hl9 ho hsame
  go_enter Try.func4, Try.ntmps4
  have hB := Below.refl w.heap.size w
  go_wp2_with fail
  obtain ⟨w1, hW, hz0, hb, q, f⟩ := box1g w (w.heap.size) (by omega) #[.bool (neg p.num), .slice a1 n1 c1, .slice a2 n2 c2] 31
  rw [hW]
  clear hW
  have g1 := g1.past hb
  have g2 := g2.past hb
  have g3 := g3.past hb
  have g4 := g4.past hb
  have g5 := g5.past hb
  have g6 := g6.past hb
  have hB := below_later hB hb
  clear hb
  have lx : w.heap.size < w1.heap.size := by omega
  have qx0 := q 0; have qx1 := q 1; have qx2 := q 2
  simp only [List.getElem?_toArray, List.getElem?_cons_zero, List.getElem?_cons_succ] at qx0 qx1 qx2
  clear q f
  obtain ⟨w2, hW, hz1, hb, q, f⟩ := box1g w1 (w.heap.size + 1) (by omega) #[.bool (neg q.num), .slice a3 n3 c3, .slice a4 n4 c4] 31
  rw [hW]
  clear hW
  have g1 := g1.past hb
  have g2 := g2.past hb
  have g3 := g3.past hb
  have g4 := g4.past hb
  have g5 := g5.past hb
  have g6 := g6.past hb
  have qx0 := bq hb lx qx0; have qx1 := bq hb lx qx1; have qx2 := bq hb lx qx2
  have lx := bl hb lx
  have hB := below_later hB hb
  clear hb
  have ly : w.heap.size + 1 < w2.heap.size := by omega
  have qy0 := q 0; have qy1 := q 1; have qy2 := q 2
  simp only [List.getElem?_toArray, List.getElem?_cons_zero, List.getElem?_cons_succ] at qy0 qy1 qy2
  clear q f
  obtain ⟨w3, hW, hz2, hb, q, f⟩ := box1g w2 (w.heap.size + 1 + 1) (by omega) #[.bool (neg r.num), .slice a5 n5 c5, .slice a6 n6 c6] 31
  rw [hW]
  clear hW
  have g1 := g1.past hb
  have g2 := g2.past hb
  have g3 := g3.past hb
  have g4 := g4.past hb
  have g5 := g5.past hb
  have g6 := g6.past hb
  have qx0 := bq hb lx qx0; have qx1 := bq hb lx qx1; have qx2 := bq hb lx qx2
  have lx := bl hb lx
  have qy0 := bq hb ly qy0; have qy1 := bq hb ly qy1; have qy2 := bq hb ly qy2
  have ly := bl hb ly
  have hB := below_later hB hb
  clear hb
  have lz : w.heap.size + 1 + 1 < w3.heap.size := by omega
  have qz0 := q 0; have qz1 := q 1; have qz2 := q 2
  simp only [List.getElem?_toArray, List.getElem?_cons_zero, List.getElem?_cons_succ] at qz0 qz1 qz2
  clear q f
  clear hz0
  clear hz1
  clear hz2
  with_reducible refine (awake05 _).mono ?_
  rintro e w4 ⟨rfl, hb⟩
  have g1 := g1.past hb
  have g2 := g2.past hb
  have g3 := g3.past hb
  have g4 := g4.past hb
  have g5 := g5.past hb
  have g6 := g6.past hb
  have qx0 := bq hb lx qx0; have qx1 := bq hb lx qx1; have qx2 := bq hb lx qx2
  have lx := bl hb lx
  have qy0 := bq hb ly qy0; have qy1 := bq hb ly qy1; have qy2 := bq hb ly qy2
  have ly := bl hb ly
  have qz0 := bq hb lz qz0; have qz1 := bq hb lz qz1; have qz2 := bq hb lz qz2
  have lz := bl hb lz
  have hB := below_later hB hb
  clear hb
  go_wp2_with fail
  obtain ⟨w5, hW, hz0, hb, q, f⟩ := box1g w4 (w4.heap.size) (by omega) #[.bool (neg p.num), .slice a1 n1 c1, .slice a2 n2 c2, .bool (neg q.num), .slice a3 n3 c3, .slice a4 n4 c4, .bool (neg r.num), .slice a5 n5 c5, .slice a6 n6 c6] 31
  rw [hW]
  clear hW
  have g1 := g1.past hb
  have g2 := g2.past hb
  have g3 := g3.past hb
  have g4 := g4.past hb
  have g5 := g5.past hb
  have g6 := g6.past hb
  have qx0 := bq hb lx qx0; have qx1 := bq hb lx qx1; have qx2 := bq hb lx qx2
  have lx := bl hb lx
  have qy0 := bq hb ly qy0; have qy1 := bq hb ly qy1; have qy2 := bq hb ly qy2
  have ly := bl hb ly
  have qz0 := bq hb lz qz0; have qz1 := bq hb lz qz1; have qz2 := bq hb lz qz2
  have lz := bl hb lz
  have hB := below_later hB hb
  clear hb
  have ls : w4.heap.size < w5.heap.size := by omega
  have qs0 := q 0; have qs1 := q 1; have qs2 := q 2; have qs3 := q 3; have qs4 := q 4; have qs5 := q 5; have qs6 := q 6; have qs7 := q 7; have qs8 := q 8
  simp only [List.getElem?_toArray, List.getElem?_cons_zero, List.getElem?_cons_succ] at qs0 qs1 qs2 qs3 qs4 qs5 qs6 qs7 qs8
  clear q f
  clear hz0
  with_reducible refine (long05_any _ _ _ _ _ (RatsAt.raw3 (x := ((neg p.num), (digs p.num.natAbs), (digs p.den))) (y := ((neg q.num), (digs q.num.natAbs), (digs q.den))) (z := ((neg r.num), (digs r.num.natAbs), (digs r.den))) ls qs0 qs1 qs2 qs3 qs4 qs5 qs6 qs7 qs8 g1 g2 g3 g4 g5 g6)).mono ?_
  rintro e w6 ⟨rfl, hb⟩
  have g1 := g1.past hb
  have g2 := g2.past hb
  have g3 := g3.past hb
  have g4 := g4.past hb
  have g5 := g5.past hb
  have g6 := g6.past hb
  have qx0 := bq hb lx qx0; have qx1 := bq hb lx qx1; have qx2 := bq hb lx qx2
  have lx := bl hb lx
  have qy0 := bq hb ly qy0; have qy1 := bq hb ly qy1; have qy2 := bq hb ly qy2
  have ly := bl hb ly
  have qz0 := bq hb lz qz0; have qz1 := bq hb lz qz1; have qz2 := bq hb lz qz2
  have lz := bl hb lz
  have qs0 := bq hb ls qs0; have qs1 := bq hb ls qs1; have qs2 := bq hb ls qs2; have qs3 := bq hb ls qs3; have qs4 := bq hb ls qs4; have qs5 := bq hb ls qs5; have qs6 := bq hb ls qs6; have qs7 := bq hb ls qs7; have qs8 := bq hb ls qs8
  have ls := bl hb ls
  have hB := below_later hB hb
  clear hb
  rw [LB.out]
  go_wp2_with fail
  obtain ⟨w7, hW, hz0, hb, q, f⟩ := box1g w6 (w6.heap.size) (by omega) #[.bool (neg p.num), .slice a1 n1 c1, .slice a2 n2 c2, .bool (neg q.num), .slice a3 n3 c3, .slice a4 n4 c4, .bool (neg r.num), .slice a5 n5 c5, .slice a6 n6 c6] 31
  rw [hW]
  clear hW
  have g1 := g1.past hb
  have g2 := g2.past hb
  have g3 := g3.past hb
  have g4 := g4.past hb
  have g5 := g5.past hb
  have g6 := g6.past hb
  have qx0 := bq hb lx qx0; have qx1 := bq hb lx qx1; have qx2 := bq hb lx qx2
  have lx := bl hb lx
  have qy0 := bq hb ly qy0; have qy1 := bq hb ly qy1; have qy2 := bq hb ly qy2
  have ly := bl hb ly
  have qz0 := bq hb lz qz0; have qz1 := bq hb lz qz1; have qz2 := bq hb lz qz2
  have lz := bl hb lz
  have hB := below_later hB hb
  clear hb
  have ls : w6.heap.size < w7.heap.size := by omega
  have qs0 := q 0; have qs1 := q 1; have qs2 := q 2; have qs3 := q 3; have qs4 := q 4; have qs5 := q 5; have qs6 := q 6; have qs7 := q 7; have qs8 := q 8
  simp only [List.getElem?_toArray, List.getElem?_cons_zero, List.getElem?_cons_succ] at qs0 qs1 qs2 qs3 qs4 qs5 qs6 qs7 qs8
  clear q f
  clear hz0
  with_reducible refine (good05_any _ _ _ _ _ (RatsAt.raw3 (x := ((neg p.num), (digs p.num.natAbs), (digs p.den))) (y := ((neg q.num), (digs q.num.natAbs), (digs q.den))) (z := ((neg r.num), (digs r.num.natAbs), (digs r.den))) ls qs0 qs1 qs2 qs3 qs4 qs5 qs6 qs7 qs8 g1 g2 g3 g4 g5 g6) GK.out).mono ?_
  rintro e w8 ⟨rfl, hb⟩
  have g1 := g1.past hb
  have g2 := g2.past hb
  have g3 := g3.past hb
  have g4 := g4.past hb
  have g5 := g5.past hb
  have g6 := g6.past hb
  have qx0 := bq hb lx qx0; have qx1 := bq hb lx qx1; have qx2 := bq hb lx qx2
  have lx := bl hb lx
  have qy0 := bq hb ly qy0; have qy1 := bq hb ly qy1; have qy2 := bq hb ly qy2
  have ly := bl hb ly
  have qz0 := bq hb lz qz0; have qz1 := bq hb lz qz1; have qz2 := bq hb lz qz2
  have lz := bl hb lz
  have qs0 := bq hb ls qs0; have qs1 := bq hb ls qs1; have qs2 := bq hb ls qs2; have qs3 := bq hb ls qs3; have qs4 := bq hb ls qs4; have qs5 := bq hb ls qs5; have qs6 := bq hb ls qs6; have qs7 := bq hb ls qs7; have qs8 := bq hb ls qs8
  have ls := bl hb ls
  have hB := below_later hB hb
  clear hb
  rw [GB.out]
  go_wp2_with fail
  with_reducible refine (cmp_rat g1 g2 g3 g4 (Nat.le_trans lp (by decide)) (Nat.le_trans lq (by decide))).mono ?_
  rintro e w9 ⟨rfl, hb⟩
  have g1 := g1.past hb
  have g2 := g2.past hb
  have g3 := g3.past hb
  have g4 := g4.past hb
  have g5 := g5.past hb
  have g6 := g6.past hb
  have qx0 := bq hb lx qx0; have qx1 := bq hb lx qx1; have qx2 := bq hb lx qx2
  have lx := bl hb lx
  have qy0 := bq hb ly qy0; have qy1 := bq hb ly qy1; have qy2 := bq hb ly qy2
  have ly := bl hb ly
  have qz0 := bq hb lz qz0; have qz1 := bq hb lz qz1; have qz2 := bq hb lz qz2
  have lz := bl hb lz
  have hB := below_later hB hb
  clear hb
  rw [NN.out]
  go_wp2_with fail
  with_reducible refine (cmp_rat g3 g4 g1 g2 (Nat.le_trans lq (by decide)) (Nat.le_trans lp (by decide))).mono ?_
  rintro e w10 ⟨rfl, hb⟩
  have g1 := g1.past hb
  have g2 := g2.past hb
  have g3 := g3.past hb
  have g4 := g4.past hb
  have g5 := g5.past hb
  have g6 := g6.past hb
  have qx0 := bq hb lx qx0; have qx1 := bq hb lx qx1; have qx2 := bq hb lx qx2
  have lx := bl hb lx
  have qy0 := bq hb ly qy0; have qy1 := bq hb ly qy1; have qy2 := bq hb ly qy2
  have ly := bl hb ly
  have qz0 := bq hb lz qz0; have qz1 := bq hb lz qz1; have qz2 := bq hb lz qz2
  have lz := bl hb lz
  have hB := below_later hB hb
  clear hb
  rw [MM.out]
  go_wp2_with fail
  with_reducible refine (cmp_rat g3 g4 g5 g6 (Nat.le_trans lq (by decide)) (Nat.le_trans lr5 (by decide))).mono ?_
  rintro e w11 ⟨rfl, hb⟩
  have g1 := g1.past hb
  have g2 := g2.past hb
  have g3 := g3.past hb
  have g4 := g4.past hb
  have g5 := g5.past hb
  have g6 := g6.past hb
  have qx0 := bq hb lx qx0; have qx1 := bq hb lx qx1; have qx2 := bq hb lx qx2
  have lx := bl hb lx
  have qy0 := bq hb ly qy0; have qy1 := bq hb ly qy1; have qy2 := bq hb ly qy2
  have ly := bl hb ly
  have qz0 := bq hb lz qz0; have qz1 := bq hb lz qz1; have qz2 := bq hb lz qz2
  have lz := bl hb lz
  have hB := below_later hB hb
  clear hb
  rw [KK.out]
  go_wp2_with fail
  with_reducible refine (cmp_rat g1 g2 g5 g6 (Nat.le_trans lp (by decide)) (Nat.le_trans lr5 (by decide))).mono ?_
  rintro e w12 ⟨rfl, hb⟩
  have g1 := g1.past hb
  have g2 := g2.past hb
  have g3 := g3.past hb
  have g4 := g4.past hb
  have g5 := g5.past hb
  have g6 := g6.past hb
  have qx0 := bq hb lx qx0; have qx1 := bq hb lx qx1; have qx2 := bq hb lx qx2
  have lx := bl hb lx
  have qy0 := bq hb ly qy0; have qy1 := bq hb ly qy1; have qy2 := bq hb ly qy2
  have ly := bl hb ly
  have qz0 := bq hb lz qz0; have qz1 := bq hb lz qz1; have qz2 := bq hb lz qz2
  have lz := bl hb lz
  have hB := below_later hB hb
  clear hb
  rw [LL.out]
  go_wp2_with fail
  with_reducible refine (sub_rat g1 g2 g3 g4 (Nat.le_trans lp (by decide)) (Nat.le_trans lq (by decide))).mono ?_
  rintro e w13 ⟨ahDU, nhDU, chDU, ahDD, nhDD, chDD, rfl, hDU, hDD, hb⟩
  have g1 := g1.past hb
  have g2 := g2.past hb
  have g3 := g3.past hb
  have g4 := g4.past hb
  have g5 := g5.past hb
  have g6 := g6.past hb
  have qx0 := bq hb lx qx0; have qx1 := bq hb lx qx1; have qx2 := bq hb lx qx2
  have lx := bl hb lx
  have qy0 := bq hb ly qy0; have qy1 := bq hb ly qy1; have qy2 := bq hb ly qy2
  have ly := bl hb ly
  have qz0 := bq hb lz qz0; have qz1 := bq hb lz qz1; have qz2 := bq hb lz qz2
  have lz := bl hb lz
  have hB := below_later hB hb
  clear hb
  have bD : nhDU ≤ 11 := by rw [← hDU.len]; exact rlen_up (rlen_sub lp lq)
  go_wp2_with fail
  obtain ⟨w14, hW, hz0, hb, q, f⟩ := box1g w13 (w13.heap.size) (by omega) #[.bool (neg (p - q).num), .slice ahDU nhDU chDU, .slice ahDD nhDD chDD] 31
  rw [hW]
  clear hW
  have g1 := g1.past hb
  have g2 := g2.past hb
  have g3 := g3.past hb
  have g4 := g4.past hb
  have g5 := g5.past hb
  have g6 := g6.past hb
  have hDU := hDU.past hb
  have hDD := hDD.past hb
  have qx0 := bq hb lx qx0; have qx1 := bq hb lx qx1; have qx2 := bq hb lx qx2
  have lx := bl hb lx
  have qy0 := bq hb ly qy0; have qy1 := bq hb ly qy1; have qy2 := bq hb ly qy2
  have ly := bl hb ly
  have qz0 := bq hb lz qz0; have qz1 := bq hb lz qz1; have qz2 := bq hb lz qz2
  have lz := bl hb lz
  have hB := below_later hB hb
  clear hb
  have ld : w13.heap.size < w14.heap.size := by omega
  have qd0 := q 0; have qd1 := q 1; have qd2 := q 2
  simp only [List.getElem?_toArray, List.getElem?_cons_zero, List.getElem?_cons_succ] at qd0 qd1 qd2
  clear q f
  obtain ⟨w15, hW, hz1, hb, q, f⟩ := box1g w14 (w13.heap.size + 1) (by omega) #[.bool (neg p.num), .slice a1 n1 c1, .slice a2 n2 c2, .bool (neg r.num), .slice a5 n5 c5, .slice a6 n6 c6] 31
  rw [hW]
  clear hW
  have g1 := g1.past hb
  have g2 := g2.past hb
  have g3 := g3.past hb
  have g4 := g4.past hb
  have g5 := g5.past hb
  have g6 := g6.past hb
  have hDU := hDU.past hb
  have hDD := hDD.past hb
  have qx0 := bq hb lx qx0; have qx1 := bq hb lx qx1; have qx2 := bq hb lx qx2
  have lx := bl hb lx
  have qy0 := bq hb ly qy0; have qy1 := bq hb ly qy1; have qy2 := bq hb ly qy2
  have ly := bl hb ly
  have qz0 := bq hb lz qz0; have qz1 := bq hb lz qz1; have qz2 := bq hb lz qz2
  have lz := bl hb lz
  have qd0 := bq hb ld qd0; have qd1 := bq hb ld qd1; have qd2 := bq hb ld qd2
  have ld := bl hb ld
  have hB := below_later hB hb
  clear hb
  have ls : w13.heap.size + 1 < w15.heap.size := by omega
  have qs0 := q 0; have qs1 := q 1; have qs2 := q 2; have qs3 := q 3; have qs4 := q 4; have qs5 := q 5
  simp only [List.getElem?_toArray, List.getElem?_cons_zero, List.getElem?_cons_succ] at qs0 qs1 qs2 qs3 qs4 qs5
  clear q f
  clear hz0
  clear hz1
  with_reducible refine (add_two (RatsAt.two ls qs0 qs1 qs2 qs3 qs4 qs5 g1 g2 g5 g6) (Nat.le_trans lp (by decide)) (Nat.le_trans lr5 (by decide))).mono ?_
  rintro e w16 ⟨ahXU, nhXU, chXU, ahXD, nhXD, chXD, rfl, hXU, hXD, hb⟩
  have g1 := g1.past hb
  have g2 := g2.past hb
  have g3 := g3.past hb
  have g4 := g4.past hb
  have g5 := g5.past hb
  have g6 := g6.past hb
  have hDU := hDU.past hb
  have hDD := hDD.past hb
  have qx0 := bq hb lx qx0; have qx1 := bq hb lx qx1; have qx2 := bq hb lx qx2
  have lx := bl hb lx
  have qy0 := bq hb ly qy0; have qy1 := bq hb ly qy1; have qy2 := bq hb ly qy2
  have ly := bl hb ly
  have qz0 := bq hb lz qz0; have qz1 := bq hb lz qz1; have qz2 := bq hb lz qz2
  have lz := bl hb lz
  have qd0 := bq hb ld qd0; have qd1 := bq hb ld qd1; have qd2 := bq hb ld qd2
  have ld := bl hb ld
  have qs0 := bq hb ls qs0; have qs1 := bq hb ls qs1; have qs2 := bq hb ls qs2; have qs3 := bq hb ls qs3; have qs4 := bq hb ls qs4; have qs5 := bq hb ls qs5
  have ls := bl hb ls
  have hB := below_later hB hb
  clear hb
  go_wp2_with fail
  obtain ⟨w17, hW, hz0, hb, q, f⟩ := box1g w16 (w16.heap.size) (by omega) #[.bool (neg (p + r).num), .slice ahXU nhXU chXU, .slice ahXD nhXD chXD] 31
  rw [hW]
  clear hW
  have g1 := g1.past hb
  have g2 := g2.past hb
  have g3 := g3.past hb
  have g4 := g4.past hb
  have g5 := g5.past hb
  have g6 := g6.past hb
  have hDU := hDU.past hb
  have hDD := hDD.past hb
  have hXU := hXU.past hb
  have hXD := hXD.past hb
  have qx0 := bq hb lx qx0; have qx1 := bq hb lx qx1; have qx2 := bq hb lx qx2
  have lx := bl hb lx
  have qy0 := bq hb ly qy0; have qy1 := bq hb ly qy1; have qy2 := bq hb ly qy2
  have ly := bl hb ly
  have qz0 := bq hb lz qz0; have qz1 := bq hb lz qz1; have qz2 := bq hb lz qz2
  have lz := bl hb lz
  have qd0 := bq hb ld qd0; have qd1 := bq hb ld qd1; have qd2 := bq hb ld qd2
  have ld := bl hb ld
  have hB := below_later hB hb
  clear hb
  have lhX : w16.heap.size < w17.heap.size := by omega
  have qhX0 := q 0; have qhX1 := q 1; have qhX2 := q 2
  simp only [List.getElem?_toArray, List.getElem?_cons_zero, List.getElem?_cons_succ] at qhX0 qhX1 qhX2
  clear q f
  obtain ⟨w18, hW, hz1, hb, q, f⟩ := box1g w17 (w16.heap.size + 1) (by omega) #[.bool (neg q.num), .slice a3 n3 c3, .slice a4 n4 c4, .bool (neg r.num), .slice a5 n5 c5, .slice a6 n6 c6] 31
  rw [hW]
  clear hW
  have g1 := g1.past hb
  have g2 := g2.past hb
  have g3 := g3.past hb
  have g4 := g4.past hb
  have g5 := g5.past hb
  have g6 := g6.past hb
  have hDU := hDU.past hb
  have hDD := hDD.past hb
  have hXU := hXU.past hb
  have hXD := hXD.past hb
  have qx0 := bq hb lx qx0; have qx1 := bq hb lx qx1; have qx2 := bq hb lx qx2
  have lx := bl hb lx
  have qy0 := bq hb ly qy0; have qy1 := bq hb ly qy1; have qy2 := bq hb ly qy2
  have ly := bl hb ly
  have qz0 := bq hb lz qz0; have qz1 := bq hb lz qz1; have qz2 := bq hb lz qz2
  have lz := bl hb lz
  have qd0 := bq hb ld qd0; have qd1 := bq hb ld qd1; have qd2 := bq hb ld qd2
  have ld := bl hb ld
  have qhX0 := bq hb lhX qhX0; have qhX1 := bq hb lhX qhX1; have qhX2 := bq hb lhX qhX2
  have lhX := bl hb lhX
  have hB := below_later hB hb
  clear hb
  have ls : w16.heap.size + 1 < w18.heap.size := by omega
  have qs0 := q 0; have qs1 := q 1; have qs2 := q 2; have qs3 := q 3; have qs4 := q 4; have qs5 := q 5
  simp only [List.getElem?_toArray, List.getElem?_cons_zero, List.getElem?_cons_succ] at qs0 qs1 qs2 qs3 qs4 qs5
  clear q f
  clear hz0
  clear hz1
  with_reducible refine (add_two (RatsAt.two ls qs0 qs1 qs2 qs3 qs4 qs5 g3 g4 g5 g6) (Nat.le_trans lq (by decide)) (Nat.le_trans lr5 (by decide))).mono ?_
  rintro e w19 ⟨ahYU, nhYU, chYU, ahYD, nhYD, chYD, rfl, hYU, hYD, hb⟩
  have g1 := g1.past hb
  have g2 := g2.past hb
  have g3 := g3.past hb
  have g4 := g4.past hb
  have g5 := g5.past hb
  have g6 := g6.past hb
  have hDU := hDU.past hb
  have hDD := hDD.past hb
  have hXU := hXU.past hb
  have hXD := hXD.past hb
  have qx0 := bq hb lx qx0; have qx1 := bq hb lx qx1; have qx2 := bq hb lx qx2
  have lx := bl hb lx
  have qy0 := bq hb ly qy0; have qy1 := bq hb ly qy1; have qy2 := bq hb ly qy2
  have ly := bl hb ly
  have qz0 := bq hb lz qz0; have qz1 := bq hb lz qz1; have qz2 := bq hb lz qz2
  have lz := bl hb lz
  have qd0 := bq hb ld qd0; have qd1 := bq hb ld qd1; have qd2 := bq hb ld qd2
  have ld := bl hb ld
  have qhX0 := bq hb lhX qhX0; have qhX1 := bq hb lhX qhX1; have qhX2 := bq hb lhX qhX2
  have lhX := bl hb lhX
  have qs0 := bq hb ls qs0; have qs1 := bq hb ls qs1; have qs2 := bq hb ls qs2; have qs3 := bq hb ls qs3; have qs4 := bq hb ls qs4; have qs5 := bq hb ls qs5
  have ls := bl hb ls
  have hB := below_later hB hb
  clear hb
  go_wp2_with fail
  obtain ⟨w20, hW, hz0, hb, q, f⟩ := box1g w19 (w19.heap.size) (by omega) #[.bool (neg (q + r).num), .slice ahYU nhYU chYU, .slice ahYD nhYD chYD] 31
  rw [hW]
  clear hW
  have g1 := g1.past hb
  have g2 := g2.past hb
  have g3 := g3.past hb
  have g4 := g4.past hb
  have g5 := g5.past hb
  have g6 := g6.past hb
  have hDU := hDU.past hb
  have hDD := hDD.past hb
  have hXU := hXU.past hb
  have hXD := hXD.past hb
  have hYU := hYU.past hb
  have hYD := hYD.past hb
  have qx0 := bq hb lx qx0; have qx1 := bq hb lx qx1; have qx2 := bq hb lx qx2
  have lx := bl hb lx
  have qy0 := bq hb ly qy0; have qy1 := bq hb ly qy1; have qy2 := bq hb ly qy2
  have ly := bl hb ly
  have qz0 := bq hb lz qz0; have qz1 := bq hb lz qz1; have qz2 := bq hb lz qz2
  have lz := bl hb lz
  have qd0 := bq hb ld qd0; have qd1 := bq hb ld qd1; have qd2 := bq hb ld qd2
  have ld := bl hb ld
  have qhX0 := bq hb lhX qhX0; have qhX1 := bq hb lhX qhX1; have qhX2 := bq hb lhX qhX2
  have lhX := bl hb lhX
  have hB := below_later hB hb
  clear hb
  have lhY : w19.heap.size < w20.heap.size := by omega
  have qhY0 := q 0; have qhY1 := q 1; have qhY2 := q 2
  simp only [List.getElem?_toArray, List.getElem?_cons_zero, List.getElem?_cons_succ] at qhY0 qhY1 qhY2
  clear q f
  clear hz0
  with_reducible refine (cmp_rat hXU.toNatAt hXD.toNatAt hYU.toNatAt hYD.toNatAt (Nat.le_trans (rlen_add lp lr5) (by decide)) (Nat.le_trans (rlen_add lq lr5) (by decide))).mono ?_
  rintro e w21 ⟨rfl, hb⟩
  have g1 := g1.past hb
  have g2 := g2.past hb
  have g3 := g3.past hb
  have g4 := g4.past hb
  have g5 := g5.past hb
  have g6 := g6.past hb
  have hDU := hDU.past hb
  have hDD := hDD.past hb
  have hXU := hXU.past hb
  have hXD := hXD.past hb
  have hYU := hYU.past hb
  have hYD := hYD.past hb
  have qx0 := bq hb lx qx0; have qx1 := bq hb lx qx1; have qx2 := bq hb lx qx2
  have lx := bl hb lx
  have qy0 := bq hb ly qy0; have qy1 := bq hb ly qy1; have qy2 := bq hb ly qy2
  have ly := bl hb ly
  have qz0 := bq hb lz qz0; have qz1 := bq hb lz qz1; have qz2 := bq hb lz qz2
  have lz := bl hb lz
  have qd0 := bq hb ld qd0; have qd1 := bq hb ld qd1; have qd2 := bq hb ld qd2
  have ld := bl hb ld
  have qhX0 := bq hb lhX qhX0; have qhX1 := bq hb lhX qhX1; have qhX2 := bq hb lhX qhX2
  have lhX := bl hb lhX
  have qhY0 := bq hb lhY qhY0; have qhY1 := bq hb lhY qhY1; have qhY2 := bq hb lhY qhY2
  have lhY := bl hb lhY
  have hB := below_later hB hb
  clear hb
  rw [OO.out]
  go_wp2_with fail
  with_reducible refine (sign_c hDU.toNatAt (by omega)).mono ?_
  rintro e w22 ⟨rfl, hb⟩
  have g1 := g1.past hb
  have g2 := g2.past hb
  have g3 := g3.past hb
  have g4 := g4.past hb
  have g5 := g5.past hb
  have g6 := g6.past hb
  have hDU := hDU.past hb
  have hDD := hDD.past hb
  have qx0 := bq hb lx qx0; have qx1 := bq hb lx qx1; have qx2 := bq hb lx qx2
  have lx := bl hb lx
  have qy0 := bq hb ly qy0; have qy1 := bq hb ly qy1; have qy2 := bq hb ly qy2
  have ly := bl hb ly
  have qz0 := bq hb lz qz0; have qz1 := bq hb lz qz1; have qz2 := bq hb lz qz2
  have lz := bl hb lz
  have qd0 := bq hb ld qd0; have qd1 := bq hb ld qd1; have qd2 := bq hb ld qd2
  have ld := bl hb ld
  have hB := below_later hB hb
  clear hb
  rw [NN.out]
  go_wp2_with fail
  with_reducible refine (sameRatio_any _ _ _ _ (digs p.num.natAbs) _ _ _ (digs p.den) _ _ _ _ (digs q.num.natAbs) _ _ _ (digs q.den) _ g1 g2 g3 g4).mono ?_
  rintro e w23 ⟨rfl, hb⟩
  have g1 := g1.past hb
  have g2 := g2.past hb
  have g3 := g3.past hb
  have g4 := g4.past hb
  have g5 := g5.past hb
  have g6 := g6.past hb
  have hDU := hDU.past hb
  have hDD := hDD.past hb
  have qx0 := bq hb lx qx0; have qx1 := bq hb lx qx1; have qx2 := bq hb lx qx2
  have lx := bl hb lx
  have qy0 := bq hb ly qy0; have qy1 := bq hb ly qy1; have qy2 := bq hb ly qy2
  have ly := bl hb ly
  have qz0 := bq hb lz qz0; have qz1 := bq hb lz qz1; have qz2 := bq hb lz qz2
  have lz := bl hb lz
  have qd0 := bq hb ld qd0; have qd1 := bq hb ld qd1; have qd2 := bq hb ld qd2
  have ld := bl hb ld
  have hB := below_later hB hb
  clear hb
  rw [SS.out]
  go_wp2
  go_ret
  exact ⟨rfl, hB⟩

set_option maxRecDepth 100000 in
set_option maxHeartbeats 16000000 in
theorem ratioOrder_lt0 {p q r : Rat} {a1 : Option Addr} {n1 c1 : Nat} {a2 : Option Addr} {n2 c2 : Nat} {a3 : Option Addr} {n3 c3 : Nat} {a4 : Option Addr} {n4 c4 : Nat} {a5 : Option Addr} {n5 c5 : Nat} {a6 : Option Addr} {n6 c6 : Nat} {w : World} (g1 : NatAt w a1 n1 c1 (digs p.num.natAbs)) (g2 : NatAt w a2 n2 c2 (digs p.den)) (g3 : NatAt w a3 n3 c3 (digs q.num.natAbs)) (g4 : NatAt w a4 n4 c4 (digs q.den)) (g5 : NatAt w a5 n5 c5 (digs r.num.natAbs)) (g6 : NatAt w a6 n6 c6 (digs r.den)) (hs : ((digs p.num.natAbs).length ≤ 5 ∧ (digs p.den).length ≤ 5) ∧ ((digs q.num.natAbs).length ≤ 5 ∧ (digs q.den).length ≤ 5) ∧ ((digs r.num.natAbs).length ≤ 5 ∧ (digs r.den).length ≤ 5)) (hl : (longP ((neg p.num), (digs p.num.natAbs), (digs p.den)) || (longP ((neg q.num), (digs q.num.natAbs), (digs q.den)) || longP ((neg r.num), (digs r.num.natAbs), (digs r.den)))) = false) (hn : (p - q).num.sign = -1) (hk : (q - r).num.sign = 0) :
    Calls Try.prog 4 #[.agg #[.bool (neg p.num), .slice a1 n1 c1, .slice a2 n2 c2], .agg #[.bool (neg q.num), .slice a3 n3 c3, .slice a4 n4 c4], .agg #[.bool (neg r.num), .slice a5 n5 c5, .slice a6 n6 c6]] w (RetVal w (.bool true)) := by
  rw [← longB3] at hl
  have gk : ∀ i, i < 3 → ((rawF [((neg p.num), (digs p.num.natAbs), (digs p.den)), ((neg q.num), (digs q.num.natAbs), (digs q.den)), ((neg r.num), (digs r.num.natAbs), (digs r.den))]) i).2.1.length ≤ 68719476736 ∧ ((rawF [((neg p.num), (digs p.num.natAbs), (digs p.den)), ((neg q.num), (digs q.num.natAbs), (digs q.den)), ((neg r.num), (digs r.num.natAbs), (digs r.den))]) i).2.2.length ≤ 68719476736 := fun i hi => by
    match i, hi with
    | 0, _ => exact ⟨Nat.le_trans hs.1.1 (by decide), Nat.le_trans hs.1.2 (by decide)⟩
    | 1, _ => exact ⟨Nat.le_trans hs.2.1.1 (by decide), Nat.le_trans hs.2.1.2 (by decide)⟩
    | 2, _ => exact ⟨Nat.le_trans hs.2.2.1 (by decide), Nat.le_trans hs.2.2.2 (by decide)⟩
  have e3 := allR3 ((neg p.num), (digs p.num.natAbs), (digs p.den)) ((neg q.num), (digs q.num.natAbs), (digs q.den)) ((neg r.num), (digs r.num.natAbs), (digs r.den))
  rw [show decide (chk3 ((neg p.num), (digs p.num.natAbs), (digs p.den)) = 0) = true from decide_eq_true (chk3_parts p), show decide (chk3 ((neg q.num), (digs q.num.natAbs), (digs q.den)) = 0) = true from decide_eq_true (chk3_parts q), show decide (chk3 ((neg r.num), (digs r.num.natAbs), (digs r.den)) = 0) = true from decide_eq_true (chk3_parts r)] at e3
  have e3 : allR (rawF [((neg p.num), (digs p.num.natAbs), (digs p.den)), ((neg q.num), (digs q.num.natAbs), (digs q.den)), ((neg r.num), (digs r.num.natAbs), (digs r.den))]) 3 = true := e3
  have lp : rlen p ≤ 5 := Nat.max_le.2 hs.1
  have lq : rlen q ≤ 5 := Nat.max_le.2 hs.2.1
  have lr5 : rlen r ≤ 5 := Nat.max_le.2 hs.2.2
  have hm : (q - p).num.sign = 1 := by rw [sgn_turn p q, hn]; try rfl
  have ho : (p + r - (q + r)).num.sign = -1 := by rw [add_sub_add]; exact hn
  have hsame : eqR (neg p.num) (digs p.num.natAbs) (digs p.den) (neg q.num) (digs q.num.natAbs) (digs q.den) = false := by rw [eqR_eqQ]; exact decide_eq_false fun e => by rw [sgn_zero.2 e] at hn; exact absurd hn (by decide)
  obtain ⟨l, hl9⟩ : ∃ l, (p - r).num.sign = l := ⟨_, rfl⟩
  have LB := Lib.hid hl
  have GK := Lib.hid gk
  have GB := Lib.hid e3
  have NN := Lib.hid hn
  have MM := Lib.hid hm
  have KK := Lib.hid hk
  have LL := Lib.hid hl9
  have OO := Lib.hid ho
  have SS := Lib.hid hsame
  clear hl gk e3 hn hm hk hl9 ho hsame
  go_enter Try.func4, Try.ntmps4
  have hB := Below.refl w.heap.size w
  go_wp2_with fail
  obtain ⟨w1, hW, hz0, hb, q, f⟩ := box1g w (w.heap.size) (by omega) #[.bool (neg p.num), .slice a1 n1 c1, .slice a2 n2 c2] 31
  rw [hW]
  clear hW
  have g1 := g1.past hb
  have g2 := g2.past hb
  have g3 := g3.past hb
  have g4 := g4.past hb
  have g5 := g5.past hb
  have g6 := g6.past hb
  have hB := below_later hB hb
  clear hb
  have lx : w.heap.size < w1.heap.size := by omega
  have qx0 := q 0; have qx1 := q 1; have qx2 := q 2
  simp only [List.getElem?_toArray, List.getElem?_cons_zero, List.getElem?_cons_succ] at qx0 qx1 qx2
  clear q f
  obtain ⟨w2, hW, hz1, hb, q, f⟩ := box1g w1 (w.heap.size + 1) (by omega) #[.bool (neg q.num), .slice a3 n3 c3, .slice a4 n4 c4] 31
  rw [hW]
  clear hW
  have g1 := g1.past hb
  have g2 := g2.past hb
  have g3 := g3.past hb
  have g4 := g4.past hb
  have g5 := g5.past hb
  have g6 := g6.past hb
  have qx0 := bq hb lx qx0; have qx1 := bq hb lx qx1; have qx2 := bq hb lx qx2
  have lx := bl hb lx
  have hB := below_later hB hb
  clear hb
  have ly : w.heap.size + 1 < w2.heap.size := by omega
  have qy0 := q 0; have qy1 := q 1; have qy2 := q 2
  simp only [List.getElem?_toArray, List.getElem?_cons_zero, List.getElem?_cons_succ] at qy0 qy1 qy2
  clear q f
  obtain ⟨w3, hW, hz2, hb, q, f⟩ := box1g w2 (w.heap.size + 1 + 1) (by omega) #[.bool (neg r.num), .slice a5 n5 c5, .slice a6 n6 c6] 31
  rw [hW]
  clear hW
  have g1 := g1.past hb
  have g2 := g2.past hb
  have g3 := g3.past hb
  have g4 := g4.past hb
  have g5 := g5.past hb
  have g6 := g6.past hb
  have qx0 := bq hb lx qx0; have qx1 := bq hb lx qx1; have qx2 := bq hb lx qx2
  have lx := bl hb lx
  have qy0 := bq hb ly qy0; have qy1 := bq hb ly qy1; have qy2 := bq hb ly qy2
  have ly := bl hb ly
  have hB := below_later hB hb
  clear hb
  have lz : w.heap.size + 1 + 1 < w3.heap.size := by omega
  have qz0 := q 0; have qz1 := q 1; have qz2 := q 2
  simp only [List.getElem?_toArray, List.getElem?_cons_zero, List.getElem?_cons_succ] at qz0 qz1 qz2
  clear q f
  clear hz0
  clear hz1
  clear hz2
  with_reducible refine (awake05 _).mono ?_
  rintro e w4 ⟨rfl, hb⟩
  have g1 := g1.past hb
  have g2 := g2.past hb
  have g3 := g3.past hb
  have g4 := g4.past hb
  have g5 := g5.past hb
  have g6 := g6.past hb
  have qx0 := bq hb lx qx0; have qx1 := bq hb lx qx1; have qx2 := bq hb lx qx2
  have lx := bl hb lx
  have qy0 := bq hb ly qy0; have qy1 := bq hb ly qy1; have qy2 := bq hb ly qy2
  have ly := bl hb ly
  have qz0 := bq hb lz qz0; have qz1 := bq hb lz qz1; have qz2 := bq hb lz qz2
  have lz := bl hb lz
  have hB := below_later hB hb
  clear hb
  go_wp2_with fail
  obtain ⟨w5, hW, hz0, hb, q, f⟩ := box1g w4 (w4.heap.size) (by omega) #[.bool (neg p.num), .slice a1 n1 c1, .slice a2 n2 c2, .bool (neg q.num), .slice a3 n3 c3, .slice a4 n4 c4, .bool (neg r.num), .slice a5 n5 c5, .slice a6 n6 c6] 31
  rw [hW]
  clear hW
  have g1 := g1.past hb
  have g2 := g2.past hb
  have g3 := g3.past hb
  have g4 := g4.past hb
  have g5 := g5.past hb
  have g6 := g6.past hb
  have qx0 := bq hb lx qx0; have qx1 := bq hb lx qx1; have qx2 := bq hb lx qx2
  have lx := bl hb lx
  have qy0 := bq hb ly qy0; have qy1 := bq hb ly qy1; have qy2 := bq hb ly qy2
  have ly := bl hb ly
  have qz0 := bq hb lz qz0; have qz1 := bq hb lz qz1; have qz2 := bq hb lz qz2
  have lz := bl hb lz
  have hB := below_later hB hb
  clear hb
  have ls : w4.heap.size < w5.heap.size := by omega
  have qs0 := q 0; have qs1 := q 1; have qs2 := q 2; have qs3 := q 3; have qs4 := q 4; have qs5 := q 5; have qs6 := q 6; have qs7 := q 7; have qs8 := q 8
  simp only [List.getElem?_toArray, List.getElem?_cons_zero, List.getElem?_cons_succ] at qs0 qs1 qs2 qs3 qs4 qs5 qs6 qs7 qs8
  clear q f
  clear hz0
  with_reducible refine (long05_any _ _ _ _ _ (RatsAt.raw3 (x := ((neg p.num), (digs p.num.natAbs), (digs p.den))) (y := ((neg q.num), (digs q.num.natAbs), (digs q.den))) (z := ((neg r.num), (digs r.num.natAbs), (digs r.den))) ls qs0 qs1 qs2 qs3 qs4 qs5 qs6 qs7 qs8 g1 g2 g3 g4 g5 g6)).mono ?_
  rintro e w6 ⟨rfl, hb⟩
  have g1 := g1.past hb
  have g2 := g2.past hb
  have g3 := g3.past hb
  have g4 := g4.past hb
  have g5 := g5.past hb
  have g6 := g6.past hb
  have qx0 := bq hb lx qx0; have qx1 := bq hb lx qx1; have qx2 := bq hb lx qx2
  have lx := bl hb lx
  have qy0 := bq hb ly qy0; have qy1 := bq hb ly qy1; have qy2 := bq hb ly qy2
  have ly := bl hb ly
  have qz0 := bq hb lz qz0; have qz1 := bq hb lz qz1; have qz2 := bq hb lz qz2
  have lz := bl hb lz
  have qs0 := bq hb ls qs0; have qs1 := bq hb ls qs1; have qs2 := bq hb ls qs2; have qs3 := bq hb ls qs3; have qs4 := bq hb ls qs4; have qs5 := bq hb ls qs5; have qs6 := bq hb ls qs6; have qs7 := bq hb ls qs7; have qs8 := bq hb ls qs8
  have ls := bl hb ls
  have hB := below_later hB hb
  clear hb
  rw [LB.out]
  go_wp2_with fail
  obtain ⟨w7, hW, hz0, hb, q, f⟩ := box1g w6 (w6.heap.size) (by omega) #[.bool (neg p.num), .slice a1 n1 c1, .slice a2 n2 c2, .bool (neg q.num), .slice a3 n3 c3, .slice a4 n4 c4, .bool (neg r.num), .slice a5 n5 c5, .slice a6 n6 c6] 31
  rw [hW]
  clear hW
  have g1 := g1.past hb
  have g2 := g2.past hb
  have g3 := g3.past hb
  have g4 := g4.past hb
  have g5 := g5.past hb
  have g6 := g6.past hb
  have qx0 := bq hb lx qx0; have qx1 := bq hb lx qx1; have qx2 := bq hb lx qx2
  have lx := bl hb lx
  have qy0 := bq hb ly qy0; have qy1 := bq hb ly qy1; have qy2 := bq hb ly qy2
  have ly := bl hb ly
  have qz0 := bq hb lz qz0; have qz1 := bq hb lz qz1; have qz2 := bq hb lz qz2
  have lz := bl hb lz
  have hB := below_later hB hb
  clear hb
  have ls : w6.heap.size < w7.heap.size := by omega
  have qs0 := q 0; have qs1 := q 1; have qs2 := q 2; have qs3 := q 3; have qs4 := q 4; have qs5 := q 5; have qs6 := q 6; have qs7 := q 7; have qs8 := q 8
  simp only [List.getElem?_toArray, List.getElem?_cons_zero, List.getElem?_cons_succ] at qs0 qs1 qs2 qs3 qs4 qs5 qs6 qs7 qs8
  clear q f
  clear hz0
  with_reducible refine (good05_any _ _ _ _ _ (RatsAt.raw3 (x := ((neg p.num), (digs p.num.natAbs), (digs p.den))) (y := ((neg q.num), (digs q.num.natAbs), (digs q.den))) (z := ((neg r.num), (digs r.num.natAbs), (digs r.den))) ls qs0 qs1 qs2 qs3 qs4 qs5 qs6 qs7 qs8 g1 g2 g3 g4 g5 g6) GK.out).mono ?_
  rintro e w8 ⟨rfl, hb⟩
  have g1 := g1.past hb
  have g2 := g2.past hb
  have g3 := g3.past hb
  have g4 := g4.past hb
  have g5 := g5.past hb
  have g6 := g6.past hb
  have qx0 := bq hb lx qx0; have qx1 := bq hb lx qx1; have qx2 := bq hb lx qx2
  have lx := bl hb lx
  have qy0 := bq hb ly qy0; have qy1 := bq hb ly qy1; have qy2 := bq hb ly qy2
  have ly := bl hb ly
  have qz0 := bq hb lz qz0; have qz1 := bq hb lz qz1; have qz2 := bq hb lz qz2
  have lz := bl hb lz
  have qs0 := bq hb ls qs0; have qs1 := bq hb ls qs1; have qs2 := bq hb ls qs2; have qs3 := bq hb ls qs3; have qs4 := bq hb ls qs4; have qs5 := bq hb ls qs5; have qs6 := bq hb ls qs6; have qs7 := bq hb ls qs7; have qs8 := bq hb ls qs8
  have ls := bl hb ls
  have hB := below_later hB hb
  clear hb
  rw [GB.out]
  go_wp2_with fail
  with_reducible refine (cmp_rat g1 g2 g3 g4 (Nat.le_trans lp (by decide)) (Nat.le_trans lq (by decide))).mono ?_
  rintro e w9 ⟨rfl, hb⟩
  have g1 := g1.past hb
  have g2 := g2.past hb
  have g3 := g3.past hb
  have g4 := g4.past hb
  have g5 := g5.past hb
  have g6 := g6.past hb
  have qx0 := bq hb lx qx0; have qx1 := bq hb lx qx1; have qx2 := bq hb lx qx2
  have lx := bl hb lx
  have qy0 := bq hb ly qy0; have qy1 := bq hb ly qy1; have qy2 := bq hb ly qy2
  have ly := bl hb ly
  have qz0 := bq hb lz qz0; have qz1 := bq hb lz qz1; have qz2 := bq hb lz qz2
  have lz := bl hb lz
  have hB := below_later hB hb
  clear hb
  rw [NN.out]
  go_wp2_with fail
  with_reducible refine (cmp_rat g3 g4 g1 g2 (Nat.le_trans lq (by decide)) (Nat.le_trans lp (by decide))).mono ?_
  rintro e w10 ⟨rfl, hb⟩
  have g1 := g1.past hb
  have g2 := g2.past hb
  have g3 := g3.past hb
  have g4 := g4.past hb
  have g5 := g5.past hb
  have g6 := g6.past hb
  have qx0 := bq hb lx qx0; have qx1 := bq hb lx qx1; have qx2 := bq hb lx qx2
  have lx := bl hb lx
  have qy0 := bq hb ly qy0; have qy1 := bq hb ly qy1; have qy2 := bq hb ly qy2
  have ly := bl hb ly
  have qz0 := bq hb lz qz0; have qz1 := bq hb lz qz1; have qz2 := bq hb lz qz2
  have lz := bl hb lz
  have hB := below_later hB hb
  clear hb
  rw [MM.out]
  go_wp2_with fail
  with_reducible refine (cmp_rat g3 g4 g5 g6 (Nat.le_trans lq (by decide)) (Nat.le_trans lr5 (by decide))).mono ?_
  rintro e w11 ⟨rfl, hb⟩
  have g1 := g1.past hb
  have g2 := g2.past hb
  have g3 := g3.past hb
  have g4 := g4.past hb
  have g5 := g5.past hb
  have g6 := g6.past hb
  have qx0 := bq hb lx qx0; have qx1 := bq hb lx qx1; have qx2 := bq hb lx qx2
  have lx := bl hb lx
  have qy0 := bq hb ly qy0; have qy1 := bq hb ly qy1; have qy2 := bq hb ly qy2
  have ly := bl hb ly
  have qz0 := bq hb lz qz0; have qz1 := bq hb lz qz1; have qz2 := bq hb lz qz2
  have lz := bl hb lz
  have hB := below_later hB hb
  clear hb
  rw [KK.out]
  go_wp2_with fail
  with_reducible refine (cmp_rat g1 g2 g5 g6 (Nat.le_trans lp (by decide)) (Nat.le_trans lr5 (by decide))).mono ?_
  rintro e w12 ⟨rfl, hb⟩
  have g1 := g1.past hb
  have g2 := g2.past hb
  have g3 := g3.past hb
  have g4 := g4.past hb
  have g5 := g5.past hb
  have g6 := g6.past hb
  have qx0 := bq hb lx qx0; have qx1 := bq hb lx qx1; have qx2 := bq hb lx qx2
  have lx := bl hb lx
  have qy0 := bq hb ly qy0; have qy1 := bq hb ly qy1; have qy2 := bq hb ly qy2
  have ly := bl hb ly
  have qz0 := bq hb lz qz0; have qz1 := bq hb lz qz1; have qz2 := bq hb lz qz2
  have lz := bl hb lz
  have hB := below_later hB hb
  clear hb
  rw [LL.out]
  go_wp2_with fail
  with_reducible refine (sub_rat g1 g2 g3 g4 (Nat.le_trans lp (by decide)) (Nat.le_trans lq (by decide))).mono ?_
  rintro e w13 ⟨ahDU, nhDU, chDU, ahDD, nhDD, chDD, rfl, hDU, hDD, hb⟩
  have g1 := g1.past hb
  have g2 := g2.past hb
  have g3 := g3.past hb
  have g4 := g4.past hb
  have g5 := g5.past hb
  have g6 := g6.past hb
  have qx0 := bq hb lx qx0; have qx1 := bq hb lx qx1; have qx2 := bq hb lx qx2
  have lx := bl hb lx
  have qy0 := bq hb ly qy0; have qy1 := bq hb ly qy1; have qy2 := bq hb ly qy2
  have ly := bl hb ly
  have qz0 := bq hb lz qz0; have qz1 := bq hb lz qz1; have qz2 := bq hb lz qz2
  have lz := bl hb lz
  have hB := below_later hB hb
  clear hb
  have bD : nhDU ≤ 11 := by rw [← hDU.len]; exact rlen_up (rlen_sub lp lq)
  go_wp2_with fail
  obtain ⟨w14, hW, hz0, hb, q, f⟩ := box1g w13 (w13.heap.size) (by omega) #[.bool (neg (p - q).num), .slice ahDU nhDU chDU, .slice ahDD nhDD chDD] 31
  rw [hW]
  clear hW
  have g1 := g1.past hb
  have g2 := g2.past hb
  have g3 := g3.past hb
  have g4 := g4.past hb
  have g5 := g5.past hb
  have g6 := g6.past hb
  have hDU := hDU.past hb
  have hDD := hDD.past hb
  have qx0 := bq hb lx qx0; have qx1 := bq hb lx qx1; have qx2 := bq hb lx qx2
  have lx := bl hb lx
  have qy0 := bq hb ly qy0; have qy1 := bq hb ly qy1; have qy2 := bq hb ly qy2
  have ly := bl hb ly
  have qz0 := bq hb lz qz0; have qz1 := bq hb lz qz1; have qz2 := bq hb lz qz2
  have lz := bl hb lz
  have hB := below_later hB hb
  clear hb
  have ld : w13.heap.size < w14.heap.size := by omega
  have qd0 := q 0; have qd1 := q 1; have qd2 := q 2
  simp only [List.getElem?_toArray, List.getElem?_cons_zero, List.getElem?_cons_succ] at qd0 qd1 qd2
  clear q f
  obtain ⟨w15, hW, hz1, hb, q, f⟩ := box1g w14 (w13.heap.size + 1) (by omega) #[.bool (neg p.num), .slice a1 n1 c1, .slice a2 n2 c2, .bool (neg r.num), .slice a5 n5 c5, .slice a6 n6 c6] 31
  rw [hW]
  clear hW
  have g1 := g1.past hb
  have g2 := g2.past hb
  have g3 := g3.past hb
  have g4 := g4.past hb
  have g5 := g5.past hb
  have g6 := g6.past hb
  have hDU := hDU.past hb
  have hDD := hDD.past hb
  have qx0 := bq hb lx qx0; have qx1 := bq hb lx qx1; have qx2 := bq hb lx qx2
  have lx := bl hb lx
  have qy0 := bq hb ly qy0; have qy1 := bq hb ly qy1; have qy2 := bq hb ly qy2
  have ly := bl hb ly
  have qz0 := bq hb lz qz0; have qz1 := bq hb lz qz1; have qz2 := bq hb lz qz2
  have lz := bl hb lz
  have qd0 := bq hb ld qd0; have qd1 := bq hb ld qd1; have qd2 := bq hb ld qd2
  have ld := bl hb ld
  have hB := below_later hB hb
  clear hb
  have ls : w13.heap.size + 1 < w15.heap.size := by omega
  have qs0 := q 0; have qs1 := q 1; have qs2 := q 2; have qs3 := q 3; have qs4 := q 4; have qs5 := q 5
  simp only [List.getElem?_toArray, List.getElem?_cons_zero, List.getElem?_cons_succ] at qs0 qs1 qs2 qs3 qs4 qs5
  clear q f
  clear hz0
  clear hz1
  with_reducible refine (add_two (RatsAt.two ls qs0 qs1 qs2 qs3 qs4 qs5 g1 g2 g5 g6) (Nat.le_trans lp (by decide)) (Nat.le_trans lr5 (by decide))).mono ?_
  rintro e w16 ⟨ahXU, nhXU, chXU, ahXD, nhXD, chXD, rfl, hXU, hXD, hb⟩
  have g1 := g1.past hb
  have g2 := g2.past hb
  have g3 := g3.past hb
  have g4 := g4.past hb
  have g5 := g5.past hb
  have g6 := g6.past hb
  have hDU := hDU.past hb
  have hDD := hDD.past hb
  have qx0 := bq hb lx qx0; have qx1 := bq hb lx qx1; have qx2 := bq hb lx qx2
  have lx := bl hb lx
  have qy0 := bq hb ly qy0; have qy1 := bq hb ly qy1; have qy2 := bq hb ly qy2
  have ly := bl hb ly
  have qz0 := bq hb lz qz0; have qz1 := bq hb lz qz1; have qz2 := bq hb lz qz2
  have lz := bl hb lz
  have qd0 := bq hb ld qd0; have qd1 := bq hb ld qd1; have qd2 := bq hb ld qd2
  have ld := bl hb ld
  have qs0 := bq hb ls qs0; have qs1 := bq hb ls qs1; have qs2 := bq hb ls qs2; have qs3 := bq hb ls qs3; have qs4 := bq hb ls qs4; have qs5 := bq hb ls qs5
  have ls := bl hb ls
  have hB := below_later hB hb
  clear hb
  go_wp2_with fail
  obtain ⟨w17, hW, hz0, hb, q, f⟩ := box1g w16 (w16.heap.size) (by omega) #[.bool (neg (p + r).num), .slice ahXU nhXU chXU, .slice ahXD nhXD chXD] 31
  rw [hW]
  clear hW
  have g1 := g1.past hb
  have g2 := g2.past hb
  have g3 := g3.past hb
  have g4 := g4.past hb
  have g5 := g5.past hb
  have g6 := g6.past hb
  have hDU := hDU.past hb
  have hDD := hDD.past hb
  have hXU := hXU.past hb
  have hXD := hXD.past hb
  have qx0 := bq hb lx qx0; have qx1 := bq hb lx qx1; have qx2 := bq hb lx qx2
  have lx := bl hb lx
  have qy0 := bq hb ly qy0; have qy1 := bq hb ly qy1; have qy2 := bq hb ly qy2
  have ly := bl hb ly
  have qz0 := bq hb lz qz0; have qz1 := bq hb lz qz1; have qz2 := bq hb lz qz2
  have lz := bl hb lz
  have qd0 := bq hb ld qd0; have qd1 := bq hb ld qd1; have qd2 := bq hb ld qd2
  have ld := bl hb ld
  have hB := below_later hB hb
  clear hb
  have lhX : w16.heap.size < w17.heap.size := by omega
  have qhX0 := q 0; have qhX1 := q 1; have qhX2 := q 2
  simp only [List.getElem?_toArray, List.getElem?_cons_zero, List.getElem?_cons_succ] at qhX0 qhX1 qhX2
  clear q f
  obtain ⟨w18, hW, hz1, hb, q, f⟩ := box1g w17 (w16.heap.size + 1) (by omega) #[.bool (neg q.num), .slice a3 n3 c3, .slice a4 n4 c4, .bool (neg r.num), .slice a5 n5 c5, .slice a6 n6 c6] 31
  rw [hW]
  clear hW
  have g1 := g1.past hb
  have g2 := g2.past hb
  have g3 := g3.past hb
  have g4 := g4.past hb
  have g5 := g5.past hb
  have g6 := g6.past hb
  have hDU := hDU.past hb
  have hDD := hDD.past hb
  have hXU := hXU.past hb
  have hXD := hXD.past hb
  have qx0 := bq hb lx qx0; have qx1 := bq hb lx qx1; have qx2 := bq hb lx qx2
  have lx := bl hb lx
  have qy0 := bq hb ly qy0; have qy1 := bq hb ly qy1; have qy2 := bq hb ly qy2
  have ly := bl hb ly
  have qz0 := bq hb lz qz0; have qz1 := bq hb lz qz1; have qz2 := bq hb lz qz2
  have lz := bl hb lz
  have qd0 := bq hb ld qd0; have qd1 := bq hb ld qd1; have qd2 := bq hb ld qd2
  have ld := bl hb ld
  have qhX0 := bq hb lhX qhX0; have qhX1 := bq hb lhX qhX1; have qhX2 := bq hb lhX qhX2
  have lhX := bl hb lhX
  have hB := below_later hB hb
  clear hb
  have ls : w16.heap.size + 1 < w18.heap.size := by omega
  have qs0 := q 0; have qs1 := q 1; have qs2 := q 2; have qs3 := q 3; have qs4 := q 4; have qs5 := q 5
  simp only [List.getElem?_toArray, List.getElem?_cons_zero, List.getElem?_cons_succ] at qs0 qs1 qs2 qs3 qs4 qs5
  clear q f
  clear hz0
  clear hz1
  with_reducible refine (add_two (RatsAt.two ls qs0 qs1 qs2 qs3 qs4 qs5 g3 g4 g5 g6) (Nat.le_trans lq (by decide)) (Nat.le_trans lr5 (by decide))).mono ?_
  rintro e w19 ⟨ahYU, nhYU, chYU, ahYD, nhYD, chYD, rfl, hYU, hYD, hb⟩
  have g1 := g1.past hb
  have g2 := g2.past hb
  have g3 := g3.past hb
  have g4 := g4.past hb
  have g5 := g5.past hb
  have g6 := g6.past hb
  have hDU := hDU.past hb
  have hDD := hDD.past hb
  have hXU := hXU.past hb
  have hXD := hXD.past hb
  have qx0 := bq hb lx qx0; have qx1 := bq hb lx qx1; have qx2 := bq hb lx qx2
  have lx := bl hb lx
  have qy0 := bq hb ly qy0; have qy1 := bq hb ly qy1; have qy2 := bq hb ly qy2
  have ly := bl hb ly
  have qz0 := bq hb lz qz0; have qz1 := bq hb lz qz1; have qz2 := bq hb lz qz2
  have lz := bl hb lz
  have qd0 := bq hb ld qd0; have qd1 := bq hb ld qd1; have qd2 := bq hb ld qd2
  have ld := bl hb ld
  have qhX0 := bq hb lhX qhX0; have qhX1 := bq hb lhX qhX1; have qhX2 := bq hb lhX qhX2
  have lhX := bl hb lhX
  have qs0 := bq hb ls qs0; have qs1 := bq hb ls qs1; have qs2 := bq hb ls qs2; have qs3 := bq hb ls qs3; have qs4 := bq hb ls qs4; have qs5 := bq hb ls qs5
  have ls := bl hb ls
  have hB := below_later hB hb
  clear hb
  go_wp2_with fail
  obtain ⟨w20, hW, hz0, hb, q, f⟩ := box1g w19 (w19.heap.size) (by omega) #[.bool (neg (q + r).num), .slice ahYU nhYU chYU, .slice ahYD nhYD chYD] 31
  rw [hW]
  clear hW
  have g1 := g1.past hb
  have g2 := g2.past hb
  have g3 := g3.past hb
  have g4 := g4.past hb
  have g5 := g5.past hb
  have g6 := g6.past hb
  have hDU := hDU.past hb
  have hDD := hDD.past hb
  have hXU := hXU.past hb
  have hXD := hXD.past hb
  have hYU := hYU.past hb
  have hYD := hYD.past hb
  have qx0 := bq hb lx qx0; have qx1 := bq hb lx qx1; have qx2 := bq hb lx qx2
  have lx := bl hb lx
  have qy0 := bq hb ly qy0; have qy1 := bq hb ly qy1; have qy2 := bq hb ly qy2
  have ly := bl hb ly
  have qz0 := bq hb lz qz0; have qz1 := bq hb lz qz1; have qz2 := bq hb lz qz2
  have lz := bl hb lz
  have qd0 := bq hb ld qd0; have qd1 := bq hb ld qd1; have qd2 := bq hb ld qd2
  have ld := bl hb ld
  have qhX0 := bq hb lhX qhX0; have qhX1 := bq hb lhX qhX1; have qhX2 := bq hb lhX qhX2
  have lhX := bl hb lhX
  have hB := below_later hB hb
  clear hb
  have lhY : w19.heap.size < w20.heap.size := by omega
  have qhY0 := q 0; have qhY1 := q 1; have qhY2 := q 2
  simp only [List.getElem?_toArray, List.getElem?_cons_zero, List.getElem?_cons_succ] at qhY0 qhY1 qhY2
  clear q f
  clear hz0
  with_reducible refine (cmp_rat hXU.toNatAt hXD.toNatAt hYU.toNatAt hYD.toNatAt (Nat.le_trans (rlen_add lp lr5) (by decide)) (Nat.le_trans (rlen_add lq lr5) (by decide))).mono ?_
  rintro e w21 ⟨rfl, hb⟩
  have g1 := g1.past hb
  have g2 := g2.past hb
  have g3 := g3.past hb
  have g4 := g4.past hb
  have g5 := g5.past hb
  have g6 := g6.past hb
  have hDU := hDU.past hb
  have hDD := hDD.past hb
  have hXU := hXU.past hb
  have hXD := hXD.past hb
  have hYU := hYU.past hb
  have hYD := hYD.past hb
  have qx0 := bq hb lx qx0; have qx1 := bq hb lx qx1; have qx2 := bq hb lx qx2
  have lx := bl hb lx
  have qy0 := bq hb ly qy0; have qy1 := bq hb ly qy1; have qy2 := bq hb ly qy2
  have ly := bl hb ly
  have qz0 := bq hb lz qz0; have qz1 := bq hb lz qz1; have qz2 := bq hb lz qz2
  have lz := bl hb lz
  have qd0 := bq hb ld qd0; have qd1 := bq hb ld qd1; have qd2 := bq hb ld qd2
  have ld := bl hb ld
  have qhX0 := bq hb lhX qhX0; have qhX1 := bq hb lhX qhX1; have qhX2 := bq hb lhX qhX2
  have lhX := bl hb lhX
  have qhY0 := bq hb lhY qhY0; have qhY1 := bq hb lhY qhY1; have qhY2 := bq hb lhY qhY2
  have lhY := bl hb lhY
  have hB := below_later hB hb
  clear hb
  rw [OO.out]
  go_wp2_with fail
  with_reducible refine (sign_c hDU.toNatAt (by omega)).mono ?_
  rintro e w22 ⟨rfl, hb⟩
  have g1 := g1.past hb
  have g2 := g2.past hb
  have g3 := g3.past hb
  have g4 := g4.past hb
  have g5 := g5.past hb
  have g6 := g6.past hb
  have hDU := hDU.past hb
  have hDD := hDD.past hb
  have qx0 := bq hb lx qx0; have qx1 := bq hb lx qx1; have qx2 := bq hb lx qx2
  have lx := bl hb lx
  have qy0 := bq hb ly qy0; have qy1 := bq hb ly qy1; have qy2 := bq hb ly qy2
  have ly := bl hb ly
  have qz0 := bq hb lz qz0; have qz1 := bq hb lz qz1; have qz2 := bq hb lz qz2
  have lz := bl hb lz
  have qd0 := bq hb ld qd0; have qd1 := bq hb ld qd1; have qd2 := bq hb ld qd2
  have ld := bl hb ld
  have hB := below_later hB hb
  clear hb
  rw [NN.out]
  go_wp2_with fail
  with_reducible refine (sameRatio_any _ _ _ _ (digs p.num.natAbs) _ _ _ (digs p.den) _ _ _ _ (digs q.num.natAbs) _ _ _ (digs q.den) _ g1 g2 g3 g4).mono ?_
  rintro e w23 ⟨rfl, hb⟩
  have g1 := g1.past hb
  have g2 := g2.past hb
  have g3 := g3.past hb
  have g4 := g4.past hb
  have g5 := g5.past hb
  have g6 := g6.past hb
  have hDU := hDU.past hb
  have hDD := hDD.past hb
  have qx0 := bq hb lx qx0; have qx1 := bq hb lx qx1; have qx2 := bq hb lx qx2
  have lx := bl hb lx
  have qy0 := bq hb ly qy0; have qy1 := bq hb ly qy1; have qy2 := bq hb ly qy2
  have ly := bl hb ly
  have qz0 := bq hb lz qz0; have qz1 := bq hb lz qz1; have qz2 := bq hb lz qz2
  have lz := bl hb lz
  have qd0 := bq hb ld qd0; have qd1 := bq hb ld qd1; have qd2 := bq hb ld qd2
  have ld := bl hb ld
  have hB := below_later hB hb
  clear hb
  rw [SS.out]
  go_wp2
  go_ret
  exact ⟨rfl, hB⟩

set_option maxRecDepth 100000 in
set_option maxHeartbeats 16000000 in
theorem ratioOrder_ltn {p q r : Rat} {a1 : Option Addr} {n1 c1 : Nat} {a2 : Option Addr} {n2 c2 : Nat} {a3 : Option Addr} {n3 c3 : Nat} {a4 : Option Addr} {n4 c4 : Nat} {a5 : Option Addr} {n5 c5 : Nat} {a6 : Option Addr} {n6 c6 : Nat} {w : World} (g1 : NatAt w a1 n1 c1 (digs p.num.natAbs)) (g2 : NatAt w a2 n2 c2 (digs p.den)) (g3 : NatAt w a3 n3 c3 (digs q.num.natAbs)) (g4 : NatAt w a4 n4 c4 (digs q.den)) (g5 : NatAt w a5 n5 c5 (digs r.num.natAbs)) (g6 : NatAt w a6 n6 c6 (digs r.den)) (hs : ((digs p.num.natAbs).length ≤ 5 ∧ (digs p.den).length ≤ 5) ∧ ((digs q.num.natAbs).length ≤ 5 ∧ (digs q.den).length ≤ 5) ∧ ((digs r.num.natAbs).length ≤ 5 ∧ (digs r.den).length ≤ 5)) (hl : (longP ((neg p.num), (digs p.num.natAbs), (digs p.den)) || (longP ((neg q.num), (digs q.num.natAbs), (digs q.den)) || longP ((neg r.num), (digs r.num.natAbs), (digs r.den)))) = false) (hn : (p - q).num.sign = -1) (hk : (q - r).num.sign = -1) :
    Calls Try.prog 4 #[.agg #[.bool (neg p.num), .slice a1 n1 c1, .slice a2 n2 c2], .agg #[.bool (neg q.num), .slice a3 n3 c3, .slice a4 n4 c4], .agg #[.bool (neg r.num), .slice a5 n5 c5, .slice a6 n6 c6]] w (RetVal w (.bool true)) := by
  rw [← longB3] at hl
  have gk : ∀ i, i < 3 → ((rawF [((neg p.num), (digs p.num.natAbs), (digs p.den)), ((neg q.num), (digs q.num.natAbs), (digs q.den)), ((neg r.num), (digs r.num.natAbs), (digs r.den))]) i).2.1.length ≤ 68719476736 ∧ ((rawF [((neg p.num), (digs p.num.natAbs), (digs p.den)), ((neg q.num), (digs q.num.natAbs), (digs q.den)), ((neg r.num), (digs r.num.natAbs), (digs r.den))]) i).2.2.length ≤ 68719476736 := fun i hi => by
    match i, hi with
    | 0, _ => exact ⟨Nat.le_trans hs.1.1 (by decide), Nat.le_trans hs.1.2 (by decide)⟩
    | 1, _ => exact ⟨Nat.le_trans hs.2.1.1 (by decide), Nat.le_trans hs.2.1.2 (by decide)⟩
    | 2, _ => exact ⟨Nat.le_trans hs.2.2.1 (by decide), Nat.le_trans hs.2.2.2 (by decide)⟩
  have e3 := allR3 ((neg p.num), (digs p.num.natAbs), (digs p.den)) ((neg q.num), (digs q.num.natAbs), (digs q.den)) ((neg r.num), (digs r.num.natAbs), (digs r.den))
  rw [show decide (chk3 ((neg p.num), (digs p.num.natAbs), (digs p.den)) = 0) = true from decide_eq_true (chk3_parts p), show decide (chk3 ((neg q.num), (digs q.num.natAbs), (digs q.den)) = 0) = true from decide_eq_true (chk3_parts q), show decide (chk3 ((neg r.num), (digs r.num.natAbs), (digs r.den)) = 0) = true from decide_eq_true (chk3_parts r)] at e3
  have e3 : allR (rawF [((neg p.num), (digs p.num.natAbs), (digs p.den)), ((neg q.num), (digs q.num.natAbs), (digs q.den)), ((neg r.num), (digs r.num.natAbs), (digs r.den))]) 3 = true := e3
  have lp : rlen p ≤ 5 := Nat.max_le.2 hs.1
  have lq : rlen q ≤ 5 := Nat.max_le.2 hs.2.1
  have lr5 : rlen r ≤ 5 := Nat.max_le.2 hs.2.2
  have hm : (q - p).num.sign = 1 := by rw [sgn_turn p q, hn]; try rfl
  have ho : (p + r - (q + r)).num.sign = -1 := by rw [add_sub_add]; exact hn
  have hsame : eqR (neg p.num) (digs p.num.natAbs) (digs p.den) (neg q.num) (digs q.num.natAbs) (digs q.den) = false := by rw [eqR_eqQ]; exact decide_eq_false fun e => by rw [sgn_zero.2 e] at hn; exact absurd hn (by decide)
  have hl9 : (p - r).num.sign = -1 := sgn_trans hn hk
  have LB := Lib.hid hl
  have GK := Lib.hid gk
  have GB := Lib.hid e3
  have NN := Lib.hid hn
  have MM := Lib.hid hm
  have KK := Lib.hid hk
  have LL := Lib.hid hl9
  have OO := Lib.hid ho
  have SS := Lib.hid hsame
  clear hl gk e3 hn hm hk hl9 ho hsame
  go_enter Try.func4, Try.ntmps4
  have hB := Below.refl w.heap.size w
  go_wp2_with fail
  obtain ⟨w1, hW, hz0, hb, q, f⟩ := box1g w (w.heap.size) (by omega) #[.bool (neg p.num), .slice a1 n1 c1, .slice a2 n2 c2] 31
  rw [hW]
  clear hW
  have g1 := g1.past hb
  have g2 := g2.past hb
  have g3 := g3.past hb
  have g4 := g4.past hb
  have g5 := g5.past hb
  have g6 := g6.past hb
  have hB := below_later hB hb
  clear hb
  have lx : w.heap.size < w1.heap.size := by omega
  have qx0 := q 0; have qx1 := q 1; have qx2 := q 2
  simp only [List.getElem?_toArray, List.getElem?_cons_zero, List.getElem?_cons_succ] at qx0 qx1 qx2
  clear q f
  obtain ⟨w2, hW, hz1, hb, q, f⟩ := box1g w1 (w.heap.size + 1) (by omega) #[.bool (neg q.num), .slice a3 n3 c3, .slice a4 n4 c4] 31
  rw [hW]
  clear hW
  have g1 := g1.past hb
  have g2 := g2.past hb
  have g3 := g3.past hb
  have g4 := g4.past hb
  have g5 := g5.past hb
  have g6 := g6.past hb
  have qx0 := bq hb lx qx0; have qx1 := bq hb lx qx1; have qx2 := bq hb lx qx2
  have lx := bl hb lx
  have hB := below_later hB hb
  clear hb
  have ly : w.heap.size + 1 < w2.heap.size := by omega
  have qy0 := q 0; have qy1 := q 1; have qy2 := q 2
  simp only [List.getElem?_toArray, List.getElem?_cons_zero, List.getElem?_cons_succ] at qy0 qy1 qy2
  clear q f
  obtain ⟨w3, hW, hz2, hb, q, f⟩ := box1g w2 (w.heap.size + 1 + 1) (by omega) #[.bool (neg r.num), .slice a5 n5 c5, .slice a6 n6 c6] 31
  rw [hW]
  clear hW
  have g1 := g1.past hb
  have g2 := g2.past hb
  have g3 := g3.past hb
  have g4 := g4.past hb
  have g5 := g5.past hb
  have g6 := g6.past hb
  have qx0 := bq hb lx qx0; have qx1 := bq hb lx qx1; have qx2 := bq hb lx qx2
  have lx := bl hb lx
  have qy0 := bq hb ly qy0; have qy1 := bq hb ly qy1; have qy2 := bq hb ly qy2
  have ly := bl hb ly
  have hB := below_later hB hb
  clear hb
  have lz : w.heap.size + 1 + 1 < w3.heap.size := by omega
  have qz0 := q 0; have qz1 := q 1; have qz2 := q 2
  simp only [List.getElem?_toArray, List.getElem?_cons_zero, List.getElem?_cons_succ] at qz0 qz1 qz2
  clear q f
  clear hz0
  clear hz1
  clear hz2
  with_reducible refine (awake05 _).mono ?_
  rintro e w4 ⟨rfl, hb⟩
  have g1 := g1.past hb
  have g2 := g2.past hb
  have g3 := g3.past hb
  have g4 := g4.past hb
  have g5 := g5.past hb
  have g6 := g6.past hb
  have qx0 := bq hb lx qx0; have qx1 := bq hb lx qx1; have qx2 := bq hb lx qx2
  have lx := bl hb lx
  have qy0 := bq hb ly qy0; have qy1 := bq hb ly qy1; have qy2 := bq hb ly qy2
  have ly := bl hb ly
  have qz0 := bq hb lz qz0; have qz1 := bq hb lz qz1; have qz2 := bq hb lz qz2
  have lz := bl hb lz
  have hB := below_later hB hb
  clear hb
  go_wp2_with fail
  obtain ⟨w5, hW, hz0, hb, q, f⟩ := box1g w4 (w4.heap.size) (by omega) #[.bool (neg p.num), .slice a1 n1 c1, .slice a2 n2 c2, .bool (neg q.num), .slice a3 n3 c3, .slice a4 n4 c4, .bool (neg r.num), .slice a5 n5 c5, .slice a6 n6 c6] 31
  rw [hW]
  clear hW
  have g1 := g1.past hb
  have g2 := g2.past hb
  have g3 := g3.past hb
  have g4 := g4.past hb
  have g5 := g5.past hb
  have g6 := g6.past hb
  have qx0 := bq hb lx qx0; have qx1 := bq hb lx qx1; have qx2 := bq hb lx qx2
  have lx := bl hb lx
  have qy0 := bq hb ly qy0; have qy1 := bq hb ly qy1; have qy2 := bq hb ly qy2
  have ly := bl hb ly
  have qz0 := bq hb lz qz0; have qz1 := bq hb lz qz1; have qz2 := bq hb lz qz2
  have lz := bl hb lz
  have hB := below_later hB hb
  clear hb
  have ls : w4.heap.size < w5.heap.size := by omega
  have qs0 := q 0; have qs1 := q 1; have qs2 := q 2; have qs3 := q 3; have qs4 := q 4; have qs5 := q 5; have qs6 := q 6; have qs7 := q 7; have qs8 := q 8
  simp only [List.getElem?_toArray, List.getElem?_cons_zero, List.getElem?_cons_succ] at qs0 qs1 qs2 qs3 qs4 qs5 qs6 qs7 qs8
  clear q f
  clear hz0
  with_reducible refine (long05_any _ _ _ _ _ (RatsAt.raw3 (x := ((neg p.num), (digs p.num.natAbs), (digs p.den))) (y := ((neg q.num), (digs q.num.natAbs), (digs q.den))) (z := ((neg r.num), (digs r.num.natAbs), (digs r.den))) ls qs0 qs1 qs2 qs3 qs4 qs5 qs6 qs7 qs8 g1 g2 g3 g4 g5 g6)).mono ?_
  rintro e w6 ⟨rfl, hb⟩
  have g1 := g1.past hb
  have g2 := g2.past hb
  have g3 := g3.past hb
  have g4 := g4.past hb
  have g5 := g5.past hb
  have g6 := g6.past hb
  have qx0 := bq hb lx qx0; have qx1 := bq hb lx qx1; have qx2 := bq hb lx qx2
  have lx := bl hb lx
  have qy0 := bq hb ly qy0; have qy1 := bq hb ly qy1; have qy2 := bq hb ly qy2
  have ly := bl hb ly
  have qz0 := bq hb lz qz0; have qz1 := bq hb lz qz1; have qz2 := bq hb lz qz2
  have lz := bl hb lz
  have qs0 := bq hb ls qs0; have qs1 := bq hb ls qs1; have qs2 := bq hb ls qs2; have qs3 := bq hb ls qs3; have qs4 := bq hb ls qs4; have qs5 := bq hb ls qs5; have qs6 := bq hb ls qs6; have qs7 := bq hb ls qs7; have qs8 := bq hb ls qs8
  have ls := bl hb ls
  have hB := below_later hB hb
  clear hb
  rw [LB.out]
  go_wp2_with fail
  obtain ⟨w7, hW, hz0, hb, q, f⟩ := box1g w6 (w6.heap.size) (by omega) #[.bool (neg p.num), .slice a1 n1 c1, .slice a2 n2 c2, .bool (neg q.num), .slice a3 n3 c3, .slice a4 n4 c4, .bool (neg r.num), .slice a5 n5 c5, .slice a6 n6 c6] 31
  rw [hW]
  clear hW
  have g1 := g1.past hb
  have g2 := g2.past hb
  have g3 := g3.past hb
  have g4 := g4.past hb
  have g5 := g5.past hb
  have g6 := g6.past hb
  have qx0 := bq hb lx qx0; have qx1 := bq hb lx qx1; have qx2 := bq hb lx qx2
  have lx := bl hb lx
  have qy0 := bq hb ly qy0; have qy1 := bq hb ly qy1; have qy2 := bq hb ly qy2
  have ly := bl hb ly
  have qz0 := bq hb lz qz0; have qz1 := bq hb lz qz1; have qz2 := bq hb lz qz2
  have lz := bl hb lz
  have hB := below_later hB hb
  clear hb
  have ls : w6.heap.size < w7.heap.size := by omega
  have qs0 := q 0; have qs1 := q 1; have qs2 := q 2; have qs3 := q 3; have qs4 := q 4; have qs5 := q 5; have qs6 := q 6; have qs7 := q 7; have qs8 := q 8
  simp only [List.getElem?_toArray, List.getElem?_cons_zero, List.getElem?_cons_succ] at qs0 qs1 qs2 qs3 qs4 qs5 qs6 qs7 qs8
  clear q f
  clear hz0
  with_reducible refine (good05_any _ _ _ _ _ (RatsAt.raw3 (x := ((neg p.num), (digs p.num.natAbs), (digs p.den))) (y := ((neg q.num), (digs q.num.natAbs), (digs q.den))) (z := ((neg r.num), (digs r.num.natAbs), (digs r.den))) ls qs0 qs1 qs2 qs3 qs4 qs5 qs6 qs7 qs8 g1 g2 g3 g4 g5 g6) GK.out).mono ?_
  rintro e w8 ⟨rfl, hb⟩
  have g1 := g1.past hb
  have g2 := g2.past hb
  have g3 := g3.past hb
  have g4 := g4.past hb
  have g5 := g5.past hb
  have g6 := g6.past hb
  have qx0 := bq hb lx qx0; have qx1 := bq hb lx qx1; have qx2 := bq hb lx qx2
  have lx := bl hb lx
  have qy0 := bq hb ly qy0; have qy1 := bq hb ly qy1; have qy2 := bq hb ly qy2
  have ly := bl hb ly
  have qz0 := bq hb lz qz0; have qz1 := bq hb lz qz1; have qz2 := bq hb lz qz2
  have lz := bl hb lz
  have qs0 := bq hb ls qs0; have qs1 := bq hb ls qs1; have qs2 := bq hb ls qs2; have qs3 := bq hb ls qs3; have qs4 := bq hb ls qs4; have qs5 := bq hb ls qs5; have qs6 := bq hb ls qs6; have qs7 := bq hb ls qs7; have qs8 := bq hb ls qs8
  have ls := bl hb ls
  have hB := below_later hB hb
  clear hb
  rw [GB.out]
  go_wp2_with fail
  with_reducible refine (cmp_rat g1 g2 g3 g4 (Nat.le_trans lp (by decide)) (Nat.le_trans lq (by decide))).mono ?_
  rintro e w9 ⟨rfl, hb⟩
  have g1 := g1.past hb
  have g2 := g2.past hb
  have g3 := g3.past hb
  have g4 := g4.past hb
  have g5 := g5.past hb
  have g6 := g6.past hb
  have qx0 := bq hb lx qx0; have qx1 := bq hb lx qx1; have qx2 := bq hb lx qx2
  have lx := bl hb lx
  have qy0 := bq hb ly qy0; have qy1 := bq hb ly qy1; have qy2 := bq hb ly qy2
  have ly := bl hb ly
  have qz0 := bq hb lz qz0; have qz1 := bq hb lz qz1; have qz2 := bq hb lz qz2
  have lz := bl hb lz
  have hB := below_later hB hb
  clear hb
  rw [NN.out]
  go_wp2_with fail
  with_reducible refine (cmp_rat g3 g4 g1 g2 (Nat.le_trans lq (by decide)) (Nat.le_trans lp (by decide))).mono ?_
  rintro e w10 ⟨rfl, hb⟩
  have g1 := g1.past hb
  have g2 := g2.past hb
  have g3 := g3.past hb
  have g4 := g4.past hb
  have g5 := g5.past hb
  have g6 := g6.past hb
  have qx0 := bq hb lx qx0; have qx1 := bq hb lx qx1; have qx2 := bq hb lx qx2
  have lx := bl hb lx
  have qy0 := bq hb ly qy0; have qy1 := bq hb ly qy1; have qy2 := bq hb ly qy2
  have ly := bl hb ly
  have qz0 := bq hb lz qz0; have qz1 := bq hb lz qz1; have qz2 := bq hb lz qz2
  have lz := bl hb lz
  have hB := below_later hB hb
  clear hb
  rw [MM.out]
  go_wp2_with fail
  with_reducible refine (cmp_rat g3 g4 g5 g6 (Nat.le_trans lq (by decide)) (Nat.le_trans lr5 (by decide))).mono ?_
  rintro e w11 ⟨rfl, hb⟩
  have g1 := g1.past hb
  have g2 := g2.past hb
  have g3 := g3.past hb
  have g4 := g4.past hb
  have g5 := g5.past hb
  have g6 := g6.past hb
  have qx0 := bq hb lx qx0; have qx1 := bq hb lx qx1; have qx2 := bq hb lx qx2
  have lx := bl hb lx
  have qy0 := bq hb ly qy0; have qy1 := bq hb ly qy1; have qy2 := bq hb ly qy2
  have ly := bl hb ly
  have qz0 := bq hb lz qz0; have qz1 := bq hb lz qz1; have qz2 := bq hb lz qz2
  have lz := bl hb lz
  have hB := below_later hB hb
  clear hb
  rw [KK.out]
  go_wp2_with fail
  with_reducible refine (cmp_rat g1 g2 g5 g6 (Nat.le_trans lp (by decide)) (Nat.le_trans lr5 (by decide))).mono ?_
  rintro e w12 ⟨rfl, hb⟩
  have g1 := g1.past hb
  have g2 := g2.past hb
  have g3 := g3.past hb
  have g4 := g4.past hb
  have g5 := g5.past hb
  have g6 := g6.past hb
  have qx0 := bq hb lx qx0; have qx1 := bq hb lx qx1; have qx2 := bq hb lx qx2
  have lx := bl hb lx
  have qy0 := bq hb ly qy0; have qy1 := bq hb ly qy1; have qy2 := bq hb ly qy2
  have ly := bl hb ly
  have qz0 := bq hb lz qz0; have qz1 := bq hb lz qz1; have qz2 := bq hb lz qz2
  have lz := bl hb lz
  have hB := below_later hB hb
  clear hb
  rw [LL.out]
  go_wp2_with fail
  with_reducible refine (sub_rat g1 g2 g3 g4 (Nat.le_trans lp (by decide)) (Nat.le_trans lq (by decide))).mono ?_
  rintro e w13 ⟨ahDU, nhDU, chDU, ahDD, nhDD, chDD, rfl, hDU, hDD, hb⟩
  have g1 := g1.past hb
  have g2 := g2.past hb
  have g3 := g3.past hb
  have g4 := g4.past hb
  have g5 := g5.past hb
  have g6 := g6.past hb
  have qx0 := bq hb lx qx0; have qx1 := bq hb lx qx1; have qx2 := bq hb lx qx2
  have lx := bl hb lx
  have qy0 := bq hb ly qy0; have qy1 := bq hb ly qy1; have qy2 := bq hb ly qy2
  have ly := bl hb ly
  have qz0 := bq hb lz qz0; have qz1 := bq hb lz qz1; have qz2 := bq hb lz qz2
  have lz := bl hb lz
  have hB := below_later hB hb
  clear hb
  have bD : nhDU ≤ 11 := by rw [← hDU.len]; exact rlen_up (rlen_sub lp lq)
  go_wp2_with fail
  obtain ⟨w14, hW, hz0, hb, q, f⟩ := box1g w13 (w13.heap.size) (by omega) #[.bool (neg (p - q).num), .slice ahDU nhDU chDU, .slice ahDD nhDD chDD] 31
  rw [hW]
  clear hW
  have g1 := g1.past hb
  have g2 := g2.past hb
  have g3 := g3.past hb
  have g4 := g4.past hb
  have g5 := g5.past hb
  have g6 := g6.past hb
  have hDU := hDU.past hb
  have hDD := hDD.past hb
  have qx0 := bq hb lx qx0; have qx1 := bq hb lx qx1; have qx2 := bq hb lx qx2
  have lx := bl hb lx
  have qy0 := bq hb ly qy0; have qy1 := bq hb ly qy1; have qy2 := bq hb ly qy2
  have ly := bl hb ly
  have qz0 := bq hb lz qz0; have qz1 := bq hb lz qz1; have qz2 := bq hb lz qz2
  have lz := bl hb lz
  have hB := below_later hB hb
  clear hb
  have ld : w13.heap.size < w14.heap.size := by omega
  have qd0 := q 0; have qd1 := q 1; have qd2 := q 2
  simp only [List.getElem?_toArray, List.getElem?_cons_zero, List.getElem?_cons_succ] at qd0 qd1 qd2
  clear q f
  obtain ⟨w15, hW, hz1, hb, q, f⟩ := box1g w14 (w13.heap.size + 1) (by omega) #[.bool (neg p.num), .slice a1 n1 c1, .slice a2 n2 c2, .bool (neg r.num), .slice a5 n5 c5, .slice a6 n6 c6] 31
  rw [hW]
  clear hW
  have g1 := g1.past hb
  have g2 := g2.past hb
  have g3 := g3.past hb
  have g4 := g4.past hb
  have g5 := g5.past hb
  have g6 := g6.past hb
  have hDU := hDU.past hb
  have hDD := hDD.past hb
  have qx0 := bq hb lx qx0; have qx1 := bq hb lx qx1; have qx2 := bq hb lx qx2
  have lx := bl hb lx
  have qy0 := bq hb ly qy0; have qy1 := bq hb ly qy1; have qy2 := bq hb ly qy2
  have ly := bl hb ly
  have qz0 := bq hb lz qz0; have qz1 := bq hb lz qz1; have qz2 := bq hb lz qz2
  have lz := bl hb lz
  have qd0 := bq hb ld qd0; have qd1 := bq hb ld qd1; have qd2 := bq hb ld qd2
  have ld := bl hb ld
  have hB := below_later hB hb
  clear hb
  have ls : w13.heap.size + 1 < w15.heap.size := by omega
  have qs0 := q 0; have qs1 := q 1; have qs2 := q 2; have qs3 := q 3; have qs4 := q 4; have qs5 := q 5
  simp only [List.getElem?_toArray, List.getElem?_cons_zero, List.getElem?_cons_succ] at qs0 qs1 qs2 qs3 qs4 qs5
  clear q f
  clear hz0
  clear hz1
  with_reducible refine (add_two (RatsAt.two ls qs0 qs1 qs2 qs3 qs4 qs5 g1 g2 g5 g6) (Nat.le_trans lp (by decide)) (Nat.le_trans lr5 (by decide))).mono ?_
  rintro e w16 ⟨ahXU, nhXU, chXU, ahXD, nhXD, chXD, rfl, hXU, hXD, hb⟩
  have g1 := g1.past hb
  have g2 := g2.past hb
  have g3 := g3.past hb
  have g4 := g4.past hb
  have g5 := g5.past hb
  have g6 := g6.past hb
  have hDU := hDU.past hb
  have hDD := hDD.past hb
  have qx0 := bq hb lx qx0; have qx1 := bq hb lx qx1; have qx2 := bq hb lx qx2
  have lx := bl hb lx
  have qy0 := bq hb ly qy0; have qy1 := bq hb ly qy1; have qy2 := bq hb ly qy2
  have ly := bl hb ly
  have qz0 := bq hb lz qz0; have qz1 := bq hb lz qz1; have qz2 := bq hb lz qz2
  have lz := bl hb lz
  have qd0 := bq hb ld qd0; have qd1 := bq hb ld qd1; have qd2 := bq hb ld qd2
  have ld := bl hb ld
  have qs0 := bq hb ls qs0; have qs1 := bq hb ls qs1; have qs2 := bq hb ls qs2; have qs3 := bq hb ls qs3; have qs4 := bq hb ls qs4; have qs5 := bq hb ls qs5
  have ls := bl hb ls
  have hB := below_later hB hb
  clear hb
  go_wp2_with fail
  obtain ⟨w17, hW, hz0, hb, q, f⟩ := box1g w16 (w16.heap.size) (by omega) #[.bool (neg (p + r).num), .slice ahXU nhXU chXU, .slice ahXD nhXD chXD] 31
  rw [hW]
  clear hW
  have g1 := g1.past hb
  have g2 := g2.past hb
  have g3 := g3.past hb
  have g4 := g4.past hb
  have g5 := g5.past hb
  have g6 := g6.past hb
  have hDU := hDU.past hb
  have hDD := hDD.past hb
  have hXU := hXU.past hb
  have hXD := hXD.past hb
  have qx0 := bq hb lx qx0; have qx1 := bq hb lx qx1; have qx2 := bq hb lx qx2
  have lx := bl hb lx
  have qy0 := bq hb ly qy0; have qy1 := bq hb ly qy1; have qy2 := bq hb ly qy2
  have ly := bl hb ly
  have qz0 := bq hb lz qz0; have qz1 := bq hb lz qz1; have qz2 := bq hb lz qz2
  have lz := bl hb lz
  have qd0 := bq hb ld qd0; have qd1 := bq hb ld qd1; have qd2 := bq hb ld qd2
  have ld := bl hb ld
  have hB := below_later hB hb
  clear hb
  have lhX : w16.heap.size < w17.heap.size := by omega
  have qhX0 := q 0; have qhX1 := q 1; have qhX2 := q 2
  simp only [List.getElem?_toArray, List.getElem?_cons_zero, List.getElem?_cons_succ] at qhX0 qhX1 qhX2
  clear q f
  obtain ⟨w18, hW, hz1, hb, q, f⟩ := box1g w17 (w16.heap.size + 1) (by omega) #[.bool (neg q.num), .slice a3 n3 c3, .slice a4 n4 c4, .bool (neg r.num), .slice a5 n5 c5, .slice a6 n6 c6] 31
  rw [hW]
  clear hW
  have g1 := g1.past hb
  have g2 := g2.past hb
  have g3 := g3.past hb
  have g4 := g4.past hb
  have g5 := g5.past hb
  have g6 := g6.past hb
  have hDU := hDU.past hb
  have hDD := hDD.past hb
  have hXU := hXU.past hb
  have hXD := hXD.past hb
  have qx0 := bq hb lx qx0; have qx1 := bq hb lx qx1; have qx2 := bq hb lx qx2
  have lx := bl hb lx
  have qy0 := bq hb ly qy0; have qy1 := bq hb ly qy1; have qy2 := bq hb ly qy2
  have ly := bl hb ly
  have qz0 := bq hb lz qz0; have qz1 := bq hb lz qz1; have qz2 := bq hb lz qz2
  have lz := bl hb lz
  have qd0 := bq hb ld qd0; have qd1 := bq hb ld qd1; have qd2 := bq hb ld qd2
  have ld := bl hb ld
  have qhX0 := bq hb lhX qhX0; have qhX1 := bq hb lhX qhX1; have qhX2 := bq hb lhX qhX2
  have lhX := bl hb lhX
  have hB := below_later hB hb
  clear hb
  have ls : w16.heap.size + 1 < w18.heap.size := by omega
  have qs0 := q 0; have qs1 := q 1; have qs2 := q 2; have qs3 := q 3; have qs4 := q 4; have qs5 := q 5
  simp only [List.getElem?_toArray, List.getElem?_cons_zero, List.getElem?_cons_succ] at qs0 qs1 qs2 qs3 qs4 qs5
  clear q f
  clear hz0
  clear hz1
  with_reducible refine (add_two (RatsAt.two ls qs0 qs1 qs2 qs3 qs4 qs5 g3 g4 g5 g6) (Nat.le_trans lq (by decide)) (Nat.le_trans lr5 (by decide))).mono ?_
  rintro e w19 ⟨ahYU, nhYU, chYU, ahYD, nhYD, chYD, rfl, hYU, hYD, hb⟩
  have g1 := g1.past hb
  have g2 := g2.past hb
  have g3 := g3.past hb
  have g4 := g4.past hb
  have g5 := g5.past hb
  have g6 := g6.past hb
  have hDU := hDU.past hb
  have hDD := hDD.past hb
  have hXU := hXU.past hb
  have hXD := hXD.past hb
  have qx0 := bq hb lx qx0; have qx1 := bq hb lx qx1; have qx2 := bq hb lx qx2
  have lx := bl hb lx
  have qy0 := bq hb ly qy0; have qy1 := bq hb ly qy1; have qy2 := bq hb ly qy2
  have ly := bl hb ly
  have qz0 := bq hb lz qz0; have qz1 := bq hb lz qz1; have qz2 := bq hb lz qz2
  have lz := bl hb lz
  have qd0 := bq hb ld qd0; have qd1 := bq hb ld qd1; have qd2 := bq hb ld qd2
  have ld := bl hb ld
  have qhX0 := bq hb lhX qhX0; have qhX1 := bq hb lhX qhX1; have qhX2 := bq hb lhX qhX2
  have lhX := bl hb lhX
  have qs0 := bq hb ls qs0; have qs1 := bq hb ls qs1; have qs2 := bq hb ls qs2; have qs3 := bq hb ls qs3; have qs4 := bq hb ls qs4; have qs5 := bq hb ls qs5
  have ls := bl hb ls
  have hB := below_later hB hb
  clear hb
  go_wp2_with fail
  obtain ⟨w20, hW, hz0, hb, q, f⟩ := box1g w19 (w19.heap.size) (by omega) #[.bool (neg (q + r).num), .slice ahYU nhYU chYU, .slice ahYD nhYD chYD] 31
  rw [hW]
  clear hW
  have g1 := g1.past hb
  have g2 := g2.past hb
  have g3 := g3.past hb
  have g4 := g4.past hb
  have g5 := g5.past hb
  have g6 := g6.past hb
  have hDU := hDU.past hb
  have hDD := hDD.past hb
  have hXU := hXU.past hb
  have hXD := hXD.past hb
  have hYU := hYU.past hb
  have hYD := hYD.past hb
  have qx0 := bq hb lx qx0; have qx1 := bq hb lx qx1; have qx2 := bq hb lx qx2
  have lx := bl hb lx
  have qy0 := bq hb ly qy0; have qy1 := bq hb ly qy1; have qy2 := bq hb ly qy2
  have ly := bl hb ly
  have qz0 := bq hb lz qz0; have qz1 := bq hb lz qz1; have qz2 := bq hb lz qz2
  have lz := bl hb lz
  have qd0 := bq hb ld qd0; have qd1 := bq hb ld qd1; have qd2 := bq hb ld qd2
  have ld := bl hb ld
  have qhX0 := bq hb lhX qhX0; have qhX1 := bq hb lhX qhX1; have qhX2 := bq hb lhX qhX2
  have lhX := bl hb lhX
  have hB := below_later hB hb
  clear hb
  have lhY : w19.heap.size < w20.heap.size := by omega
  have qhY0 := q 0; have qhY1 := q 1; have qhY2 := q 2
  simp only [List.getElem?_toArray, List.getElem?_cons_zero, List.getElem?_cons_succ] at qhY0 qhY1 qhY2
  clear q f
  clear hz0
  with_reducible refine (cmp_rat hXU.toNatAt hXD.toNatAt hYU.toNatAt hYD.toNatAt (Nat.le_trans (rlen_add lp lr5) (by decide)) (Nat.le_trans (rlen_add lq lr5) (by decide))).mono ?_
  rintro e w21 ⟨rfl, hb⟩
  have g1 := g1.past hb
  have g2 := g2.past hb
  have g3 := g3.past hb
  have g4 := g4.past hb
  have g5 := g5.past hb
  have g6 := g6.past hb
  have hDU := hDU.past hb
  have hDD := hDD.past hb
  have hXU := hXU.past hb
  have hXD := hXD.past hb
  have hYU := hYU.past hb
  have hYD := hYD.past hb
  have qx0 := bq hb lx qx0; have qx1 := bq hb lx qx1; have qx2 := bq hb lx qx2
  have lx := bl hb lx
  have qy0 := bq hb ly qy0; have qy1 := bq hb ly qy1; have qy2 := bq hb ly qy2
  have ly := bl hb ly
  have qz0 := bq hb lz qz0; have qz1 := bq hb lz qz1; have qz2 := bq hb lz qz2
  have lz := bl hb lz
  have qd0 := bq hb ld qd0; have qd1 := bq hb ld qd1; have qd2 := bq hb ld qd2
  have ld := bl hb ld
  have qhX0 := bq hb lhX qhX0; have qhX1 := bq hb lhX qhX1; have qhX2 := bq hb lhX qhX2
  have lhX := bl hb lhX
  have qhY0 := bq hb lhY qhY0; have qhY1 := bq hb lhY qhY1; have qhY2 := bq hb lhY qhY2
  have lhY := bl hb lhY
  have hB := below_later hB hb
  clear hb
  rw [OO.out]
  go_wp2_with fail
  with_reducible refine (sign_c hDU.toNatAt (by omega)).mono ?_
  rintro e w22 ⟨rfl, hb⟩
  have g1 := g1.past hb
  have g2 := g2.past hb
  have g3 := g3.past hb
  have g4 := g4.past hb
  have g5 := g5.past hb
  have g6 := g6.past hb
  have hDU := hDU.past hb
  have hDD := hDD.past hb
  have qx0 := bq hb lx qx0; have qx1 := bq hb lx qx1; have qx2 := bq hb lx qx2
  have lx := bl hb lx
  have qy0 := bq hb ly qy0; have qy1 := bq hb ly qy1; have qy2 := bq hb ly qy2
  have ly := bl hb ly
  have qz0 := bq hb lz qz0; have qz1 := bq hb lz qz1; have qz2 := bq hb lz qz2
  have lz := bl hb lz
  have qd0 := bq hb ld qd0; have qd1 := bq hb ld qd1; have qd2 := bq hb ld qd2
  have ld := bl hb ld
  have hB := below_later hB hb
  clear hb
  rw [NN.out]
  go_wp2_with fail
  with_reducible refine (sameRatio_any _ _ _ _ (digs p.num.natAbs) _ _ _ (digs p.den) _ _ _ _ (digs q.num.natAbs) _ _ _ (digs q.den) _ g1 g2 g3 g4).mono ?_
  rintro e w23 ⟨rfl, hb⟩
  have g1 := g1.past hb
  have g2 := g2.past hb
  have g3 := g3.past hb
  have g4 := g4.past hb
  have g5 := g5.past hb
  have g6 := g6.past hb
  have hDU := hDU.past hb
  have hDD := hDD.past hb
  have qx0 := bq hb lx qx0; have qx1 := bq hb lx qx1; have qx2 := bq hb lx qx2
  have lx := bl hb lx
  have qy0 := bq hb ly qy0; have qy1 := bq hb ly qy1; have qy2 := bq hb ly qy2
  have ly := bl hb ly
  have qz0 := bq hb lz qz0; have qz1 := bq hb lz qz1; have qz2 := bq hb lz qz2
  have lz := bl hb lz
  have qd0 := bq hb ld qd0; have qd1 := bq hb ld qd1; have qd2 := bq hb ld qd2
  have ld := bl hb ld
  have hB := below_later hB hb
  clear hb
  rw [SS.out]
  go_wp2
  go_ret
  exact ⟨rfl, hB⟩

theorem ratioOrder_fine {p q r : Rat} {a1 : Option Addr} {n1 c1 : Nat} {a2 : Option Addr} {n2 c2 : Nat} {a3 : Option Addr} {n3 c3 : Nat} {a4 : Option Addr} {n4 c4 : Nat} {a5 : Option Addr} {n5 c5 : Nat} {a6 : Option Addr} {n6 c6 : Nat} {w : World} (g1 : NatAt w a1 n1 c1 (digs p.num.natAbs)) (g2 : NatAt w a2 n2 c2 (digs p.den)) (g3 : NatAt w a3 n3 c3 (digs q.num.natAbs)) (g4 : NatAt w a4 n4 c4 (digs q.den)) (g5 : NatAt w a5 n5 c5 (digs r.num.natAbs)) (g6 : NatAt w a6 n6 c6 (digs r.den)) (hs : ((digs p.num.natAbs).length ≤ 5 ∧ (digs p.den).length ≤ 5) ∧ ((digs q.num.natAbs).length ≤ 5 ∧ (digs q.den).length ≤ 5) ∧ ((digs r.num.natAbs).length ≤ 5 ∧ (digs r.den).length ≤ 5)) (hl : (longP ((neg p.num), (digs p.num.natAbs), (digs p.den)) || (longP ((neg q.num), (digs q.num.natAbs), (digs q.den)) || longP ((neg r.num), (digs r.num.natAbs), (digs r.den)))) = false) :
    Calls Try.prog 4 #[.agg #[.bool (neg p.num), .slice a1 n1 c1, .slice a2 n2 c2], .agg #[.bool (neg q.num), .slice a3 n3 c3, .slice a4 n4 c4], .agg #[.bool (neg r.num), .slice a5 n5 c5, .slice a6 n6 c6]] w (RetVal w (.bool true)) := by
  rcases sgn_any p q with hn | hn | hn
  · exact ratioOrder_pos g1 g2 g3 g4 g5 g6 hs hl hn
  · exact ratioOrder_eq g1 g2 g3 g4 g5 g6 hs hl hn
  · rcases sgn_any q r with hk | hk | hk
    · exact ratioOrder_lt1 g1 g2 g3 g4 g5 g6 hs hl hn hk
    · exact ratioOrder_lt0 g1 g2 g3 g4 g5 g6 hs hl hn hk
    · exact ratioOrder_ltn g1 g2 g3 g4 g5 g6 hs hl hn hk

theorem ratioOrder_any {b1 : Bool} {a1 : Option Addr} {n1 c1 : Nat} {l1 : List Nat} {a2 : Option Addr} {n2 c2 : Nat} {l2 : List Nat} {b3 : Bool} {a3 : Option Addr} {n3 c3 : Nat} {l3 : List Nat} {a4 : Option Addr} {n4 c4 : Nat} {l4 : List Nat} {b5 : Bool} {a5 : Option Addr} {n5 c5 : Nat} {l5 : List Nat} {a6 : Option Addr} {n6 c6 : Nat} {l6 : List Nat} {w : World} (g1 : NatAt w a1 n1 c1 l1) (g2 : NatAt w a2 n2 c2 l2) (g3 : NatAt w a3 n3 c3 l3) (g4 : NatAt w a4 n4 c4 l4) (g5 : NatAt w a5 n5 c5 l5) (g6 : NatAt w a6 n6 c6 l6) :
    Calls Try.prog 4 #[.agg #[.bool b1, .slice a1 n1 c1, .slice a2 n2 c2], .agg #[.bool b3, .slice a3 n3 c3, .slice a4 n4 c4], .agg #[.bool b5, .slice a5 n5 c5, .slice a6 n6 c6]] w (RetVal w (.bool true)) := by
  cases hl : (longP (b1, l1, l2) || (longP (b3, l3, l4) || longP (b5, l5, l6)))
  · have hl2 := hl
    rw [Bool.or_eq_false_iff, Bool.or_eq_false_iff, longP_no, longP_no, longP_no] at hl2
    cases hb : (decide (chk3 (b1, l1, l2) = 0) && (decide (chk3 (b3, l3, l4) = 0) && decide (chk3 (b5, l5, l6) = 0)))
    · exact ratioOrder_bad g1 g2 g3 g4 g5 g6 hl2 hl hb
    · rw [Bool.and_eq_true, Bool.and_eq_true, decide_eq_true_iff, decide_eq_true_iff, decide_eq_true_iff] at hb
      obtain ⟨h1, h2, h3⟩ := hb
      obtain ⟨p, rfl, rfl, rfl⟩ := chkR_rat g1.dig g2.dig h1
      obtain ⟨q, rfl, rfl, rfl⟩ := chkR_rat g3.dig g4.dig h2
      obtain ⟨r, rfl, rfl, rfl⟩ := chkR_rat g5.dig g6.dig h3
      exact ratioOrder_fine g1 g2 g3 g4 g5 g6 hl2 hl
  · exact ratioOrder_long g1 g2 g3 g4 g5 g6 hl

end Go.Proofs.Ytmhjhhcdjecdbaa
