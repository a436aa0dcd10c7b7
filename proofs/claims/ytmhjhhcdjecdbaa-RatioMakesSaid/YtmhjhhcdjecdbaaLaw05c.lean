/- the laws of ratio: RatioMakes. -/
import Derived.Test.YtmhjhhcdjecdbaaLaw05b
import Derived.Test.YtmhjhhcdjecdbaaRatio7
set_option linter.unusedVariables false
set_option linter.unusedSimpArgs false
namespace Go.Proofs.Ytmhjhhcdjecdbaa
open Go.RowKit

set_option maxRecDepth 100000 in
set_option maxHeartbeats 16000000 in
theorem ratioMakes_any (b : Bool) (a : Option Addr) (n c : Nat) (l : List Nat) (a2 : Option Addr) (n2 c2 : Nat) (l2 : List Nat) (x y : Int) (w : World) (g1 : NatAt w a n c l) (g2 : NatAt w a2 n2 c2 l2) (hx : -9223372036854775808 ≤ x ∧ x ≤ 9223372036854775807) (hy : -9223372036854775808 ≤ y ∧ y ≤ 9223372036854775807) :
    Calls Try.prog 3 #[.agg #[.bool b, .slice a n c], .slice a2 n2 c2, .int .i64 x, .int .i64 y] w (RetVal w (.bool true)) := by
  have hc1 := Nat.le_trans g1.le g1.cle
  have hc2 := Nat.le_trans g2.le g2.cle
  by_cases hl1 : 6 < n
  · have t1 : decide ((6 : Int) < (n : Int)) = true := by simp; omega
    go_enter Try.func3, Try.ntmps3
    have hB := Below.refl w.heap.size w
    go_wp2_with fail
    obtain ⟨w1, hW, hz0, hb, q, f⟩ := box1g w (w.heap.size) (by omega) #[.bool b, .slice a n c] 25
    rw [hW]
    clear hW
    have hB := below_later hB hb
    clear hb
    have lb1 : w.heap.size < w1.heap.size := by omega
    have qb10 := q 0; have qb11 := q 1
    simp only [List.getElem?_toArray, List.getElem?_cons_zero, List.getElem?_cons_succ] at qb10 qb11
    clear q f
    clear hz0
    with_reducible refine (longNat_any _ _ _ _ _ hc1).mono ?_
    rintro e w' ⟨rfl, rfl⟩
    go_wp2_with fail
    with_reducible refine (awake05 _).mono ?_
    rintro e w2 ⟨rfl, hb⟩
    have qb10 := bq hb lb1 qb10; have qb11 := bq hb lb1 qb11
    have lb1 := bl hb lb1
    have hB := below_later hB hb
    clear hb
    go_wp2
    go_ret
    exact ⟨rfl, hB⟩
  have t1 : decide ((6 : Int) < (n : Int)) = false := by simp; omega
  by_cases hl2 : 6 < n2
  · have t2 : decide ((6 : Int) < (n2 : Int)) = true := by simp; omega
    go_enter Try.func3, Try.ntmps3
    have hB := Below.refl w.heap.size w
    go_wp2_with fail
    obtain ⟨w1, hW, hz0, hb, q, f⟩ := box1g w (w.heap.size) (by omega) #[.bool b, .slice a n c] 25
    rw [hW]
    clear hW
    have hB := below_later hB hb
    clear hb
    have lb1 : w.heap.size < w1.heap.size := by omega
    have qb10 := q 0; have qb11 := q 1
    simp only [List.getElem?_toArray, List.getElem?_cons_zero, List.getElem?_cons_succ] at qb10 qb11
    clear q f
    clear hz0
    with_reducible refine (longNat_any _ _ _ _ _ hc1).mono ?_
    rintro e w' ⟨rfl, rfl⟩
    go_wp2_with fail
    with_reducible refine (longNat_any _ _ _ _ _ hc2).mono ?_
    rintro e w' ⟨rfl, rfl⟩
    go_wp2_with fail
    with_reducible refine (awake05 _).mono ?_
    rintro e w2 ⟨rfl, hb⟩
    have qb10 := bq hb lb1 qb10; have qb11 := bq hb lb1 qb11
    have lb1 := bl hb lb1
    have hB := below_later hB hb
    clear hb
    go_wp2
    go_ret
    exact ⟨rfl, hB⟩
  have t2 : decide ((6 : Int) < (n2 : Int)) = false := by simp; omega
  have HX := Lib.hid hx
  have HY := Lib.hid hy
  clear hx hy
  go_enter Try.func3, Try.ntmps3
  have hB := Below.refl w.heap.size w
  go_wp2_with fail
  obtain ⟨w1, hW, hz0, hb, q, f⟩ := box1g w (w.heap.size) (by omega) #[.bool b, .slice a n c] 25
  rw [hW]
  clear hW
  have g1 := g1.past hb
  have g2 := g2.past hb
  have hB := below_later hB hb
  clear hb
  have lb1 : w.heap.size < w1.heap.size := by omega
  have qb10 := q 0; have qb11 := q 1
  simp only [List.getElem?_toArray, List.getElem?_cons_zero, List.getElem?_cons_succ] at qb10 qb11
  clear q f
  clear hz0
  with_reducible refine (longNat_any _ _ _ _ _ hc1).mono ?_
  rintro e w' ⟨rfl, rfl⟩
  go_wp2_with fail
  with_reducible refine (longNat_any _ _ _ _ _ hc2).mono ?_
  rintro e w' ⟨rfl, rfl⟩
  go_wp2_with fail
  with_reducible refine (copyWhole_any _ _ _ _ l _ g1 (by omega)).mono ?_
  rintro e w2 ⟨ahI, nhI, chI, rfl, hI, hb⟩
  have g1 := g1.past hb
  have g2 := g2.past hb
  have qb10 := bq hb lb1 qb10; have qb11 := bq hb lb1 qb11
  have lb1 := bl hb lb1
  have hB := below_later hB hb
  clear hb
  go_wp2_with fail
  with_reducible refine (copyNat_any _ _ _ l2 _ g2 (by omega)).mono ?_
  rintro e w3 ⟨ahY, nhY, chY, rfl, hY, hb⟩
  have g1 := g1.past hb
  have g2 := g2.past hb
  have hI := hI.past hb
  have qb10 := bq hb lb1 qb10; have qb11 := bq hb lb1 qb11
  have lb1 := bl hb lb1
  have hB := below_later hB hb
  clear hb
  have bI : nhI ≤ n := by have h1 := hI.len; have h2 := g1.len; omega
  have bY : nhY ≤ n2 := by have h1 := hY.len; have h2 := g2.len; omega
  go_wp2_with fail
  obtain ⟨w4, hW, hz0, hb, q, f⟩ := box1g w3 (w3.heap.size) (by omega) #[.bool b, .slice ahI nhI chI] 25
  rw [hW]
  clear hW
  have g1 := g1.past hb
  have g2 := g2.past hb
  have hI := hI.past hb
  have hY := hY.past hb
  have qb10 := bq hb lb1 qb10; have qb11 := bq hb lb1 qb11
  have lb1 := bl hb lb1
  have hB := below_later hB hb
  clear hb
  have lin : w3.heap.size < w4.heap.size := by omega
  have qin0 := q 0; have qin1 := q 1
  simp only [List.getElem?_toArray, List.getElem?_cons_zero, List.getElem?_cons_succ] at qin0 qin1
  clear q f
  clear hz0
  have hZ := Below.refl w4.heap.size w4
  have zB := hB
  have zg1 := g1
  have zg2 := g2
  have zhI := hI.toNatAt
  have zhY := hY.toNatAt
  go_wp2_with fail
  with_reducible refine (make05_any b _ _ _ l _ _ _ l2 _ hI.toNatAt hY.toNatAt (by omega) (by omega)).mono ?_
  rintro e w5 ⟨ahMU, nhMU, chMU, ahMD, nhMD, chMD, rfl, hMU, hMD, hb⟩
  have hMU := hMU.mono hZ.size
  have hMD := hMD.mono hZ.size
  have g1 := g1.past hb
  have g2 := g2.past hb
  have hI := hI.past hb
  have hY := hY.past hb
  have qb10 := bq hb lb1 qb10; have qb11 := bq hb lb1 qb11
  have lb1 := bl hb lb1
  have qin0 := bq hb lin qin0; have qin1 := bq hb lin qin1
  have lin := bl hb lin
  have hB := below_later hB hb
  have hZ := below_later hZ hb
  clear hb
  go_wp2_with fail
  obtain ⟨w6, hW, hz0, hb, q, f⟩ := box1g w5 (w5.heap.size) (by omega) #[.bool (neg (Ans.up (makeR b l l2))), .slice ahMU nhMU chMU, .slice ahMD nhMD chMD] 31
  have gx : w4.heap.size ≤ w5.heap.size := by have := hZ.size; omega
  rw [hW]
  clear hW
  have g1 := g1.past hb
  have g2 := g2.past hb
  have hI := hI.past hb
  have hY := hY.past hb
  have hMU := hMU.past hb
  have hMD := hMD.past hb
  have qb10 := bq hb lb1 qb10; have qb11 := bq hb lb1 qb11
  have lb1 := bl hb lb1
  have qin0 := bq hb lin qin0; have qin1 := bq hb lin qin1
  have lin := bl hb lin
  have hB := below_later hB hb
  have hZ := below_later hZ hb
  clear hb
  have lx : w5.heap.size < w6.heap.size := by omega
  have qx0 := q 0; have qx1 := q 1; have qx2 := q 2
  simp only [List.getElem?_toArray, List.getElem?_cons_zero, List.getElem?_cons_succ] at qx0 qx1 qx2
  have xx : BoxAt w6 (w5.heap.size) 3 := BoxAt.of q f rfl (by simp [notU_bool, notU_slice, notU_i64])
  clear q f
  clear hz0
  with_reducible refine (rmake05_any b _ _ _ l _ _ _ l2 _ g1 g2 (by omega) (by omega)).mono ?_
  rintro e w7 ⟨akMU, nkMU, ckMU, akMD, nkMD, ckMD, rfl, kMU, kMD, hb⟩
  have kMU := kMU.mono hZ.size
  have kMD := kMD.mono hZ.size
  have g1 := g1.past hb
  have g2 := g2.past hb
  have hI := hI.past hb
  have hY := hY.past hb
  have hMU := hMU.past hb
  have hMD := hMD.past hb
  have qb10 := bq hb lb1 qb10; have qb11 := bq hb lb1 qb11
  have lb1 := bl hb lb1
  have qin0 := bq hb lin qin0; have qin1 := bq hb lin qin1
  have lin := bl hb lin
  have qx0 := bq hb lx qx0; have qx1 := bq hb lx qx1; have qx2 := bq hb lx qx2
  have xx := xx.past hb lx
  have lx := bl hb lx
  have hB := below_later hB hb
  have hZ := below_later hZ hb
  clear hb
  go_wp2_with fail
  obtain ⟨w8, hW, hz0, hb, q, f⟩ := box1g w7 (w7.heap.size) (by omega) #[.bool (neg (Ans.up (makeR b l l2))), .slice akMU nkMU ckMU, .slice akMD nkMD ckMD] 31
  have gy : w4.heap.size ≤ w7.heap.size := by have := hZ.size; omega
  rw [hW]
  clear hW
  have g1 := g1.past hb
  have g2 := g2.past hb
  have hI := hI.past hb
  have hY := hY.past hb
  have hMU := hMU.past hb
  have hMD := hMD.past hb
  have kMU := kMU.past hb
  have kMD := kMD.past hb
  have qb10 := bq hb lb1 qb10; have qb11 := bq hb lb1 qb11
  have lb1 := bl hb lb1
  have qin0 := bq hb lin qin0; have qin1 := bq hb lin qin1
  have lin := bl hb lin
  have qx0 := bq hb lx qx0; have qx1 := bq hb lx qx1; have qx2 := bq hb lx qx2
  have xx := xx.past hb lx
  have lx := bl hb lx
  have hB := below_later hB hb
  have hZ := below_later hZ hb
  clear hb
  have ly : w7.heap.size < w8.heap.size := by omega
  have qy0 := q 0; have qy1 := q 1; have qy2 := q 2
  simp only [List.getElem?_toArray, List.getElem?_cons_zero, List.getElem?_cons_succ] at qy0 qy1 qy2
  have xy : BoxAt w8 (w7.heap.size) 3 := BoxAt.of q f rfl (by simp [notU_bool, notU_slice, notU_i64])
  clear q f
  clear hz0
  with_reducible refine (like05_yes w4.heap.size (makeR b l l2) _ _ _ _ _ _ _ _ _ _ _ _ _ hZ.size hMU hMD kMU.toNatAt kMD.toNatAt).mono ?_
  rintro e w9 ⟨rfl, hb, K⟩
  have qb10 := K.cell _ _ qb10 (nu rfl)
  have qb11 := K.cell _ _ qb11 (nu rfl)
  have lb1 := Nat.lt_of_lt_of_le lb1 K.size
  have qin0 := K.cell _ _ qin0 (nu rfl)
  have qin1 := K.cell _ _ qin1 (nu rfl)
  have lin := Nat.lt_of_lt_of_le lin K.size
  have qx0 := K.cell _ _ qx0 (nu rfl)
  have qx1 := K.cell _ _ qx1 (nu rfl)
  have qx2 := K.cell _ _ qx2 (nu rfl)
  have xx := K.box xx
  have lx := Nat.lt_of_lt_of_le lx K.size
  have qy0 := K.cell _ _ qy0 (nu rfl)
  have qy1 := K.cell _ _ qy1 (nu rfl)
  have qy2 := K.cell _ _ qy2 (nu rfl)
  have xy := K.box xy
  have ly := Nat.lt_of_lt_of_le ly K.size
  have hZ := hZ.trans hb
  clear hb K
  have g1 := zg1.past hZ
  have g2 := zg2.past hZ
  have hI := zhI.past hZ
  have hY := zhY.past hZ
  have hB := below_later zB hZ
  go_wp2_with fail
  with_reducible refine (pair05_any x y _ HX.out HY.out).mono ?_
  rintro e w10 ⟨ahPU, nhPU, chPU, ahPD, nhPD, chPD, rfl, hPU, hPD, hb⟩
  have hPU := hPU.mono hZ.size
  have hPD := hPD.mono hZ.size
  have g1 := g1.past hb
  have g2 := g2.past hb
  have hI := hI.past hb
  have hY := hY.past hb
  have qb10 := bq hb lb1 qb10; have qb11 := bq hb lb1 qb11
  have lb1 := bl hb lb1
  have qin0 := bq hb lin qin0; have qin1 := bq hb lin qin1
  have lin := bl hb lin
  have qx0 := bq hb lx qx0; have qx1 := bq hb lx qx1; have qx2 := bq hb lx qx2
  have xx := xx.past hb lx
  have lx := bl hb lx
  have qy0 := bq hb ly qy0; have qy1 := bq hb ly qy1; have qy2 := bq hb ly qy2
  have xy := xy.past hb ly
  have ly := bl hb ly
  have hB := below_later hB hb
  have hZ := below_later hZ hb
  clear hb
  have zf0 := xx.f 0 (by decide)
  have zf1 := xx.f 1 (by decide)
  have zf2 := xx.f 2 (by decide)
  go_wp2_with fail
  obtain ⟨w11, hW, hO, qN0, qN1, qN2, xN⟩ := store3 xx (.bool (neg (Ans.up (pairR x y)))) (.slice ahPU nhPU chPU) (.slice ahPD nhPD chPD) (nu rfl) (nu rfl) (nu rfl)
  try rw [hW]
  clear hW
  have g1 := hO.nat g1
  have g2 := hO.nat g2
  have hI := hO.nat hI
  have hY := hO.nat hY
  have hPU := hO.own hPU
  have hPD := hO.own hPD
  have qb10 := (hO.cell (b2 := w.heap.size) (k := 0) (by omega)).trans qb10
  have qb11 := (hO.cell (b2 := w.heap.size) (k := 1) (by omega)).trans qb11
  have lb1 : w.heap.size < w11.heap.size := by rw [hO.size]; exact lb1
  have qin0 := (hO.cell (b2 := w3.heap.size) (k := 0) (by omega)).trans qin0
  have qin1 := (hO.cell (b2 := w3.heap.size) (k := 1) (by omega)).trans qin1
  have lin : w3.heap.size < w11.heap.size := by rw [hO.size]; exact lin
  have lx : w5.heap.size < w11.heap.size := by rw [hO.size]; exact lx
  have qy0 := (hO.cell (b2 := w7.heap.size) (k := 0) (by omega)).trans qy0
  have qy1 := (hO.cell (b2 := w7.heap.size) (k := 1) (by omega)).trans qy1
  have qy2 := (hO.cell (b2 := w7.heap.size) (k := 2) (by omega)).trans qy2
  have xy := hO.box xy
  have ly : w7.heap.size < w11.heap.size := by rw [hO.size]; exact ly
  have qx0 := qN0
  have qx1 := qN1
  have qx2 := qN2
  have xx := xN
  have hB := hO.below (by omega) hB
  have hZ := hO.below (by omega) hZ
  clear hO qN0 qN1 qN2 xN zf0 zf1 zf2
  go_wp2_with fail
  with_reducible refine (rpair05_any x y _ HX.out HY.out).mono ?_
  rintro e w12 ⟨akPU, nkPU, ckPU, akPD, nkPD, ckPD, rfl, kPU, kPD, hb⟩
  have kPU := kPU.mono hZ.size
  have kPD := kPD.mono hZ.size
  have g1 := g1.past hb
  have g2 := g2.past hb
  have hI := hI.past hb
  have hY := hY.past hb
  have hPU := hPU.past hb
  have hPD := hPD.past hb
  have qb10 := bq hb lb1 qb10; have qb11 := bq hb lb1 qb11
  have lb1 := bl hb lb1
  have qin0 := bq hb lin qin0; have qin1 := bq hb lin qin1
  have lin := bl hb lin
  have qx0 := bq hb lx qx0; have qx1 := bq hb lx qx1; have qx2 := bq hb lx qx2
  have xx := xx.past hb lx
  have lx := bl hb lx
  have qy0 := bq hb ly qy0; have qy1 := bq hb ly qy1; have qy2 := bq hb ly qy2
  have xy := xy.past hb ly
  have ly := bl hb ly
  have hB := below_later hB hb
  have hZ := below_later hZ hb
  clear hb
  have zf0 := xy.f 0 (by decide)
  have zf1 := xy.f 1 (by decide)
  have zf2 := xy.f 2 (by decide)
  go_wp2_with fail
  obtain ⟨w13, hW, hO, qN0, qN1, qN2, xN⟩ := store3 xy (.bool (neg (Ans.up (pairR x y)))) (.slice akPU nkPU ckPU) (.slice akPD nkPD ckPD) (nu rfl) (nu rfl) (nu rfl)
  try rw [hW]
  clear hW
  have g1 := hO.nat g1
  have g2 := hO.nat g2
  have hI := hO.nat hI
  have hY := hO.nat hY
  have hPU := hO.own hPU
  have hPD := hO.own hPD
  have kPU := hO.own kPU
  have kPD := hO.own kPD
  have qb10 := (hO.cell (b2 := w.heap.size) (k := 0) (by omega)).trans qb10
  have qb11 := (hO.cell (b2 := w.heap.size) (k := 1) (by omega)).trans qb11
  have lb1 : w.heap.size < w13.heap.size := by rw [hO.size]; exact lb1
  have qin0 := (hO.cell (b2 := w3.heap.size) (k := 0) (by omega)).trans qin0
  have qin1 := (hO.cell (b2 := w3.heap.size) (k := 1) (by omega)).trans qin1
  have lin : w3.heap.size < w13.heap.size := by rw [hO.size]; exact lin
  have qx0 := (hO.cell (b2 := w5.heap.size) (k := 0) (by omega)).trans qx0
  have qx1 := (hO.cell (b2 := w5.heap.size) (k := 1) (by omega)).trans qx1
  have qx2 := (hO.cell (b2 := w5.heap.size) (k := 2) (by omega)).trans qx2
  have xx := hO.box xx
  have lx : w5.heap.size < w13.heap.size := by rw [hO.size]; exact lx
  have ly : w7.heap.size < w13.heap.size := by rw [hO.size]; exact ly
  have qy0 := qN0
  have qy1 := qN1
  have qy2 := qN2
  have xy := xN
  have hB := hO.below (by omega) hB
  have hZ := hO.below (by omega) hZ
  clear hO qN0 qN1 qN2 xN zf0 zf1 zf2
  go_wp2_with fail
  with_reducible refine (like05_yes w4.heap.size (pairR x y) _ _ _ _ _ _ _ _ _ _ _ _ _ hZ.size hPU hPD kPU.toNatAt kPD.toNatAt).mono ?_
  rintro e w14 ⟨rfl, hb, K⟩
  have qb10 := K.cell _ _ qb10 (nu rfl)
  have qb11 := K.cell _ _ qb11 (nu rfl)
  have lb1 := Nat.lt_of_lt_of_le lb1 K.size
  have qin0 := K.cell _ _ qin0 (nu rfl)
  have qin1 := K.cell _ _ qin1 (nu rfl)
  have lin := Nat.lt_of_lt_of_le lin K.size
  have qx0 := K.cell _ _ qx0 (nu rfl)
  have qx1 := K.cell _ _ qx1 (nu rfl)
  have qx2 := K.cell _ _ qx2 (nu rfl)
  have xx := K.box xx
  have lx := Nat.lt_of_lt_of_le lx K.size
  have qy0 := K.cell _ _ qy0 (nu rfl)
  have qy1 := K.cell _ _ qy1 (nu rfl)
  have qy2 := K.cell _ _ qy2 (nu rfl)
  have xy := K.box xy
  have ly := Nat.lt_of_lt_of_le ly K.size
  have hZ := hZ.trans hb
  clear hb K
  have g1 := zg1.past hZ
  have g2 := zg2.past hZ
  have hI := zhI.past hZ
  have hY := zhY.past hZ
  have hB := below_later zB hZ
  go_wp2_with fail
  with_reducible refine (sameWhole_yes hI g1).mono ?_
  rintro e w15 ⟨rfl, hb⟩
  have g1 := g1.past hb
  have g2 := g2.past hb
  have hI := hI.past hb
  have hY := hY.past hb
  have qb10 := bq hb lb1 qb10; have qb11 := bq hb lb1 qb11
  have lb1 := bl hb lb1
  have qin0 := bq hb lin qin0; have qin1 := bq hb lin qin1
  have lin := bl hb lin
  have qx0 := bq hb lx qx0; have qx1 := bq hb lx qx1; have qx2 := bq hb lx qx2
  have xx := xx.past hb lx
  have lx := bl hb lx
  have qy0 := bq hb ly qy0; have qy1 := bq hb ly qy1; have qy2 := bq hb ly qy2
  have xy := xy.past hb ly
  have ly := bl hb ly
  have hB := below_later hB hb
  clear hb
  go_wp2_with fail
  with_reducible refine (sameNat_yes hY g2).mono ?_
  rintro e w16 ⟨rfl, hb⟩
  have g1 := g1.past hb
  have g2 := g2.past hb
  have hI := hI.past hb
  have hY := hY.past hb
  have qb10 := bq hb lb1 qb10; have qb11 := bq hb lb1 qb11
  have lb1 := bl hb lb1
  have qin0 := bq hb lin qin0; have qin1 := bq hb lin qin1
  have lin := bl hb lin
  have qx0 := bq hb lx qx0; have qx1 := bq hb lx qx1; have qx2 := bq hb lx qx2
  have xx := xx.past hb lx
  have lx := bl hb lx
  have qy0 := bq hb ly qy0; have qy1 := bq hb ly qy1; have qy2 := bq hb ly qy2
  have xy := xy.past hb ly
  have ly := bl hb ly
  have hB := below_later hB hb
  clear hb
  go_wp2_with fail
  with_reducible refine (awake05 _).mono ?_
  rintro e w17 ⟨rfl, hb⟩
  have g1 := g1.past hb
  have g2 := g2.past hb
  have hI := hI.past hb
  have hY := hY.past hb
  have qb10 := bq hb lb1 qb10; have qb11 := bq hb lb1 qb11
  have lb1 := bl hb lb1
  have qin0 := bq hb lin qin0; have qin1 := bq hb lin qin1
  have lin := bl hb lin
  have qx0 := bq hb lx qx0; have qx1 := bq hb lx qx1; have qx2 := bq hb lx qx2
  have xx := xx.past hb lx
  have lx := bl hb lx
  have qy0 := bq hb ly qy0; have qy1 := bq hb ly qy1; have qy2 := bq hb ly qy2
  have xy := xy.past hb ly
  have ly := bl hb ly
  have hB := below_later hB hb
  clear hb
  go_wp2
  go_ret
  exact ⟨rfl, hB⟩

end Go.Proofs.Ytmhjhhcdjecdbaa
