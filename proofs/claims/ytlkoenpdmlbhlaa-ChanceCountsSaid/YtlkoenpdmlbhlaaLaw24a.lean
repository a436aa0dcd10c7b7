/- the laws of chance: is, in, cloud, free, awake, ChanceKnown. -/
import Derived.Test.YtlkoenpdmlbhlaaChance8
import Derived.Test.YtlkoenpdmlbhlaaA9
import Derived.Test.YtlkoenpdmlbhlaaSoli5
set_option linter.unusedVariables false
set_option linter.unusedSimpArgs false
namespace Go.Proofs.Ytlkoenpdmlbhlaa
open Go.RowKit

theorem intsAt_none {w : World} : IntsAt w none 0 0 [] := ⟨rfl, Nat.le_refl _, by decide, .inl rfl, fun _ => rfl, fun _ h => by simp at h⟩
theorem pair24 {x : Int} {y : Nat} {q : Rat} (hq : mkRat x y = q) (w : World) (hx : -9223372036854775808 ≤ x ∧ x ≤ 9223372036854775807) (hy : 0 < y) (hy2 : y ≤ 9223372036854775807) :
    Calls Try.prog 33 #[.int .i64 x, .int .i64 (y : Int)] w (RetOk w q) := by
  rw [← hq]
  exact pair_ok (x := x) (y := (y : Int)) (q := mkRat x y) (by omega) (pr_pos hy) w hx (by omega)
theorem same24 {q : Rat} {a1 : Option Addr} {n1 c1 : Nat} {a2 : Option Addr} {n2 c2 : Nat} {a3 : Option Addr} {n3 c3 : Nat} {a4 : Option Addr} {n4 c4 : Nat} {w : World} (g1 : NatAt w a1 n1 c1 (digs q.num.natAbs)) (g2 : NatAt w a2 n2 c2 (digs q.den)) (g3 : NatAt w a3 n3 c3 (digs q.num.natAbs)) (g4 : NatAt w a4 n4 c4 (digs q.den)) :
    Calls Try.prog 19 #[.agg #[.bool (neg q.num), .slice a1 n1 c1, .slice a2 n2 c2], .agg #[.bool (neg q.num), .slice a3 n3 c3, .slice a4 n4 c4]] w (RetVal w (.bool true)) := by
  have h := sameRatio_any (neg q.num) _ _ _ _ _ _ _ _ (neg q.num) _ _ _ _ _ _ _ _ w g1 g2 g3 g4
  rwa [show eqR (neg q.num) (digs q.num.natAbs) (digs q.den) (neg q.num) (digs q.num.natAbs) (digs q.den) = true by simp [eqR]] at h

set_option maxRecDepth 100000 in
set_option maxHeartbeats 4000000 in
theorem is24 {x : Int} {y : Nat} {q : Rat} (hq : mkRat x y = q) (hx : -9223372036854775808 ≤ x ∧ x ≤ 9223372036854775807) (hy : 0 < y) (hy2 : y ≤ 9223372036854775807) {a1 : Option Addr} {n1 c1 : Nat} {a2 : Option Addr} {n2 c2 : Nat} {w : World} (g1 : NatAt w a1 n1 c1 (digs q.num.natAbs)) (g2 : NatAt w a2 n2 c2 (digs q.den)) :
    Calls Try.prog 38 #[.agg #[.bool (neg q.num), .slice a1 n1 c1, .slice a2 n2 c2], .int .i64 0, .int .i64 x, .int .i64 (y : Int)] w (RetVal w (.bool true)) := by
  have HP := Lib.hid (fun w => pair24 hq w hx hy hy2)
  clear hq
  go_enter Try.func38, Try.ntmps38
  have hB := Below.refl w.heap.size w
  go_wp2_with fail
  obtain ⟨w1, hW, hz0, hb, q, f⟩ := box1g w (w.heap.size) (by omega) #[.bool (neg q.num), .slice a1 n1 c1, .slice a2 n2 c2] 36
  rw [hW]
  clear hW
  have g1 := g1.past hb
  have g2 := g2.past hb
  have hB := below_later hB hb
  clear hb
  have lp : w.heap.size < w1.heap.size := by omega
  have qp0 := q 0; have qp1 := q 1; have qp2 := q 2
  simp only [List.getElem?_toArray, List.getElem?_cons_zero, List.getElem?_cons_succ] at qp0 qp1 qp2
  clear q f
  clear hz0
  with_reducible refine (HP.out _).mono ?_
  rintro e w2 ⟨ahAU, nhAU, chAU, ahAD, nhAD, chAD, rfl, hAU, hAD, hb⟩
  have g1 := g1.past hb
  have g2 := g2.past hb
  have qp0 := bq hb lp qp0; have qp1 := bq hb lp qp1; have qp2 := bq hb lp qp2
  have lp := bl hb lp
  have hB := below_later hB hb
  clear hb
  go_wp2_with fail
  obtain ⟨w3, hW, hz0, hb, q, f⟩ := box1g w2 (w2.heap.size) (by omega) #[.bool (neg (q).num), .slice ahAU nhAU chAU, .slice ahAD nhAD chAD] 36
  rw [hW]
  clear hW
  have g1 := g1.past hb
  have g2 := g2.past hb
  have hAU := hAU.past hb
  have hAD := hAD.past hb
  have qp0 := bq hb lp qp0; have qp1 := bq hb lp qp1; have qp2 := bq hb lp qp2
  have lp := bl hb lp
  have hB := below_later hB hb
  clear hb
  have lx : w2.heap.size < w3.heap.size := by omega
  have qx0 := q 0; have qx1 := q 1; have qx2 := q 2
  simp only [List.getElem?_toArray, List.getElem?_cons_zero, List.getElem?_cons_succ] at qx0 qx1 qx2
  clear q f
  clear hz0
  with_reducible refine (same24 g1 g2 hAU.toNatAt hAD.toNatAt).mono ?_
  rintro e w4 ⟨rfl, hb⟩
  have g1 := g1.past hb
  have g2 := g2.past hb
  have hAU := hAU.past hb
  have hAD := hAD.past hb
  have qp0 := bq hb lp qp0; have qp1 := bq hb lp qp1; have qp2 := bq hb lp qp2
  have lp := bl hb lp
  have qx0 := bq hb lx qx0; have qx1 := bq hb lx qx1; have qx2 := bq hb lx qx2
  have lx := bl hb lx
  have hB := below_later hB hb
  clear hb
  go_wp2
  go_ret
  exact ⟨rfl, hB⟩

theorem tab24 : okT [1, 1] ((3 : Nat) : Int) := by decide +kernel
set_option maxRecDepth 100000 in
set_option maxHeartbeats 4000000 in
theorem l24_in (u j : Nat) {x : Int} {y : Nat} (hq : mkRat x y = inR24 [1, 1] 3 u j) (hx : -9223372036854775808 ≤ x ∧ x ≤ 9223372036854775807) (hy : 0 < y) (hy2 : y ≤ 9223372036854775807) (hu : u ≤ 3) (hj : j ≤ u) (w : World) :
    Calls Try.prog 28 #[.int .i64 (u : Int), .int .i64 (j : Int), .int .i64 x, .int .i64 (y : Int)] w (RetVal w (.bool true)) := by
  obtain ⟨Q, hQ⟩ : ∃ Q : Rat, inR24 [1, 1] 3 u j = Q := ⟨_, rfl⟩
  have HQ := Lib.hid hQ
  rw [hQ] at hq
  have HI := Lib.hid hq
  clear hQ hq
  go_enter Try.func28, Try.ntmps28
  have hB := Below.refl w.heap.size w
  go_wp2_with fail
  have h0z := litI (E := 3) w #[.int .i64 1, .int .i64 1] [1, 1] 2 rfl rfl (by decide) (by decide)
  obtain ⟨w1, hW⟩ : ∃ W, w.alloc (.cells #[.int .i64 1, .int .i64 1] 3) = W := ⟨_, rfl⟩
  have hb : Below w.heap.size w w1 := by rw [← hW]; exact (Below.refl _ _).alloc (Nat.le_refl _) _
  rw [hW] at h0z ⊢
  clear hW
  have hB := below_later hB hb
  clear hb
  have z := h0z
  clear h0z
  go_wp2_with fail
  refine (In_ok _ _ _ [1, 1] 3 u j _ z tab24 (by decide) (by decide) hu hj).mono ?_
  rintro e w2 ⟨ahAU, nhAU, chAU, ahAD, nhAD, chAD, rfl, hAU, hAD, hb⟩
  have z := z.past hb
  have hB := below_later hB hb
  clear hb
  rw [HQ.out] at hAU hAD ⊢
  go_wp2_with fail
  obtain ⟨w3, hW, hz0, hb, q, f⟩ := box1g w2 (w2.heap.size) (by omega) #[.bool (neg (Q).num), .slice ahAU nhAU chAU, .slice ahAD nhAD chAD] 36
  rw [hW]
  clear hW
  have hAU := hAU.past hb
  have hAD := hAD.past hb
  have hB := below_later hB hb
  clear hb
  have lx : w2.heap.size < w3.heap.size := by omega
  have qx0 := q 0; have qx1 := q 1; have qx2 := q 2
  simp only [List.getElem?_toArray, List.getElem?_cons_zero, List.getElem?_cons_succ] at qx0 qx1 qx2
  clear q f
  clear hz0
  with_reducible refine (is24 HI.out hx hy hy2 hAU.toNatAt hAD.toNatAt).mono ?_
  rintro e w4 ⟨rfl, hb⟩
  have hAU := hAU.past hb
  have hAD := hAD.past hb
  have qx0 := bq hb lx qx0; have qx1 := bq hb lx qx1; have qx2 := bq hb lx qx2
  have lx := bl hb lx
  have hB := below_later hB hb
  clear hb
  go_wp2
  go_ret
  exact ⟨rfl, hB⟩

set_option maxRecDepth 100000 in
set_option maxHeartbeats 4000000 in
theorem l24_cloud (u : Nat) {x : Int} {y : Nat} (hq : mkRat x y = cloudR [1, 1] 3 u) (hx : -9223372036854775808 ≤ x ∧ x ≤ 9223372036854775807) (hy : 0 < y) (hy2 : y ≤ 9223372036854775807) (hu : u ≤ 3) (w : World) :
    Calls Try.prog 29 #[.int .i64 (u : Int), .int .i64 x, .int .i64 (y : Int)] w (RetVal w (.bool true)) := by
  obtain ⟨Q, hQ⟩ : ∃ Q : Rat, cloudR [1, 1] 3 u = Q := ⟨_, rfl⟩
  have HQ := Lib.hid hQ
  rw [hQ] at hq
  have HI := Lib.hid hq
  clear hQ hq
  go_enter Try.func29, Try.ntmps29
  have hB := Below.refl w.heap.size w
  go_wp2_with fail
  have h0z := litI (E := 3) w #[.int .i64 1, .int .i64 1] [1, 1] 2 rfl rfl (by decide) (by decide)
  obtain ⟨w1, hW⟩ : ∃ W, w.alloc (.cells #[.int .i64 1, .int .i64 1] 3) = W := ⟨_, rfl⟩
  have hb : Below w.heap.size w w1 := by rw [← hW]; exact (Below.refl _ _).alloc (Nat.le_refl _) _
  rw [hW] at h0z ⊢
  clear hW
  have hB := below_later hB hb
  clear hb
  have z := h0z
  clear h0z
  go_wp2_with fail
  refine (Cloud_ok _ _ _ [1, 1] 3 u _ z tab24 (by decide) (by decide) hu).mono ?_
  rintro e w2 ⟨ahAU, nhAU, chAU, ahAD, nhAD, chAD, rfl, hAU, hAD, hb⟩
  have z := z.past hb
  have hB := below_later hB hb
  clear hb
  rw [HQ.out] at hAU hAD ⊢
  go_wp2_with fail
  obtain ⟨w3, hW, hz0, hb, q, f⟩ := box1g w2 (w2.heap.size) (by omega) #[.bool (neg (Q).num), .slice ahAU nhAU chAU, .slice ahAD nhAD chAD] 36
  rw [hW]
  clear hW
  have hAU := hAU.past hb
  have hAD := hAD.past hb
  have hB := below_later hB hb
  clear hb
  have lx : w2.heap.size < w3.heap.size := by omega
  have qx0 := q 0; have qx1 := q 1; have qx2 := q 2
  simp only [List.getElem?_toArray, List.getElem?_cons_zero, List.getElem?_cons_succ] at qx0 qx1 qx2
  clear q f
  clear hz0
  with_reducible refine (is24 HI.out hx hy hy2 hAU.toNatAt hAD.toNatAt).mono ?_
  rintro e w4 ⟨rfl, hb⟩
  have hAU := hAU.past hb
  have hAD := hAD.past hb
  have qx0 := bq hb lx qx0; have qx1 := bq hb lx qx1; have qx2 := bq hb lx qx2
  have lx := bl hb lx
  have hB := below_later hB hb
  clear hb
  go_wp2
  go_ret
  exact ⟨rfl, hB⟩

set_option maxRecDepth 100000 in
set_option maxHeartbeats 4000000 in
theorem l24_free (u : Nat) {x : Int} {y : Nat} (hq : mkRat x y = freeR [1, 1] 3 u) (hx : -9223372036854775808 ≤ x ∧ x ≤ 9223372036854775807) (hy : 0 < y) (hy2 : y ≤ 9223372036854775807) (hu : u ≤ 3) (hu2 : 2 ≤ u) (h0 : cloudR [1, 1] 3 u ≠ 0) (w : World) :
    Calls Try.prog 30 #[.int .i64 (u : Int), .int .i64 x, .int .i64 (y : Int)] w (RetVal w (.bool true)) := by
  obtain ⟨Q, hQ⟩ : ∃ Q : Rat, freeR [1, 1] 3 u = Q := ⟨_, rfl⟩
  have HQ := Lib.hid hQ
  rw [hQ] at hq
  have HI := Lib.hid hq
  clear hQ hq
  have H0 := Lib.hid h0
  clear h0
  go_enter Try.func30, Try.ntmps30
  have hB := Below.refl w.heap.size w
  go_wp2_with fail
  have h0z := litI (E := 3) w #[.int .i64 1, .int .i64 1] [1, 1] 2 rfl rfl (by decide) (by decide)
  obtain ⟨w1, hW⟩ : ∃ W, w.alloc (.cells #[.int .i64 1, .int .i64 1] 3) = W := ⟨_, rfl⟩
  have hb : Below w.heap.size w w1 := by rw [← hW]; exact (Below.refl _ _).alloc (Nat.le_refl _) _
  rw [hW] at h0z ⊢
  clear hW
  have hB := below_later hB hb
  clear hb
  have z := h0z
  clear h0z
  go_wp2_with fail
  refine (Free_ok _ _ _ [1, 1] 3 u _ z tab24 (by decide) (by decide) hu hu2 H0.out).mono ?_
  rintro e w2 ⟨ahAU, nhAU, chAU, ahAD, nhAD, chAD, rfl, hAU, hAD, hb⟩
  have z := z.past hb
  have hB := below_later hB hb
  clear hb
  rw [HQ.out] at hAU hAD ⊢
  go_wp2_with fail
  obtain ⟨w3, hW, hz0, hb, q, f⟩ := box1g w2 (w2.heap.size) (by omega) #[.bool (neg (Q).num), .slice ahAU nhAU chAU, .slice ahAD nhAD chAD] 36
  rw [hW]
  clear hW
  have hAU := hAU.past hb
  have hAD := hAD.past hb
  have hB := below_later hB hb
  clear hb
  have lx : w2.heap.size < w3.heap.size := by omega
  have qx0 := q 0; have qx1 := q 1; have qx2 := q 2
  simp only [List.getElem?_toArray, List.getElem?_cons_zero, List.getElem?_cons_succ] at qx0 qx1 qx2
  clear q f
  clear hz0
  with_reducible refine (is24 HI.out hx hy hy2 hAU.toNatAt hAD.toNatAt).mono ?_
  rintro e w4 ⟨rfl, hb⟩
  have hAU := hAU.past hb
  have hAD := hAD.past hb
  have qx0 := bq hb lx qx0; have qx1 := bq hb lx qx1; have qx2 := bq hb lx qx2
  have lx := bl hb lx
  have hB := below_later hB hb
  clear hb
  go_wp2
  go_ret
  exact ⟨rfl, hB⟩

set_option maxRecDepth 100000 in
set_option maxHeartbeats 4000000 in
theorem l24_free0 (u : Nat) {x : Int} {y : Nat} (hq : mkRat x y = 0) (hx : -9223372036854775808 ≤ x ∧ x ≤ 9223372036854775807) (hy : 0 < y) (hy2 : y ≤ 9223372036854775807) (hu : u ≤ 3) (hu2 : 1 ≤ u) (h0 : cloudR [1, 1] 3 u = 0) (w : World) :
    Calls Try.prog 30 #[.int .i64 (u : Int), .int .i64 x, .int .i64 (y : Int)] w (RetVal w (.bool true)) := by
  obtain ⟨Q, hQ⟩ : ∃ Q : Rat, 0 = Q := ⟨_, rfl⟩
  have HQ := Lib.hid hQ
  rw [hQ] at hq
  have HI := Lib.hid hq
  clear hQ hq
  have H0 := Lib.hid h0
  clear h0
  go_enter Try.func30, Try.ntmps30
  have hB := Below.refl w.heap.size w
  go_wp2_with fail
  have h0z := litI (E := 3) w #[.int .i64 1, .int .i64 1] [1, 1] 2 rfl rfl (by decide) (by decide)
  obtain ⟨w1, hW⟩ : ∃ W, w.alloc (.cells #[.int .i64 1, .int .i64 1] 3) = W := ⟨_, rfl⟩
  have hb : Below w.heap.size w w1 := by rw [← hW]; exact (Below.refl _ _).alloc (Nat.le_refl _) _
  rw [hW] at h0z ⊢
  clear hW
  have hB := below_later hB hb
  clear hb
  have z := h0z
  clear h0z
  go_wp2_with fail
  refine (Free_none _ _ _ [1, 1] 3 u _ z tab24 (by decide) (by decide) hu hu2 H0.out).mono ?_
  rintro e w2 ⟨ahAU, nhAU, chAU, ahAD, nhAD, chAD, rfl, hAU, hAD, hb⟩
  have z := z.past hb
  have hB := below_later hB hb
  clear hb
  rw [HQ.out] at hAU hAD ⊢
  go_wp2_with fail
  obtain ⟨w3, hW, hz0, hb, q, f⟩ := box1g w2 (w2.heap.size) (by omega) #[.bool (neg (Q).num), .slice ahAU nhAU chAU, .slice ahAD nhAD chAD] 36
  rw [hW]
  clear hW
  have hAU := hAU.past hb
  have hAD := hAD.past hb
  have hB := below_later hB hb
  clear hb
  have lx : w2.heap.size < w3.heap.size := by omega
  have qx0 := q 0; have qx1 := q 1; have qx2 := q 2
  simp only [List.getElem?_toArray, List.getElem?_cons_zero, List.getElem?_cons_succ] at qx0 qx1 qx2
  clear q f
  clear hz0
  with_reducible refine (is24 HI.out hx hy hy2 hAU.toNatAt hAD.toNatAt).mono ?_
  rintro e w4 ⟨rfl, hb⟩
  have hAU := hAU.past hb
  have hAD := hAD.past hb
  have qx0 := bq hb lx qx0; have qx1 := bq hb lx qx1; have qx2 := bq hb lx qx2
  have lx := bl hb lx
  have hB := below_later hB hb
  clear hb
  go_wp2
  go_ret
  exact ⟨rfl, hB⟩

set_option maxRecDepth 100000 in
set_option maxHeartbeats 4000000 in
theorem awake24 (w : World) : Calls Try.prog 27 #[] w (RetVal w (.bool true)) := by
  go_enter Try.func27, Try.ntmps27
  have hB := Below.refl w.heap.size w
  go_wp2_with fail
  refine (l24_in 3 1 (x := 1) (y := 2) (by decide +kernel) (by decide) (by decide) (by decide) (by decide) (by decide) _).mono ?_
  rintro e w1 ⟨rfl, hb⟩
  have hB := below_later hB hb
  clear hb
  go_wp2_with fail
  refine (l24_in 2 2 (x := 1) (y := 6) (by decide +kernel) (by decide) (by decide) (by decide) (by decide) (by decide) _).mono ?_
  rintro e w2 ⟨rfl, hb⟩
  have hB := below_later hB hb
  clear hb
  go_wp2_with fail
  refine (l24_cloud 2 (x := 1) (y := 6) (by decide +kernel) (by decide) (by decide) (by decide) (by decide) _).mono ?_
  rintro e w3 ⟨rfl, hb⟩
  have hB := below_later hB hb
  clear hb
  go_wp2_with fail
  refine (l24_free 3 (x := 2) (y := 3) (by decide +kernel) (by decide) (by decide) (by decide) (by decide) (by decide) (by decide +kernel) _).mono ?_
  rintro e w4 ⟨rfl, hb⟩
  have hB := below_later hB hb
  clear hb
  go_wp2
  go_ret
  exact ⟨rfl, hB⟩

set_option maxRecDepth 100000 in
set_option maxHeartbeats 16000000 in
theorem chanceKnown_any (w : World) : Calls Try.prog 6 #[] w (RetVal w (.bool true)) := by
  go_enter Try.func6, Try.ntmps6
  have hB := Below.refl w.heap.size w
  go_wp2_with fail
  have h0z := litI (E := 3) w #[.int .i64 1, .int .i64 1] [1, 1] 2 rfl rfl (by decide) (by decide)
  obtain ⟨w1, hW⟩ : ∃ W, w.alloc (.cells #[.int .i64 1, .int .i64 1] 3) = W := ⟨_, rfl⟩
  have hb : Below w.heap.size w w1 := by rw [← hW]; exact (Below.refl _ _).alloc (Nat.le_refl _) _
  rw [hW] at h0z ⊢
  clear hW
  have hB := below_later hB hb
  clear hb
  have z := h0z
  clear h0z
  go_wp2_with fail
  with_reducible refine (In_ref _ _ _ [1, 1] 3 4 1 _ z 3 (by decide +kernel) (by decide)).mono ?_
  rintro e w2 ⟨rfl, hb⟩
  have z := z.past hb
  have hB := below_later hB hb
  clear hb
  go_wp2_with fail
  obtain ⟨w3, hW, hz0, hb, q, f⟩ := box1g w2 (w2.heap.size) (by omega) #[.bool false, .slice none 0 0, .slice none 0 0] 36
  rw [hW]
  clear hW
  have z := z.past hb
  have hB := below_later hB hb
  clear hb
  have la : w2.heap.size < w3.heap.size := by omega
  have qa0 := q 0; have qa1 := q 1; have qa2 := q 2
  simp only [List.getElem?_toArray, List.getElem?_cons_zero, List.getElem?_cons_succ] at qa0 qa1 qa2
  clear q f
  clear hz0
  with_reducible refine (In_high _ _ _ [1, 1] 3 2 3 _ z (by decide +kernel) (by decide) (by decide)).mono ?_
  rintro e w4 ⟨rfl, hb⟩
  have z := z.past hb
  have qa0 := bq hb la qa0; have qa1 := bq hb la qa1; have qa2 := bq hb la qa2
  have la := bl hb la
  have hB := below_later hB hb
  clear hb
  go_wp2_with fail
  obtain ⟨w5, hW, hz0, hb, q, f⟩ := box1g w4 (w4.heap.size) (by omega) #[.bool false, .slice none 0 0, .slice none 0 0] 36
  rw [hW]
  clear hW
  have z := z.past hb
  have hB := below_later hB hb
  clear hb
  have lb : w4.heap.size < w5.heap.size := by omega
  have qb0 := q 0; have qb1 := q 1; have qb2 := q 2
  simp only [List.getElem?_toArray, List.getElem?_cons_zero, List.getElem?_cons_succ] at qb0 qb1 qb2
  clear q f
  clear hz0
  refine (Free_zero _ _ _ [1, 1] 3 _ z tab24 (by decide) (by decide)).mono ?_
  rintro e w6 ⟨rfl, hb⟩
  have z := z.past hb
  have qb0 := bq hb lb qb0; have qb1 := bq hb lb qb1; have qb2 := bq hb lb qb2
  have lb := bl hb lb
  have hB := below_later hB hb
  clear hb
  go_wp2_with fail
  obtain ⟨w7, hW, hz0, hb, q, f⟩ := box1g w6 (w6.heap.size) (by omega) #[.bool false, .slice none 0 0, .slice none 0 0] 36
  rw [hW]
  clear hW
  have z := z.past hb
  have hB := below_later hB hb
  clear hb
  have lc : w6.heap.size < w7.heap.size := by omega
  have qc0 := q 0; have qc1 := q 1; have qc2 := q 2
  simp only [List.getElem?_toArray, List.getElem?_cons_zero, List.getElem?_cons_succ] at qc0 qc1 qc2
  clear q f
  clear hz0
  with_reducible refine (Cloud_ref _ _ _ [] 3 1 _ intsAt_none 13 (by decide +kernel) (by decide)).mono ?_
  rintro e w8 ⟨rfl, hb⟩
  have z := z.past hb
  have qc0 := bq hb lc qc0; have qc1 := bq hb lc qc1; have qc2 := bq hb lc qc2
  have lc := bl hb lc
  have hB := below_later hB hb
  clear hb
  go_wp2_with fail
  obtain ⟨w9, hW, hz0, hb, q, f⟩ := box1g w8 (w8.heap.size) (by omega) #[.bool false, .slice none 0 0, .slice none 0 0] 36
  rw [hW]
  clear hW
  have z := z.past hb
  have hB := below_later hB hb
  clear hb
  have ld : w8.heap.size < w9.heap.size := by omega
  have qd0 := q 0; have qd1 := q 1; have qd2 := q 2
  simp only [List.getElem?_toArray, List.getElem?_cons_zero, List.getElem?_cons_succ] at qd0 qd1 qd2
  clear q f
  clear hz0
  with_reducible refine (Cloud_ref _ _ _ [1, 1] 1025 1 _ z 3 (by decide +kernel) (by decide)).mono ?_
  rintro e w10 ⟨rfl, hb⟩
  have z := z.past hb
  have qd0 := bq hb ld qd0; have qd1 := bq hb ld qd1; have qd2 := bq hb ld qd2
  have ld := bl hb ld
  have hB := below_later hB hb
  clear hb
  go_wp2_with fail
  obtain ⟨w11, hW, hz0, hb, q, f⟩ := box1g w10 (w10.heap.size) (by omega) #[.bool false, .slice none 0 0, .slice none 0 0] 36
  rw [hW]
  clear hW
  have z := z.past hb
  have hB := below_later hB hb
  clear hb
  have le : w10.heap.size < w11.heap.size := by omega
  have qe0 := q 0; have qe1 := q 1; have qe2 := q 2
  simp only [List.getElem?_toArray, List.getElem?_cons_zero, List.getElem?_cons_succ] at qe0 qe1 qe2
  clear q f
  clear hz0
  with_reducible refine (awake24 _).mono ?_
  rintro e w12 ⟨rfl, hb⟩
  have z := z.past hb
  have qe0 := bq hb le qe0; have qe1 := bq hb le qe1; have qe2 := bq hb le qe2
  have le := bl hb le
  have hB := below_later hB hb
  clear hb
  go_wp2_with fail
  refine (l24_in 3 2 (x := 1) (y := 2) (by decide +kernel) (by decide) (by decide) (by decide) (by decide) (by decide) _).mono ?_
  rintro e w13 ⟨rfl, hb⟩
  have hB := below_later hB hb
  clear hb
  go_wp2_with fail
  refine (l24_in 2 1 (x := 2) (y := 3) (by decide +kernel) (by decide) (by decide) (by decide) (by decide) (by decide) _).mono ?_
  rintro e w14 ⟨rfl, hb⟩
  have hB := below_later hB hb
  clear hb
  go_wp2_with fail
  refine (l24_in 2 0 (x := 1) (y := 6) (by decide +kernel) (by decide) (by decide) (by decide) (by decide) (by decide) _).mono ?_
  rintro e w15 ⟨rfl, hb⟩
  have hB := below_later hB hb
  clear hb
  go_wp2_with fail
  refine (l24_cloud 3 (x := 1) (y := 2) (by decide +kernel) (by decide) (by decide) (by decide) (by decide) _).mono ?_
  rintro e w16 ⟨rfl, hb⟩
  have hB := below_later hB hb
  clear hb
  go_wp2_with fail
  refine (l24_free 2 (x := 1) (y := 1) (by decide +kernel) (by decide) (by decide) (by decide) (by decide) (by decide) (by decide +kernel) _).mono ?_
  rintro e w17 ⟨rfl, hb⟩
  have hB := below_later hB hb
  clear hb
  go_wp2_with fail
  refine (l24_free0 1 (x := 0) (y := 1) (by decide +kernel) (by decide) (by decide) (by decide) (by decide) (by decide) (by decide +kernel) _).mono ?_
  rintro e w18 ⟨rfl, hb⟩
  have hB := below_later hB hb
  clear hb
  go_wp2
  go_ret
  exact ⟨rfl, hB⟩

end Go.Proofs.Ytlkoenpdmlbhlaa
