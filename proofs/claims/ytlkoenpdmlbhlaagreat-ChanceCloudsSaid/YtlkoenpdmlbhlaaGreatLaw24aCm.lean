import Derived.Test.YtlkoenpdmlbhlaaGreatS0Cm
import Derived.Test.YtlkoenpdmlbhlaaGreatChance8Cm
import Derived.Test.YtlkoenpdmlbhlaaGreatA9Cm
import Derived.Test.YtlkoenpdmlbhlaaGreatSoliPCm
import Derived.Test.YtlkoenpdmlbhlaaGreatReg7Cm
import Derived.Test.YtlkoenpdmlbhlaaGreatRatio10Cm
set_option linter.unusedVariables false
set_option linter.unusedSimpArgs false
namespace Go.Proofs.YtlkoenpdmlbhlaaGreat
open Go.RowKit
theorem pair24 {x : Int} {y : Nat} {q : Rat} (hq : mkRat x y = q) (w : World) (hx : -9223372036854775808 ≤ x ∧ x ≤ 9223372036854775807) (hy : 0 < y) (hy2 : y ≤ 9223372036854775807) :
 Calls Tryz.prog 69 #[.int .i64 x, .int .i64 (y : Int)] w (RetOk w q) := by
 rw [← hq]
 exact pair_ok (x := x) (y := (y : Int)) (q := mkRat x y) (by omega) (pr_pos hy) w hx (by omega)
theorem same24 {q : Rat} {a1 : Option Addr} {n1 c1 : Nat} {a2 : Option Addr} {n2 c2 : Nat} {a3 : Option Addr} {n3 c3 : Nat} {a4 : Option Addr} {n4 c4 : Nat} {w : World} (g1 : NatAt w a1 n1 c1 (digs q.num.natAbs)) (g2 : NatAt w a2 n2 c2 (digs q.den)) (g3 : NatAt w a3 n3 c3 (digs q.num.natAbs)) (g4 : NatAt w a4 n4 c4 (digs q.den)) :
 Calls Tryz.prog 16 #[.agg #[.bool (neg q.num), .slice a1 n1 c1, .slice a2 n2 c2], .agg #[.bool (neg q.num), .slice a3 n3 c3, .slice a4 n4 c4]] w (RetVal w (.bool true)) := by
 have h := sameRatio_any (neg q.num) _ _ _ _ _ _ _ _ (neg q.num) _ _ _ _ _ _ _ _ w g1 g2 g3 g4
 rwa [show eqR (neg q.num) (digs q.num.natAbs) (digs q.den) (neg q.num) (digs q.num.natAbs) (digs q.den) = true by simp [eqR]] at h
set_option maxRecDepth 100000 in
set_option maxHeartbeats 4000000 in
theorem is24 {x : Int} {y : Nat} {q : Rat} (hq : mkRat x y = q) (hx : -9223372036854775808 ≤ x ∧ x ≤ 9223372036854775807) (hy : 0 < y) (hy2 : y ≤ 9223372036854775807) {a1 : Option Addr} {n1 c1 : Nat} {a2 : Option Addr} {n2 c2 : Nat} {w : World} (g1 : NatAt w a1 n1 c1 (digs q.num.natAbs)) (g2 : NatAt w a2 n2 c2 (digs q.den)) :
 Calls Tryz.prog 94 #[.agg #[.bool (neg q.num), .slice a1 n1 c1, .slice a2 n2 c2], .int .i64 0, .int .i64 x, .int .i64 (y : Int)] w (RetVal w (.bool true)) := by
 have HP := Lib.hid (fun w => pair24 hq w hx hy hy2)
 clear hq
 go_enter Tryz.func94, Tryz.ntmps94
 have hB := Below.refl w.heap.size w
 go_wp2_with fail
 obtain ⟨w1, hW, hz0, hb, q, f⟩ := box1g w (w.heap.size) (by omega) #[.bool (neg q.num), .slice a1 n1 c1, .slice a2 n2 c2] 27
 rw [hW]
 clear hW
 have g1 := g1.past hb
 have g2 := g2.past hb
 have hB := below_later hB hb
 clear hb
 have lp : w.heap.size < w1.heap.size := by omega
 have qp0 := q 0; have qp1 := q 1; have qp2 := q 2
 simp only [lgA, lgZ, lgS] at qp0 qp1 qp2
 clear q f
 clear hz0
 with_reducible refine (HP.out _).mono ?_
 rintro e w2 ⟨ahAU, nhAU, chAU, ahAD, nhAD, chAD, rfl, hAU, hAD, hb⟩
 have g1 := g1.past hb
 have g2 := g2.past hb
 obtain ⟨qp0, qp1, qp2, lp⟩ := bq3 hb lp qp0 qp1 qp2
 have hB := below_later hB hb
 clear hb
 go_wp2_with fail
 obtain ⟨w3, hW, hz0, hb, q, f⟩ := box1g w2 (w2.heap.size) (by omega) #[.bool (neg (q).num), .slice ahAU nhAU chAU, .slice ahAD nhAD chAD] 27
 rw [hW]
 clear hW
 have g1 := g1.past hb
 have g2 := g2.past hb
 have hAU := hAU.past hb
 have hAD := hAD.past hb
 obtain ⟨qp0, qp1, qp2, lp⟩ := bq3 hb lp qp0 qp1 qp2
 have hB := below_later hB hb
 clear hb
 have lx : w2.heap.size < w3.heap.size := by omega
 have qx0 := q 0; have qx1 := q 1; have qx2 := q 2
 simp only [lgA, lgZ, lgS] at qx0 qx1 qx2
 clear q f
 clear hz0
 with_reducible refine (same24 g1 g2 hAU.toNatAt hAD.toNatAt).mono ?_
 rintro e w4 ⟨rfl, hb⟩
 have g1 := g1.past hb
 have g2 := g2.past hb
 have hAU := hAU.past hb
 have hAD := hAD.past hb
 obtain ⟨qp0, qp1, qp2, lp⟩ := bq3 hb lp qp0 qp1 qp2
 obtain ⟨qx0, qx1, qx2, lx⟩ := bq3 hb lx qx0 qx1 qx2
 have hB := below_later hB hb
 clear hb
 go_wp2
 go_ret
 exact ⟨rfl, hB⟩
theorem tab24 : okT [1, 1] ((3 : Nat) : Int) := by decide +kernel
set_option maxRecDepth 100000 in
set_option maxHeartbeats 4000000 in
theorem l24_in (u j : Nat) {x : Int} {y : Nat} (hq : mkRat x y = inR24 [1, 1] 3 u j) (hx : -9223372036854775808 ≤ x ∧ x ≤ 9223372036854775807) (hy : 0 < y) (hy2 : y ≤ 9223372036854775807) (hu : u ≤ 3) (hj : j ≤ u) (w : World) :
 Calls Tryz.prog 49 #[.int .i64 (u : Int), .int .i64 (j : Int), .int .i64 x, .int .i64 (y : Int)] w (RetVal w (.bool true)) := by
 obtain ⟨Q, hQ⟩ : ∃ Q : Rat, inR24 [1, 1] 3 u j = Q := ⟨_, rfl⟩
 have HQ := Lib.hid hQ
 rw [hQ] at hq
 have HI := Lib.hid hq
 clear hQ hq
 go_enter Tryz.func49, Tryz.ntmps49
 have hB := Below.refl w.heap.size w
 go_wp2_with fail
 have h0z := litI (E := 3) w #[.int .i64 1, .int .i64 1] [1, 1] 2 rfl rfl (by decide) (by decide)
 obtain ⟨w1, hW⟩ : ∃ W, w.alloc (.cells #[.int .i64 1, .int .i64 1] 3) = W := ⟨_, rfl⟩
 have hb : Below w.heap.size w w1 := by rw [← hW]; exact (Below.refl _ _).alloc (Nat.le_refl _) _
 rw [hW] at h0z ⊢
 clear hW
 have hB := below_later hB hb
 clear hb
 have z := h0z
 clear h0z
 go_wp2_with fail
 refine (In_ok _ _ _ [1, 1] 3 u j _ z tab24 (by decide) (by decide) hu hj).mono ?_
 rintro e w2 ⟨ahAU, nhAU, chAU, ahAD, nhAD, chAD, rfl, hAU, hAD, hb⟩
 have z := z.past hb
 have hB := below_later hB hb
 clear hb
 rw [HQ.out] at hAU hAD ⊢
 go_wp2_with fail
 obtain ⟨w3, hW, hz0, hb, q, f⟩ := box1g w2 (w2.heap.size) (by omega) #[.bool (neg (Q).num), .slice ahAU nhAU chAU, .slice ahAD nhAD chAD] 27
 rw [hW]
 clear hW
 have hAU := hAU.past hb
 have hAD := hAD.past hb
 have hB := below_later hB hb
 clear hb
 have lx : w2.heap.size < w3.heap.size := by omega
 have qx0 := q 0; have qx1 := q 1; have qx2 := q 2
 simp only [lgA, lgZ, lgS] at qx0 qx1 qx2
 clear q f
 clear hz0
 with_reducible refine (is24 HI.out hx hy hy2 hAU.toNatAt hAD.toNatAt).mono ?_
 rintro e w4 ⟨rfl, hb⟩
 have hAU := hAU.past hb
 have hAD := hAD.past hb
 obtain ⟨qx0, qx1, qx2, lx⟩ := bq3 hb lx qx0 qx1 qx2
 have hB := below_later hB hb
 clear hb
 go_wp2
 go_ret
 exact ⟨rfl, hB⟩
set_option maxRecDepth 100000 in
set_option maxHeartbeats 4000000 in
theorem l24_cloud (u : Nat) {x : Int} {y : Nat} (hq : mkRat x y = cloudR [1, 1] 3 u) (hx : -9223372036854775808 ≤ x ∧ x ≤ 9223372036854775807) (hy : 0 < y) (hy2 : y ≤ 9223372036854775807) (hu : u ≤ 3) (w : World) :
 Calls Tryz.prog 50 #[.int .i64 (u : Int), .int .i64 x, .int .i64 (y : Int)] w (RetVal w (.bool true)) := by
 obtain ⟨Q, hQ⟩ : ∃ Q : Rat, cloudR [1, 1] 3 u = Q := ⟨_, rfl⟩
 have HQ := Lib.hid hQ
 rw [hQ] at hq
 have HI := Lib.hid hq
 clear hQ hq
 go_enter Tryz.func50, Tryz.ntmps50
 have hB := Below.refl w.heap.size w
 go_wp2_with fail
 have h0z := litI (E := 3) w #[.int .i64 1, .int .i64 1] [1, 1] 2 rfl rfl (by decide) (by decide)
 obtain ⟨w1, hW⟩ : ∃ W, w.alloc (.cells #[.int .i64 1, .int .i64 1] 3) = W := ⟨_, rfl⟩
 have hb : Below w.heap.size w w1 := by rw [← hW]; exact (Below.refl _ _).alloc (Nat.le_refl _) _
 rw [hW] at h0z ⊢
 clear hW
 have hB := below_later hB hb
 clear hb
 have z := h0z
 clear h0z
 go_wp2_with fail
 refine (Cloud_ok _ _ _ [1, 1] 3 u _ z tab24 (by decide) (by decide) hu).mono ?_
 rintro e w2 ⟨ahAU, nhAU, chAU, ahAD, nhAD, chAD, rfl, hAU, hAD, hb⟩
 have z := z.past hb
 have hB := below_later hB hb
 clear hb
 rw [HQ.out] at hAU hAD ⊢
 go_wp2_with fail
 obtain ⟨w3, hW, hz0, hb, q, f⟩ := box1g w2 (w2.heap.size) (by omega) #[.bool (neg (Q).num), .slice ahAU nhAU chAU, .slice ahAD nhAD chAD] 27
 rw [hW]
 clear hW
 have hAU := hAU.past hb
 have hAD := hAD.past hb
 have hB := below_later hB hb
 clear hb
 have lx : w2.heap.size < w3.heap.size := by omega
 have qx0 := q 0; have qx1 := q 1; have qx2 := q 2
 simp only [lgA, lgZ, lgS] at qx0 qx1 qx2
 clear q f
 clear hz0
 with_reducible refine (is24 HI.out hx hy hy2 hAU.toNatAt hAD.toNatAt).mono ?_
 rintro e w4 ⟨rfl, hb⟩
 have hAU := hAU.past hb
 have hAD := hAD.past hb
 obtain ⟨qx0, qx1, qx2, lx⟩ := bq3 hb lx qx0 qx1 qx2
 have hB := below_later hB hb
 clear hb
 go_wp2
 go_ret
 exact ⟨rfl, hB⟩
set_option maxRecDepth 100000 in
set_option maxHeartbeats 4000000 in
theorem l24_free (u : Nat) {x : Int} {y : Nat} (hq : mkRat x y = freeR [1, 1] 3 u) (hx : -9223372036854775808 ≤ x ∧ x ≤ 9223372036854775807) (hy : 0 < y) (hy2 : y ≤ 9223372036854775807) (hu : u ≤ 3) (hu2 : 2 ≤ u) (h0 : cloudR [1, 1] 3 u ≠ 0) (w : World) :
 Calls Tryz.prog 51 #[.int .i64 (u : Int), .int .i64 x, .int .i64 (y : Int)] w (RetVal w (.bool true)) := by
 obtain ⟨Q, hQ⟩ : ∃ Q : Rat, freeR [1, 1] 3 u = Q := ⟨_, rfl⟩
 have HQ := Lib.hid hQ
 rw [hQ] at hq
 have HI := Lib.hid hq
 clear hQ hq
 have H0 := Lib.hid h0
 clear h0
 go_enter Tryz.func51, Tryz.ntmps51
 have hB := Below.refl w.heap.size w
 go_wp2_with fail
 have h0z := litI (E := 3) w #[.int .i64 1, .int .i64 1] [1, 1] 2 rfl rfl (by decide) (by decide)
 obtain ⟨w1, hW⟩ : ∃ W, w.alloc (.cells #[.int .i64 1, .int .i64 1] 3) = W := ⟨_, rfl⟩
 have hb : Below w.heap.size w w1 := by rw [← hW]; exact (Below.refl _ _).alloc (Nat.le_refl _) _
 rw [hW] at h0z ⊢
 clear hW
 have hB := below_later hB hb
 clear hb
 have z := h0z
 clear h0z
 go_wp2_with fail
 refine (Free_ok _ _ _ [1, 1] 3 u _ z tab24 (by decide) (by decide) hu hu2 H0.out).mono ?_
 rintro e w2 ⟨ahAU, nhAU, chAU, ahAD, nhAD, chAD, rfl, hAU, hAD, hb⟩
 have z := z.past hb
 have hB := below_later hB hb
 clear hb
 rw [HQ.out] at hAU hAD ⊢
 go_wp2_with fail
 obtain ⟨w3, hW, hz0, hb, q, f⟩ := box1g w2 (w2.heap.size) (by omega) #[.bool (neg (Q).num), .slice ahAU nhAU chAU, .slice ahAD nhAD chAD] 27
 rw [hW]
 clear hW
 have hAU := hAU.past hb
 have hAD := hAD.past hb
 have hB := below_later hB hb
 clear hb
 have lx : w2.heap.size < w3.heap.size := by omega
 have qx0 := q 0; have qx1 := q 1; have qx2 := q 2
 simp only [lgA, lgZ, lgS] at qx0 qx1 qx2
 clear q f
 clear hz0
 with_reducible refine (is24 HI.out hx hy hy2 hAU.toNatAt hAD.toNatAt).mono ?_
 rintro e w4 ⟨rfl, hb⟩
 have hAU := hAU.past hb
 have hAD := hAD.past hb
 obtain ⟨qx0, qx1, qx2, lx⟩ := bq3 hb lx qx0 qx1 qx2
 have hB := below_later hB hb
 clear hb
 go_wp2
 go_ret
 exact ⟨rfl, hB⟩
set_option maxRecDepth 100000 in
set_option maxHeartbeats 4000000 in
theorem awake24 (w : World) : Calls Tryz.prog 18 #[] w (RetVal w (.bool true)) := by
 go_enter Tryz.func18, Tryz.ntmps18
 have hB := Below.refl w.heap.size w
 go_wp2_with fail
 refine (l24_in 3 1 (x := 1) (y := 2) (by decide +kernel) (by decide) (by decide) (by decide) (by decide) (by decide) _).mono ?_
 rintro e w1 ⟨rfl, hb⟩
 have hB := below_later hB hb
 clear hb
 go_wp2_with fail
 refine (l24_in 2 2 (x := 1) (y := 6) (by decide +kernel) (by decide) (by decide) (by decide) (by decide) (by decide) _).mono ?_
 rintro e w2 ⟨rfl, hb⟩
 have hB := below_later hB hb
 clear hb
 go_wp2_with fail
 refine (l24_cloud 2 (x := 1) (y := 6) (by decide +kernel) (by decide) (by decide) (by decide) (by decide) _).mono ?_
 rintro e w3 ⟨rfl, hb⟩
 have hB := below_later hB hb
 clear hb
 go_wp2_with fail
 refine (l24_free 3 (x := 2) (y := 3) (by decide +kernel) (by decide) (by decide) (by decide) (by decide) (by decide) (by decide +kernel) _).mono ?_
 rintro e w4 ⟨rfl, hb⟩
 have hB := below_later hB hb
 clear hb
 go_wp2
 go_ret
 exact ⟨rfl, hB⟩
end Go.Proofs.YtlkoenpdmlbhlaaGreat
set_option linter.unusedVariables false
set_option linter.unusedSimpArgs false
namespace Go.Proofs.YtlkoenpdmlbhlaaGreat
open Go.RowKit
def inR (k s : Int) : Prop := 1 ≤ k ∧ k ≤ 65536 ∧ 1 ≤ s ∧ s ≤ 16777215
instance (k s : Int) : Decidable (inR k s) := by unfold inR; infer_instance
end Go.Proofs.YtlkoenpdmlbhlaaGreat
