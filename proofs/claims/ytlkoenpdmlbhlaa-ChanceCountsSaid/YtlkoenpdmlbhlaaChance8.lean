/- chance, eighth part: Free. -/
import Derived.Test.YtlkoenpdmlbhlaaChance7
import Derived.Test.YtlkoenpdmlbhlaaRatio10
import Derived.Test.YtlkoenpdmlbhlaaReg7
set_option linter.unusedVariables false
set_option linter.unusedSimpArgs false
namespace Go.Proofs.Ytlkoenpdmlbhlaa
open Go.RowKit Go.Shelf

theorem div24 {p q : Rat} {a1 : Option Addr} {n1 c1 : Nat} {a2 : Option Addr} {n2 c2 : Nat} {a3 : Option Addr} {n3 c3 : Nat} {a4 : Option Addr} {n4 c4 : Nat} {w : World} (g1 : NatAt w a1 n1 c1 (digs p.num.natAbs)) (g2 : NatAt w a2 n2 c2 (digs p.den)) (g3 : NatAt w a3 n3 c3 (digs q.num.natAbs)) (g4 : NatAt w a4 n4 c4 (digs q.den)) (hp : rlen p ≤ 1048576) (hq : rlen q ≤ 1048576) (h0 : q ≠ 0) :
    Calls Try.prog 59 #[.agg #[.bool (neg p.num), .slice a1 n1 c1, .slice a2 n2 c2], .agg #[.bool (neg q.num), .slice a3 n3 c3, .slice a4 n4 c4]] w (RetOk w (p / q)) := by
  unfold rlen at hp hq
  exact div05_rat p q _ _ _ _ _ _ _ _ _ _ _ _ w g1 g2 g3 g4 (by have := g1.len; omega) (by have := g2.len; omega) (by have := g3.len; omega) (by have := g4.len; omega) h0
/-- the chance that one is left besides a known one -/
def freeR (zs : List Int) (k u : Nat) : Rat := mkRat 2 u * inR24 zs k u 2 / cloudR zs k u
theorem in_any2 (a : Option Addr) (n c : Nat) (zs : List Int) (k u : Nat) (w : World) (g : IntsAt w a n c zs) (hok : okT zs (k : Int)) (hk : k ≤ 20) (hu : u ≤ k) (hj : 2 ≤ u) :
    Calls Try.prog 57 #[.slice a n c, .int .i64 (k : Int), .int .i64 (u : Int), .int .i64 2] w (RetRat w (inR24 zs k u 2)) := in_any a n c zs k u 2 w g hok hk hu hj
theorem cloud_one {zs : List Int} {k u : Nat} (h : u ≤ 1) : cloudR zs k u = 0 := by
  unfold cloudR
  rw [show u + 1 - 2 = 0 by omega]
  rfl

set_option maxRecDepth 100000 in
set_option maxHeartbeats 4000000 in
theorem Free_ref (a : Option Addr) (n c : Nat) (zs : List Int) (k u : Int) (w : World) (g : IntsAt w a n c zs) (X : Int) (h : refA zs k u = X) (hX : X ≠ 0) :
    Calls Try.prog 25 #[.slice a n c, .int .i64 k, .int .i64 u] w (RetNone w X) := by
  have H := Lib.hid h
  have HX := Lib.hid hX
  have t0 : (X == 0) = false := by rw [beq_eq_false_iff_ne]; exact hX
  have t1 : (X != 0) = true := by simp [hX]
  clear h hX
  go_enter Try.func25, Try.ntmps25
  have hB := Below.refl w.heap.size w
  go_wp2_with fail
  obtain ⟨w1, hW, hz0, hb, q, f⟩ := box1g w (w.heap.size) (by omega) #[.bool false, .slice none 0 0, .slice none 0 0] 36
  rw [hW]
  clear hW
  have g := g.past hb
  have hB := below_later hB hb
  clear hb
  have lr : w.heap.size < w1.heap.size := by omega
  have qr0 := q 0; have qr1 := q 1; have qr2 := q 2
  simp only [List.getElem?_toArray, List.getElem?_cons_zero, List.getElem?_cons_succ] at qr0 qr1 qr2
  have xr : BoxAt w1 (w.heap.size) 3 := BoxAt.of q f rfl (by simp [notU_bool, notU_slice, notU_i64])
  clear q f
  clear hz0
  with_reducible refine (Cloud_ref _ _ _ zs k u _ g X H.out HX.out).mono ?_
  rintro e w2 ⟨rfl, hb⟩
  have g := g.past hb
  have qr0 := bq hb lr qr0; have qr1 := bq hb lr qr1; have qr2 := bq hb lr qr2
  have xr := xr.past hb lr
  have lr := bl hb lr
  have hB := below_later hB hb
  clear hb
  have zf0 := xr.f 0 (by decide)
  have zf1 := xr.f 1 (by decide)
  have zf2 := xr.f 2 (by decide)
  go_wp2
  have zf0 := xr.f 0 (by decide)
  have zf1 := xr.f 1 (by decide)
  have zf2 := xr.f 2 (by decide)
  obtain ⟨w3, hW, hO, qN0, qN1, qN2, xN⟩ := store3 xr (.bool false) (.slice none 0 0) (.slice none 0 0) (nu rfl) (nu rfl) (nu rfl)
  try rw [hW]
  clear hW
  have lr : w.heap.size < w3.heap.size := by rw [hO.size]; exact lr
  have qr0 := qN0
  have qr1 := qN1
  have qr2 := qN2
  have xr := xN
  have hB := hO.below (by omega) hB
  clear hO qN0 qN1 qN2 xN zf0 zf1 zf2
  obtain ⟨w4, hW, hz0, hb, q, f⟩ := box1g w3 (w3.heap.size) (by omega) #[.bool false, .slice none 0 0, .slice none 0 0] 36
  rw [hW]
  clear hW
  have qr0 := bq hb lr qr0; have qr1 := bq hb lr qr1; have qr2 := bq hb lr qr2
  have xr := xr.past hb lr
  have lr := bl hb lr
  have hB := below_later hB hb
  clear hb
  have lx : w3.heap.size < w4.heap.size := by omega
  have qx0 := q 0; have qx1 := q 1; have qx2 := q 2
  simp only [List.getElem?_toArray, List.getElem?_cons_zero, List.getElem?_cons_succ] at qx0 qx1 qx2
  clear q f
  clear hz0
  refine bodyPost_ret (v := .tuple #[.agg #[.bool false, .slice none 0 0, .slice none 0 0], .int .i64 X]) ?_ rfl ⟨rfl, hB⟩
  simp [results, Try.f25, go_sem, qr0, qr1, qr2]

set_option maxRecDepth 100000 in
set_option maxHeartbeats 4000000 in
theorem Free_zero (a : Option Addr) (n c : Nat) (zs : List Int) (k : Nat) (w : World) (g : IntsAt w a n c zs) (hok : okT zs (k : Int)) (hk1 : 1 ≤ k) (hk : k ≤ 20) :
    Calls Try.prog 25 #[.slice a n c, .int .i64 (k : Int), .int .i64 0] w (RetNone w 3) := by
  have HOK := Lib.hid hok
  have HC := Lib.hid (fun w g => Cloud_ok a n c zs k 0 w g hok hk1 hk (Nat.zero_le _))
  clear hok
  go_enter Try.func25, Try.ntmps25
  have hB := Below.refl w.heap.size w
  go_wp2_with fail
  obtain ⟨w1, hW, hz0, hb, q, f⟩ := box1g w (w.heap.size) (by omega) #[.bool false, .slice none 0 0, .slice none 0 0] 36
  rw [hW]
  clear hW
  have g := g.past hb
  have hB := below_later hB hb
  clear hb
  have lr : w.heap.size < w1.heap.size := by omega
  have qr0 := q 0; have qr1 := q 1; have qr2 := q 2
  simp only [List.getElem?_toArray, List.getElem?_cons_zero, List.getElem?_cons_succ] at qr0 qr1 qr2
  have xr : BoxAt w1 (w.heap.size) 3 := BoxAt.of q f rfl (by simp [notU_bool, notU_slice, notU_i64])
  clear q f
  clear hz0
  refine (HC.out _ g).mono ?_
  rintro e w2 ⟨ahCU, nhCU, chCU, ahCD, nhCD, chCD, rfl, hCU, hCD, hb⟩
  have hCU := hCU.mono hB.size
  have hCD := hCD.mono hB.size
  have g := g.past hb
  have qr0 := bq hb lr qr0; have qr1 := bq hb lr qr1; have qr2 := bq hb lr qr2
  have xr := xr.past hb lr
  have lr := bl hb lr
  have hB := below_later hB hb
  clear hb
  generalize cloudR zs k 0 = C at *
  have zf0 := xr.f 0 (by decide)
  have zf1 := xr.f 1 (by decide)
  have zf2 := xr.f 2 (by decide)
  go_wp2
  have zf0 := xr.f 0 (by decide)
  have zf1 := xr.f 1 (by decide)
  have zf2 := xr.f 2 (by decide)
  obtain ⟨w3, hW, hO, qN0, qN1, qN2, xN⟩ := store3 xr (.bool false) (.slice none 0 0) (.slice none 0 0) (nu rfl) (nu rfl) (nu rfl)
  try rw [hW]
  clear hW
  have hCU := hO.own hCU
  have hCD := hO.own hCD
  have lr : w.heap.size < w3.heap.size := by rw [hO.size]; exact lr
  have qr0 := qN0
  have qr1 := qN1
  have qr2 := qN2
  have xr := xN
  have hB := hO.below (by omega) hB
  clear hO qN0 qN1 qN2 xN zf0 zf1 zf2
  obtain ⟨w4, hW, hz0, hb, q, f⟩ := box1g w3 (w3.heap.size) (by omega) #[.bool (neg (C).num), .slice ahCU nhCU chCU, .slice ahCD nhCD chCD] 36
  rw [hW]
  clear hW
  have hCU := hCU.past hb
  have hCD := hCD.past hb
  have qr0 := bq hb lr qr0; have qr1 := bq hb lr qr1; have qr2 := bq hb lr qr2
  have xr := xr.past hb lr
  have lr := bl hb lr
  have hB := below_later hB hb
  clear hb
  have lx : w3.heap.size < w4.heap.size := by omega
  have qx0 := q 0; have qx1 := q 1; have qx2 := q 2
  simp only [List.getElem?_toArray, List.getElem?_cons_zero, List.getElem?_cons_succ] at qx0 qx1 qx2
  clear q f
  clear hz0
  refine bodyPost_ret (v := .tuple #[.agg #[.bool false, .slice none 0 0, .slice none 0 0], .int .i64 3]) ?_ rfl ⟨rfl, hB⟩
  simp [results, Try.f25, go_sem, qr0, qr1, qr2]

set_option maxRecDepth 100000 in
set_option maxHeartbeats 4000000 in
theorem Free_none (a : Option Addr) (n c : Nat) (zs : List Int) (k u : Nat) (w : World) (g : IntsAt w a n c zs) (hok : okT zs (k : Int)) (hk1 : 1 ≤ k) (hk : k ≤ 20) (hu : u ≤ k) (hu1 : 1 ≤ u) (h0 : cloudR zs k u = 0) :
    Calls Try.prog 25 #[.slice a n c, .int .i64 (k : Int), .int .i64 (u : Int)] w (RetOk w 0) := by
  have HOK := Lib.hid hok
  have t0 : ((u : Int) == 0) = false := by rw [beq_eq_false_iff_ne]; omega
  obtain ⟨C, hC⟩ : ∃ C, cloudR zs k u = C := ⟨_, rfl⟩
  have HC := Lib.hid (fun w g => Cloud_ok a n c zs k u w g hok hk1 hk hu)
  have HCC := Lib.hid hC
  have ll : (digs C.num.natAbs).length ≤ 1 := by rw [← hC, h0]; decide
  have HS := Lib.hid (show C.num.sign = 0 by rw [← hC, h0]; rfl)
  have HZ := Lib.hid (show C = 0 by rw [← hC, h0])
  clear hok hC h0
  go_enter Try.func25, Try.ntmps25
  have hB := Below.refl w.heap.size w
  go_wp2_with fail
  obtain ⟨w1, hW, hz0, hb, q, f⟩ := box1g w (w.heap.size) (by omega) #[.bool false, .slice none 0 0, .slice none 0 0] 36
  rw [hW]
  clear hW
  have g := g.past hb
  have hB := below_later hB hb
  clear hb
  have lr : w.heap.size < w1.heap.size := by omega
  have qr0 := q 0; have qr1 := q 1; have qr2 := q 2
  simp only [List.getElem?_toArray, List.getElem?_cons_zero, List.getElem?_cons_succ] at qr0 qr1 qr2
  have xr : BoxAt w1 (w.heap.size) 3 := BoxAt.of q f rfl (by simp [notU_bool, notU_slice, notU_i64])
  clear q f
  clear hz0
  with_reducible refine (HC.out _ g).mono ?_
  rintro e w2 ⟨ahCU, nhCU, chCU, ahCD, nhCD, chCD, rfl, hCU, hCD, hb⟩
  have hCU := hCU.mono hB.size
  have hCD := hCD.mono hB.size
  have g := g.past hb
  have qr0 := bq hb lr qr0; have qr1 := bq hb lr qr1; have qr2 := bq hb lr qr2
  have xr := xr.past hb lr
  have lr := bl hb lr
  have hB := below_later hB hb
  clear hb
  rw [HCC.out] at hCU hCD ⊢
  go_wp2_with fail
  obtain ⟨w3, hW, hz0, hb, q, f⟩ := box1g w2 (w2.heap.size) (by omega) #[.bool (neg (C).num), .slice ahCU nhCU chCU, .slice ahCD nhCD chCD] 36
  rw [hW]
  clear hW
  have g := g.past hb
  have hCU := hCU.past hb
  have hCD := hCD.past hb
  have qr0 := bq hb lr qr0; have qr1 := bq hb lr qr1; have qr2 := bq hb lr qr2
  have xr := xr.past hb lr
  have lr := bl hb lr
  have hB := below_later hB hb
  clear hb
  have lx : w2.heap.size < w3.heap.size := by omega
  have qx0 := q 0; have qx1 := q 1; have qx2 := q 2
  simp only [List.getElem?_toArray, List.getElem?_cons_zero, List.getElem?_cons_succ] at qx0 qx1 qx2
  clear q f
  clear hz0
  with_reducible refine (sign_c hCU.toNatAt (by have := hCU.len; omega)).mono ?_
  rintro e w4 ⟨rfl, hb⟩
  have g := g.past hb
  have hCU := hCU.past hb
  have hCD := hCD.past hb
  have qr0 := bq hb lr qr0; have qr1 := bq hb lr qr1; have qr2 := bq hb lr qr2
  have xr := xr.past hb lr
  have lr := bl hb lr
  have qx0 := bq hb lx qx0; have qx1 := bq hb lx qx1; have qx2 := bq hb lx qx2
  have lx := bl hb lx
  have hB := below_later hB hb
  clear hb
  rw [HS.out]
  have zf0 := xr.f 0 (by decide)
  have zf1 := xr.f 1 (by decide)
  have zf2 := xr.f 2 (by decide)
  go_wp2
  obtain ⟨w5, hW, hO, qN0, qN1, qN2, xN⟩ := store3 xr (.bool (neg (C).num)) (.slice ahCU nhCU chCU) (.slice ahCD nhCD chCD) (nu rfl) (nu rfl) (nu rfl)
  try rw [hW]
  clear hW
  have hCU := hO.own hCU
  have hCD := hO.own hCD
  have lr : w.heap.size < w5.heap.size := by rw [hO.size]; exact lr
  have qx0 := (hO.cell (b2 := w2.heap.size) (k := 0) (by omega)).trans qx0
  have qx1 := (hO.cell (b2 := w2.heap.size) (k := 1) (by omega)).trans qx1
  have qx2 := (hO.cell (b2 := w2.heap.size) (k := 2) (by omega)).trans qx2
  have lx : w2.heap.size < w5.heap.size := by rw [hO.size]; exact lx
  have qr0 := qN0
  have qr1 := qN1
  have qr2 := qN2
  have xr := xN
  have hB := hO.below (by omega) hB
  clear hO qN0 qN1 qN2 xN zf0 zf1 zf2
  rw [HZ.out] at *
  refine bodyPost_ret (v := .tuple #[.agg #[.bool (neg (0 : Rat).num), .slice ahCU nhCU chCU, .slice ahCD nhCD chCD], .int .i64 0]) ?_ rfl ⟨_, _, _, _, _, _, rfl, hCU, hCD, hB⟩
  simp [results, Try.f25, go_sem, qr0, qr1, qr2]

set_option maxRecDepth 100000 in
set_option maxHeartbeats 16000000 in
theorem Free_ok (a : Option Addr) (n c : Nat) (zs : List Int) (k u : Nat) (w : World) (g : IntsAt w a n c zs) (hok : okT zs (k : Int)) (hk1 : 1 ≤ k) (hk : k ≤ 20) (hu : u ≤ k) (hu2 : 2 ≤ u) (h0 : cloudR zs k u ≠ 0) :
    Calls Try.prog 25 #[.slice a n c, .int .i64 (k : Int), .int .i64 (u : Int)] w (RetOk w (freeR zs k u)) := by
  have hpr := fun w => cpair_any 2 u w (by omega) (by omega) (by omega)
  have hin := fun w g => in_any2 a n c zs k u w g hok hk hu hu2
  have lp0 : rlen (mkRat 2 u) ≤ 1 := rlen_mkRat (by omega) (by decide) (digs_length_le.2 (by simp; omega))
  have li0 := in_len hok hk hu hu2
  have lc0 : rlen (cloudR zs k u) ≤ 20000 := cloud_len hok hk hu _ (Nat.le_refl _)
  have HOK := Lib.hid hok
  have t0 : ((u : Int) == 0) = false := by rw [beq_eq_false_iff_ne]; omega
  obtain ⟨C, hC⟩ : ∃ C, cloudR zs k u = C := ⟨_, rfl⟩
  have HC := Lib.hid (fun w g => Cloud_ok a n c zs k u w g hok hk1 hk hu)
  have HCC := Lib.hid hC
  have ll : (digs C.num.natAbs).length ≤ 20000 := by rw [← hC]; unfold rlen at lc0; omega
  rw [hC] at h0 lc0
  have hns : C.num.sign ≠ 0 := fun h => h0 (Rat.num_eq_zero.1 (Int.sign_eq_zero_iff_zero.1 h))
  have t1 : (C.num.sign == 0) = false := by rw [beq_eq_false_iff_ne]; exact hns
  obtain ⟨S, hS⟩ : ∃ S, C.num.sign = S := ⟨_, rfl⟩
  rw [hS] at t1
  have HS := Lib.hid hS
  obtain ⟨P, hP⟩ : ∃ P, mkRat 2 u = P := ⟨_, rfl⟩
  obtain ⟨I, hI⟩ : ∃ I, inR24 zs k u 2 = I := ⟨_, rfl⟩
  have hF : freeR zs k u = P * I / C := by unfold freeR; rw [hP, hI, hC]
  rw [hF]
  obtain ⟨X, hX⟩ : ∃ X, P * I = X := ⟨_, rfl⟩
  obtain ⟨R, hR⟩ : ∃ R, X / C = R := ⟨_, rfl⟩
  rw [hX, hR]
  simp only [hP] at hpr
  simp only [hI] at hin
  rw [hP] at lp0
  rw [hI] at li0
  have lx0 : rlen (P * I) ≤ rlen P + rlen I + 1 := product_short P I
  rw [hX] at lx0
  have HPR := Lib.hid hpr
  have HIN := Lib.hid hin
  have HX := Lib.hid hX
  have HR := Lib.hid hR
  have LP := Lib.hid (show rlen P ≤ 1048576 by omega)
  have LI := Lib.hid (show rlen I ≤ 1048576 by omega)
  have LX := Lib.hid (show rlen X ≤ 1048576 by omega)
  have LC := Lib.hid (show rlen C ≤ 1048576 by omega)
  have H0 := Lib.hid h0
  clear hok hC h0 hpr hin lp0 li0 lc0 hns hS hP hI hF hX hR lx0
  go_enter Try.func25, Try.ntmps25
  have hB := Below.refl w.heap.size w
  go_wp2_with fail
  obtain ⟨w1, hW, hz0, hb, q, f⟩ := box1g w (w.heap.size) (by omega) #[.bool false, .slice none 0 0, .slice none 0 0] 36
  rw [hW]
  clear hW
  have g := g.past hb
  have hB := below_later hB hb
  clear hb
  have lr : w.heap.size < w1.heap.size := by omega
  have qr0 := q 0; have qr1 := q 1; have qr2 := q 2
  simp only [List.getElem?_toArray, List.getElem?_cons_zero, List.getElem?_cons_succ] at qr0 qr1 qr2
  have xr : BoxAt w1 (w.heap.size) 3 := BoxAt.of q f rfl (by simp [notU_bool, notU_slice, notU_i64])
  clear q f
  clear hz0
  with_reducible refine (HC.out _ g).mono ?_
  rintro e w2 ⟨ahCU, nhCU, chCU, ahCD, nhCD, chCD, rfl, hCU, hCD, hb⟩
  have hCU := hCU.mono hB.size
  have hCD := hCD.mono hB.size
  have g := g.past hb
  have qr0 := bq hb lr qr0; have qr1 := bq hb lr qr1; have qr2 := bq hb lr qr2
  have xr := xr.past hb lr
  have lr := bl hb lr
  have hB := below_later hB hb
  clear hb
  rw [HCC.out] at hCU hCD ⊢
  go_wp2_with fail
  obtain ⟨w3, hW, hz0, hb, q, f⟩ := box1g w2 (w2.heap.size) (by omega) #[.bool (neg (C).num), .slice ahCU nhCU chCU, .slice ahCD nhCD chCD] 36
  rw [hW]
  clear hW
  have g := g.past hb
  have hCU := hCU.past hb
  have hCD := hCD.past hb
  have qr0 := bq hb lr qr0; have qr1 := bq hb lr qr1; have qr2 := bq hb lr qr2
  have xr := xr.past hb lr
  have lr := bl hb lr
  have hB := below_later hB hb
  clear hb
  have lx : w2.heap.size < w3.heap.size := by omega
  have qx0 := q 0; have qx1 := q 1; have qx2 := q 2
  simp only [List.getElem?_toArray, List.getElem?_cons_zero, List.getElem?_cons_succ] at qx0 qx1 qx2
  clear q f
  clear hz0
  with_reducible refine (sign_c hCU.toNatAt (by have := hCU.len; omega)).mono ?_
  rintro e w4 ⟨rfl, hb⟩
  have g := g.past hb
  have hCU := hCU.past hb
  have hCD := hCD.past hb
  have qr0 := bq hb lr qr0; have qr1 := bq hb lr qr1; have qr2 := bq hb lr qr2
  have xr := xr.past hb lr
  have lr := bl hb lr
  have qx0 := bq hb lx qx0; have qx1 := bq hb lx qx1; have qx2 := bq hb lx qx2
  have lx := bl hb lx
  have hB := below_later hB hb
  clear hb
  rw [HS.out]
  go_wp2_with fail
  with_reducible refine (HPR.out _).mono ?_
  rintro e w5 ⟨ahPU, nhPU, chPU, ahPD, nhPD, chPD, rfl, hPU, hPD, hb⟩
  have hPU := hPU.mono hB.size
  have hPD := hPD.mono hB.size
  have g := g.past hb
  have hCU := hCU.past hb
  have hCD := hCD.past hb
  have qr0 := bq hb lr qr0; have qr1 := bq hb lr qr1; have qr2 := bq hb lr qr2
  have xr := xr.past hb lr
  have lr := bl hb lr
  have qx0 := bq hb lx qx0; have qx1 := bq hb lx qx1; have qx2 := bq hb lx qx2
  have lx := bl hb lx
  have hB := below_later hB hb
  clear hb
  go_wp2_with fail
  with_reducible refine (HIN.out _ g).mono ?_
  rintro e w6 ⟨ahIU, nhIU, chIU, ahID, nhID, chID, rfl, hIU, hID, hb⟩
  have hIU := hIU.mono hB.size
  have hID := hID.mono hB.size
  have g := g.past hb
  have hCU := hCU.past hb
  have hCD := hCD.past hb
  have hPU := hPU.past hb
  have hPD := hPD.past hb
  have qr0 := bq hb lr qr0; have qr1 := bq hb lr qr1; have qr2 := bq hb lr qr2
  have xr := xr.past hb lr
  have lr := bl hb lr
  have qx0 := bq hb lx qx0; have qx1 := bq hb lx qx1; have qx2 := bq hb lx qx2
  have lx := bl hb lx
  have hB := below_later hB hb
  clear hb
  go_wp2_with fail
  obtain ⟨w7, hW, hz0, hb, q, f⟩ := box1g w6 (w6.heap.size) (by omega) #[.bool (neg (P).num), .slice ahPU nhPU chPU, .slice ahPD nhPD chPD, .bool (neg (I).num), .slice ahIU nhIU chIU, .slice ahID nhID chID] 36
  rw [hW]
  clear hW
  have hCU := hCU.past hb
  have hCD := hCD.past hb
  have hPU := hPU.past hb
  have hPD := hPD.past hb
  have hIU := hIU.past hb
  have hID := hID.past hb
  have qr0 := bq hb lr qr0; have qr1 := bq hb lr qr1; have qr2 := bq hb lr qr2
  have xr := xr.past hb lr
  have lr := bl hb lr
  have qx0 := bq hb lx qx0; have qx1 := bq hb lx qx1; have qx2 := bq hb lx qx2
  have lx := bl hb lx
  have hB := below_later hB hb
  clear hb
  have lv : w6.heap.size < w7.heap.size := by omega
  have qv0 := q 0; have qv1 := q 1; have qv2 := q 2; have qv3 := q 3; have qv4 := q 4; have qv5 := q 5
  simp only [List.getElem?_toArray, List.getElem?_cons_zero, List.getElem?_cons_succ] at qv0 qv1 qv2 qv3 qv4 qv5
  clear q f
  clear hz0
  with_reducible refine (mul_two (RatsAt.two lv qv0 qv1 qv2 qv3 qv4 qv5 hPU.toNatAt hPD.toNatAt hIU.toNatAt hID.toNatAt) LP.out LI.out).mono ?_
  rintro e w8 ⟨ahXU, nhXU, chXU, ahXD, nhXD, chXD, rfl, hXU, hXD, hb⟩
  have hXU := hXU.mono hB.size
  have hXD := hXD.mono hB.size
  have hCU := hCU.past hb
  have hCD := hCD.past hb
  have hPU := hPU.past hb
  have hPD := hPD.past hb
  have hIU := hIU.past hb
  have hID := hID.past hb
  have qr0 := bq hb lr qr0; have qr1 := bq hb lr qr1; have qr2 := bq hb lr qr2
  have xr := xr.past hb lr
  have lr := bl hb lr
  have qx0 := bq hb lx qx0; have qx1 := bq hb lx qx1; have qx2 := bq hb lx qx2
  have lx := bl hb lx
  have qv0 := bq hb lv qv0; have qv1 := bq hb lv qv1; have qv2 := bq hb lv qv2; have qv3 := bq hb lv qv3; have qv4 := bq hb lv qv4; have qv5 := bq hb lv qv5
  have lv := bl hb lv
  have hB := below_later hB hb
  clear hb
  rw [HX.out] at hXU hXD ⊢
  go_wp2_with fail
  obtain ⟨w9, hW, hz0, hb, q, f⟩ := box1g w8 (w8.heap.size) (by omega) #[.bool (neg (X).num), .slice ahXU nhXU chXU, .slice ahXD nhXD chXD] 36
  rw [hW]
  clear hW
  have hCU := hCU.past hb
  have hCD := hCD.past hb
  have hXU := hXU.past hb
  have hXD := hXD.past hb
  have qr0 := bq hb lr qr0; have qr1 := bq hb lr qr1; have qr2 := bq hb lr qr2
  have xr := xr.past hb lr
  have lr := bl hb lr
  have qx0 := bq hb lx qx0; have qx1 := bq hb lx qx1; have qx2 := bq hb lx qx2
  have lx := bl hb lx
  have hB := below_later hB hb
  clear hb
  have ly : w8.heap.size < w9.heap.size := by omega
  have qy0 := q 0; have qy1 := q 1; have qy2 := q 2
  simp only [List.getElem?_toArray, List.getElem?_cons_zero, List.getElem?_cons_succ] at qy0 qy1 qy2
  clear q f
  clear hz0
  with_reducible refine (div24 hXU.toNatAt hXD.toNatAt hCU.toNatAt hCD.toNatAt LX.out LC.out H0.out).mono ?_
  rintro e w10 ⟨ahAU, nhAU, chAU, ahAD, nhAD, chAD, rfl, hAU, hAD, hb⟩
  have hAU := hAU.mono hB.size
  have hAD := hAD.mono hB.size
  have hCU := hCU.past hb
  have hCD := hCD.past hb
  have hXU := hXU.past hb
  have hXD := hXD.past hb
  have qr0 := bq hb lr qr0; have qr1 := bq hb lr qr1; have qr2 := bq hb lr qr2
  have xr := xr.past hb lr
  have lr := bl hb lr
  have qx0 := bq hb lx qx0; have qx1 := bq hb lx qx1; have qx2 := bq hb lx qx2
  have lx := bl hb lx
  have qy0 := bq hb ly qy0; have qy1 := bq hb ly qy1; have qy2 := bq hb ly qy2
  have ly := bl hb ly
  have hB := below_later hB hb
  clear hb
  rw [HR.out] at hAU hAD ⊢
  have zf0 := xr.f 0 (by decide)
  have zf1 := xr.f 1 (by decide)
  have zf2 := xr.f 2 (by decide)
  go_wp2
  obtain ⟨w11, hW, hO, qN0, qN1, qN2, xN⟩ := store3 xr (.bool (neg (R).num)) (.slice ahAU nhAU chAU) (.slice ahAD nhAD chAD) (nu rfl) (nu rfl) (nu rfl)
  try rw [hW]
  clear hW
  have hCU := hO.own hCU
  have hCD := hO.own hCD
  have hXU := hO.own hXU
  have hXD := hO.own hXD
  have hAU := hO.own hAU
  have hAD := hO.own hAD
  have lr : w.heap.size < w11.heap.size := by rw [hO.size]; exact lr
  have qx0 := (hO.cell (b2 := w2.heap.size) (k := 0) (by omega)).trans qx0
  have qx1 := (hO.cell (b2 := w2.heap.size) (k := 1) (by omega)).trans qx1
  have qx2 := (hO.cell (b2 := w2.heap.size) (k := 2) (by omega)).trans qx2
  have lx : w2.heap.size < w11.heap.size := by rw [hO.size]; exact lx
  have qy0 := (hO.cell (b2 := w8.heap.size) (k := 0) (by omega)).trans qy0
  have qy1 := (hO.cell (b2 := w8.heap.size) (k := 1) (by omega)).trans qy1
  have qy2 := (hO.cell (b2 := w8.heap.size) (k := 2) (by omega)).trans qy2
  have ly : w8.heap.size < w11.heap.size := by rw [hO.size]; exact ly
  have qr0 := qN0
  have qr1 := qN1
  have qr2 := qN2
  have xr := xN
  have hB := hO.below (by omega) hB
  clear hO qN0 qN1 qN2 xN zf0 zf1 zf2
  refine bodyPost_ret (v := .tuple #[.agg #[.bool (neg R.num), .slice ahAU nhAU chAU, .slice ahAD nhAD chAD], .int .i64 0]) ?_ rfl ⟨_, _, _, _, _, _, rfl, hAU, hAD, hB⟩
  simp [results, Try.f25, go_sem, qr0, qr1, qr2]

end Go.Proofs.Ytlkoenpdmlbhlaa
