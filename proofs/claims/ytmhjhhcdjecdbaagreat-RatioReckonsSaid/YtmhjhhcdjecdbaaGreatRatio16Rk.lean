import Derived.Test.YtmhjhhcdjecdbaaGreatS0Rk
import Derived.Test.YtmhjhhcdjecdbaaGreatRatio15Rk
import Derived.Test.YtmhjhhcdjecdbaaGreatRatio12Rk
import Derived.Test.YtmhjhhcdjecdbaaGreatRatio11Rk
set_option linter.unusedVariables false
set_option linter.unusedSimpArgs false
namespace Go.Proofs.YtmhjhhcdjecdbaaGreat
open Go.RowKit
theorem rcmp_c {a : Option Addr} {n c : Nat} {l : List Nat} {a2 : Option Addr} {n2 c2 : Nat} {l2 : List Nat} {w : World} (h : NatAt w a n c l) (h2 : NatAt w a2 n2 c2 l2) :
 Calls Tryz.prog 50 #[.slice a n c, .slice a2 n2 c2] w (RetVal w (.int .i64 (cmpI (val l) (val l2)))) :=
 (rcmp_any _ _ _ l _ _ _ l2 w h h2).mono fun e w' ⟨h1, h2⟩ => ⟨h1, h2 ▸ Below.refl _ _⟩
set_option maxRecDepth 100000 in
set_option maxHeartbeats 8000000 in
theorem rpow05_bad (b1 : Bool) (l1 l2 : List Nat) (a1 : Option Addr) (n1 c1 : Nat) (a2 : Option Addr) (n2 c2 : Nat) (n : Int) (w : World) (g1 : NatAt w a1 n1 c1 l1) (g2 : NatAt w a2 n2 c2 l2) (hs1 : n1 ≤ 40000) (hs2 : n2 ≤ 40000) (h : ¬ chk3 (b1, l1, l2) = 0) :
 Calls Tryz.prog 21 #[.agg #[.bool (b1), .slice a1 n1 c1, .slice a2 n2 c2], .int .i64 n] w (RetAns w (.error 6)) := by
 have gk : ∀ i, i < 1 → ((rawF [(b1, l1, l2)]) i).2.1.length ≤ 200000 ∧ ((rawF [(b1, l1, l2)]) i).2.2.length ≤ 200000 := fun i hi => by
  have f1 := g1.len; have f2 := g2.len
  match i, hi with
  | 0, _ => exact ⟨(show (l1).length ≤ 200000 by omega), (show (l2).length ≤ 200000 by omega)⟩
 have GK := Lib.hid gk
 have hb : allR (rawF [(b1, l1, l2)]) 1 = false := by rw [allR1]; exact decide_eq_false h
 have GB := Lib.hid hb
 clear gk hb
 go_enter Tryz.func21, Tryz.ntmps21
 have hB := Below.refl w.heap.size w
 go_wp2_with fail
 obtain ⟨w1, hW, hz0, hb, q, f⟩ := box1g w (w.heap.size) (by omega) #[.bool (b1), .slice a1 n1 c1, .slice a2 n2 c2] 30
 rw [hW]
 clear hW
 have g1 := g1.past hb
 have g2 := g2.past hb
 have hB := below_later hB hb
 clear hb
 have lx : w.heap.size < w1.heap.size := by omega
 have qx0 := q 0; have qx1 := q 1; have qx2 := q 2
 simp only [lgA, lgZ, lgS] at qx0 qx1 qx2
 have xx : BoxAt w1 (w.heap.size) 3 := BoxAt.of q f rfl (by simp [notU_bool, notU_slice, notU_i64])
 clear q f
 obtain ⟨w2, hW, hz1, hb, q, f⟩ := box1g w1 (w.heap.size + 1) (by omega) #[.bool false, .slice none 0 0, .slice none 0 0] 30
 rw [hW]
 clear hW
 have g1 := g1.past hb
 have g2 := g2.past hb
 have xx := xx.past hb lx
 obtain ⟨qx0, qx1, qx2, lx⟩ := bq3 hb lx qx0 qx1 qx2
 have hB := below_later hB hb
 clear hb
 have lr : w.heap.size + 1 < w2.heap.size := by omega
 have qr0 := q 0; have qr1 := q 1; have qr2 := q 2
 simp only [lgA, lgZ, lgS] at qr0 qr1 qr2
 have xr : BoxAt w2 (w.heap.size + 1) 3 := BoxAt.of q f rfl (by simp [notU_bool, notU_slice, notU_i64])
 clear q f
 obtain ⟨w3, hW, hz2, hb, q, f⟩ := box1g w2 (w.heap.size + 1 + 1) (by omega) #[.bool (b1), .slice a1 n1 c1, .slice a2 n2 c2] 30
 rw [hW]
 clear hW
 have g1 := g1.past hb
 have g2 := g2.past hb
 have xx := xx.past hb lx
 obtain ⟨qx0, qx1, qx2, lx⟩ := bq3 hb lx qx0 qx1 qx2
 have xr := xr.past hb lr
 obtain ⟨qr0, qr1, qr2, lr⟩ := bq3 hb lr qr0 qr1 qr2
 have hB := below_later hB hb
 clear hb
 have ls : w.heap.size + 1 + 1 < w3.heap.size := by omega
 have qs0 := q 0; have qs1 := q 1; have qs2 := q 2
 simp only [lgA, lgZ, lgS] at qs0 qs1 qs2
 clear q f
 clear hz0
 clear hz1
 clear hz2
 with_reducible refine (rfine05_any _ _ _ _ _ (RatsAt.raw1 (x := (b1, l1, l2)) ls qs0 qs1 qs2 g1 g2) GK.out).mono ?_
 rintro e w4 ⟨rfl, hb⟩
 have g1 := g1.past hb
 have g2 := g2.past hb
 have xx := xx.past hb lx
 obtain ⟨qx0, qx1, qx2, lx⟩ := bq3 hb lx qx0 qx1 qx2
 have xr := xr.past hb lr
 obtain ⟨qr0, qr1, qr2, lr⟩ := bq3 hb lr qr0 qr1 qr2
 obtain ⟨qs0, qs1, qs2, ls⟩ := bq3 hb ls qs0 qs1 qs2
 have hB := below_later hB hb
 clear hb
 rw [GB.out]
 have zf0 := xr.f 0 (by decide)
 have zf1 := xr.f 1 (by decide)
 have zf2 := xr.f 2 (by decide)
 go_wp2
 obtain ⟨w5, hW, hO, qN0, qN1, qN2, xN⟩ := store3 xr (.bool false) (.slice none 0 0) (.slice none 0 0) (Go.Proofs.YtmhjhhcdjecdbaaGreat.nu rfl) (Go.Proofs.YtmhjhhcdjecdbaaGreat.nu rfl) (Go.Proofs.YtmhjhhcdjecdbaaGreat.nu rfl)
 try rw [hW]
 clear hW
 have qx0 := (hO.cell (b2 := w.heap.size) (k := 0) (by omega)).trans qx0
 have qx1 := (hO.cell (b2 := w.heap.size) (k := 1) (by omega)).trans qx1
 have qx2 := (hO.cell (b2 := w.heap.size) (k := 2) (by omega)).trans qx2
 have xx := hO.box xx
 have lx : w.heap.size < w5.heap.size := by rw [hO.size]; exact lx
 have lr : w.heap.size + 1 < w5.heap.size := by rw [hO.size]; exact lr
 have qr0 := qN0
 have qr1 := qN1
 have qr2 := qN2
 have xr := xN
 have hB := hO.below (by omega) hB
 clear hO qN0 qN1 qN2 xN zf0 zf1 zf2
 refine bodyPost_ret (v := .tuple #[.agg #[.bool false, .slice none 0 0, .slice none 0 0], .int .i64 6]) ?_ rfl ⟨_, _, _, _, _, _, rfl, OwnAt.nil _ _, OwnAt.nil _ _, hB⟩
 simp [results, Tryz.f21, go_sem, qr0, qr1, qr2]
set_option maxRecDepth 100000 in
set_option maxHeartbeats 8000000 in
theorem rpow05_low (q : Rat) (a1 : Option Addr) (n1 c1 : Nat) (a2 : Option Addr) (n2 c2 : Nat) (n : Int) (w : World) (g1 : NatAt w a1 n1 c1 (digs q.num.natAbs)) (g2 : NatAt w a2 n2 c2 (digs q.den)) (hs1 : n1 ≤ 40000) (hs2 : n2 ≤ 40000) (hn : n < -10000) :
 Calls Tryz.prog 21 #[.agg #[.bool (neg q.num), .slice a1 n1 c1, .slice a2 n2 c2], .int .i64 n] w (RetAns w (.error 3)) := by
 have gk : ∀ i, i < 1 → ((rawF [((neg q.num), (digs q.num.natAbs), (digs q.den))]) i).2.1.length ≤ 200000 ∧ ((rawF [((neg q.num), (digs q.num.natAbs), (digs q.den))]) i).2.2.length ≤ 200000 := fun i hi => by
  have f1 := g1.len; have f2 := g2.len
  match i, hi with
  | 0, _ => exact ⟨(show (digs q.num.natAbs).length ≤ 200000 by omega), (show (digs q.den).length ≤ 200000 by omega)⟩
 have GK := Lib.hid gk
 have hb : allR (rawF [((neg q.num), (digs q.num.natAbs), (digs q.den))]) 1 = true := by rw [allR1]; exact decide_eq_true (chk3_parts q)
 have GB := Lib.hid hb
 clear gk hb
 go_enter Tryz.func21, Tryz.ntmps21
 have hB := Below.refl w.heap.size w
 go_wp2_with fail
 obtain ⟨w1, hW, hz0, hb, q, f⟩ := box1g w (w.heap.size) (by omega) #[.bool (neg q.num), .slice a1 n1 c1, .slice a2 n2 c2] 30
 rw [hW]
 clear hW
 have g1 := g1.past hb
 have g2 := g2.past hb
 have hB := below_later hB hb
 clear hb
 have lx : w.heap.size < w1.heap.size := by omega
 have qx0 := q 0; have qx1 := q 1; have qx2 := q 2
 simp only [lgA, lgZ, lgS] at qx0 qx1 qx2
 have xx : BoxAt w1 (w.heap.size) 3 := BoxAt.of q f rfl (by simp [notU_bool, notU_slice, notU_i64])
 clear q f
 obtain ⟨w2, hW, hz1, hb, q, f⟩ := box1g w1 (w.heap.size + 1) (by omega) #[.bool false, .slice none 0 0, .slice none 0 0] 30
 rw [hW]
 clear hW
 have g1 := g1.past hb
 have g2 := g2.past hb
 have xx := xx.past hb lx
 obtain ⟨qx0, qx1, qx2, lx⟩ := bq3 hb lx qx0 qx1 qx2
 have hB := below_later hB hb
 clear hb
 have lr : w.heap.size + 1 < w2.heap.size := by omega
 have qr0 := q 0; have qr1 := q 1; have qr2 := q 2
 simp only [lgA, lgZ, lgS] at qr0 qr1 qr2
 have xr : BoxAt w2 (w.heap.size + 1) 3 := BoxAt.of q f rfl (by simp [notU_bool, notU_slice, notU_i64])
 clear q f
 obtain ⟨w3, hW, hz2, hb, q, f⟩ := box1g w2 (w.heap.size + 1 + 1) (by omega) #[.bool (neg q.num), .slice a1 n1 c1, .slice a2 n2 c2] 30
 rw [hW]
 clear hW
 have g1 := g1.past hb
 have g2 := g2.past hb
 have xx := xx.past hb lx
 obtain ⟨qx0, qx1, qx2, lx⟩ := bq3 hb lx qx0 qx1 qx2
 have xr := xr.past hb lr
 obtain ⟨qr0, qr1, qr2, lr⟩ := bq3 hb lr qr0 qr1 qr2
 have hB := below_later hB hb
 clear hb
 have ls : w.heap.size + 1 + 1 < w3.heap.size := by omega
 have qs0 := q 0; have qs1 := q 1; have qs2 := q 2
 simp only [lgA, lgZ, lgS] at qs0 qs1 qs2
 clear q f
 clear hz0
 clear hz1
 clear hz2
 with_reducible refine (rfine05_any _ _ _ _ _ (RatsAt.raw1 (x := ((neg q.num), (digs q.num.natAbs), (digs q.den))) ls qs0 qs1 qs2 g1 g2) GK.out).mono ?_
 rintro e w4 ⟨rfl, hb⟩
 have g1 := g1.past hb
 have g2 := g2.past hb
 have xx := xx.past hb lx
 obtain ⟨qx0, qx1, qx2, lx⟩ := bq3 hb lx qx0 qx1 qx2
 have xr := xr.past hb lr
 obtain ⟨qr0, qr1, qr2, lr⟩ := bq3 hb lr qr0 qr1 qr2
 obtain ⟨qs0, qs1, qs2, ls⟩ := bq3 hb ls qs0 qs1 qs2
 have hB := below_later hB hb
 clear hb
 rw [GB.out]
 have zf0 := xr.f 0 (by decide)
 have zf1 := xr.f 1 (by decide)
 have zf2 := xr.f 2 (by decide)
 go_wp2
 obtain ⟨w5, hW, hO, qN0, qN1, qN2, xN⟩ := store3 xr (.bool false) (.slice none 0 0) (.slice none 0 0) (Go.Proofs.YtmhjhhcdjecdbaaGreat.nu rfl) (Go.Proofs.YtmhjhhcdjecdbaaGreat.nu rfl) (Go.Proofs.YtmhjhhcdjecdbaaGreat.nu rfl)
 try rw [hW]
 clear hW
 have qx0 := (hO.cell (b2 := w.heap.size) (k := 0) (by omega)).trans qx0
 have qx1 := (hO.cell (b2 := w.heap.size) (k := 1) (by omega)).trans qx1
 have qx2 := (hO.cell (b2 := w.heap.size) (k := 2) (by omega)).trans qx2
 have xx := hO.box xx
 have lx : w.heap.size < w5.heap.size := by rw [hO.size]; exact lx
 have lr : w.heap.size + 1 < w5.heap.size := by rw [hO.size]; exact lr
 have qr0 := qN0
 have qr1 := qN1
 have qr2 := qN2
 have xr := xN
 have hB := hO.below (by omega) hB
 clear hO qN0 qN1 qN2 xN zf0 zf1 zf2
 refine bodyPost_ret (v := .tuple #[.agg #[.bool false, .slice none 0 0, .slice none 0 0], .int .i64 3]) ?_ rfl ⟨_, _, _, _, _, _, rfl, OwnAt.nil _ _, OwnAt.nil _ _, hB⟩
 simp [results, Tryz.f21, go_sem, qr0, qr1, qr2]
set_option maxRecDepth 100000 in
set_option maxHeartbeats 8000000 in
theorem rpow05_high (q : Rat) (a1 : Option Addr) (n1 c1 : Nat) (a2 : Option Addr) (n2 c2 : Nat) (n : Int) (w : World) (g1 : NatAt w a1 n1 c1 (digs q.num.natAbs)) (g2 : NatAt w a2 n2 c2 (digs q.den)) (hs1 : n1 ≤ 40000) (hs2 : n2 ≤ 40000) (hn : 10000 < n) :
 Calls Tryz.prog 21 #[.agg #[.bool (neg q.num), .slice a1 n1 c1, .slice a2 n2 c2], .int .i64 n] w (RetAns w (.error 3)) := by
 have gk : ∀ i, i < 1 → ((rawF [((neg q.num), (digs q.num.natAbs), (digs q.den))]) i).2.1.length ≤ 200000 ∧ ((rawF [((neg q.num), (digs q.num.natAbs), (digs q.den))]) i).2.2.length ≤ 200000 := fun i hi => by
  have f1 := g1.len; have f2 := g2.len
  match i, hi with
  | 0, _ => exact ⟨(show (digs q.num.natAbs).length ≤ 200000 by omega), (show (digs q.den).length ≤ 200000 by omega)⟩
 have GK := Lib.hid gk
 have hb : allR (rawF [((neg q.num), (digs q.num.natAbs), (digs q.den))]) 1 = true := by rw [allR1]; exact decide_eq_true (chk3_parts q)
 have GB := Lib.hid hb
 clear gk hb
 go_enter Tryz.func21, Tryz.ntmps21
 have hB := Below.refl w.heap.size w
 go_wp2_with fail
 obtain ⟨w1, hW, hz0, hb, q, f⟩ := box1g w (w.heap.size) (by omega) #[.bool (neg q.num), .slice a1 n1 c1, .slice a2 n2 c2] 30
 rw [hW]
 clear hW
 have g1 := g1.past hb
 have g2 := g2.past hb
 have hB := below_later hB hb
 clear hb
 have lx : w.heap.size < w1.heap.size := by omega
 have qx0 := q 0; have qx1 := q 1; have qx2 := q 2
 simp only [lgA, lgZ, lgS] at qx0 qx1 qx2
 have xx : BoxAt w1 (w.heap.size) 3 := BoxAt.of q f rfl (by simp [notU_bool, notU_slice, notU_i64])
 clear q f
 obtain ⟨w2, hW, hz1, hb, q, f⟩ := box1g w1 (w.heap.size + 1) (by omega) #[.bool false, .slice none 0 0, .slice none 0 0] 30
 rw [hW]
 clear hW
 have g1 := g1.past hb
 have g2 := g2.past hb
 have xx := xx.past hb lx
 obtain ⟨qx0, qx1, qx2, lx⟩ := bq3 hb lx qx0 qx1 qx2
 have hB := below_later hB hb
 clear hb
 have lr : w.heap.size + 1 < w2.heap.size := by omega
 have qr0 := q 0; have qr1 := q 1; have qr2 := q 2
 simp only [lgA, lgZ, lgS] at qr0 qr1 qr2
 have xr : BoxAt w2 (w.heap.size + 1) 3 := BoxAt.of q f rfl (by simp [notU_bool, notU_slice, notU_i64])
 clear q f
 obtain ⟨w3, hW, hz2, hb, q, f⟩ := box1g w2 (w.heap.size + 1 + 1) (by omega) #[.bool (neg q.num), .slice a1 n1 c1, .slice a2 n2 c2] 30
 rw [hW]
 clear hW
 have g1 := g1.past hb
 have g2 := g2.past hb
 have xx := xx.past hb lx
 obtain ⟨qx0, qx1, qx2, lx⟩ := bq3 hb lx qx0 qx1 qx2
 have xr := xr.past hb lr
 obtain ⟨qr0, qr1, qr2, lr⟩ := bq3 hb lr qr0 qr1 qr2
 have hB := below_later hB hb
 clear hb
 have ls : w.heap.size + 1 + 1 < w3.heap.size := by omega
 have qs0 := q 0; have qs1 := q 1; have qs2 := q 2
 simp only [lgA, lgZ, lgS] at qs0 qs1 qs2
 clear q f
 clear hz0
 clear hz1
 clear hz2
 with_reducible refine (rfine05_any _ _ _ _ _ (RatsAt.raw1 (x := ((neg q.num), (digs q.num.natAbs), (digs q.den))) ls qs0 qs1 qs2 g1 g2) GK.out).mono ?_
 rintro e w4 ⟨rfl, hb⟩
 have g1 := g1.past hb
 have g2 := g2.past hb
 have xx := xx.past hb lx
 obtain ⟨qx0, qx1, qx2, lx⟩ := bq3 hb lx qx0 qx1 qx2
 have xr := xr.past hb lr
 obtain ⟨qr0, qr1, qr2, lr⟩ := bq3 hb lr qr0 qr1 qr2
 obtain ⟨qs0, qs1, qs2, ls⟩ := bq3 hb ls qs0 qs1 qs2
 have hB := below_later hB hb
 clear hb
 rw [GB.out]
 have zf0 := xr.f 0 (by decide)
 have zf1 := xr.f 1 (by decide)
 have zf2 := xr.f 2 (by decide)
 go_wp2
 obtain ⟨w5, hW, hO, qN0, qN1, qN2, xN⟩ := store3 xr (.bool false) (.slice none 0 0) (.slice none 0 0) (Go.Proofs.YtmhjhhcdjecdbaaGreat.nu rfl) (Go.Proofs.YtmhjhhcdjecdbaaGreat.nu rfl) (Go.Proofs.YtmhjhhcdjecdbaaGreat.nu rfl)
 try rw [hW]
 clear hW
 have qx0 := (hO.cell (b2 := w.heap.size) (k := 0) (by omega)).trans qx0
 have qx1 := (hO.cell (b2 := w.heap.size) (k := 1) (by omega)).trans qx1
 have qx2 := (hO.cell (b2 := w.heap.size) (k := 2) (by omega)).trans qx2
 have xx := hO.box xx
 have lx : w.heap.size < w5.heap.size := by rw [hO.size]; exact lx
 have lr : w.heap.size + 1 < w5.heap.size := by rw [hO.size]; exact lr
 have qr0 := qN0
 have qr1 := qN1
 have qr2 := qN2
 have xr := xN
 have hB := hO.below (by omega) hB
 clear hO qN0 qN1 qN2 xN zf0 zf1 zf2
 refine bodyPost_ret (v := .tuple #[.agg #[.bool false, .slice none 0 0, .slice none 0 0], .int .i64 3]) ?_ rfl ⟨_, _, _, _, _, _, rfl, OwnAt.nil _ _, OwnAt.nil _ _, hB⟩
 simp [results, Tryz.f21, go_sem, qr0, qr1, qr2]
set_option maxRecDepth 100000 in
set_option maxHeartbeats 8000000 in
theorem rpow05_zero (q : Rat) (a1 : Option Addr) (n1 c1 : Nat) (a2 : Option Addr) (n2 c2 : Nat) (n : Int) (w : World) (g1 : NatAt w a1 n1 c1 (digs q.num.natAbs)) (g2 : NatAt w a2 n2 c2 (digs q.den)) (hs1 : n1 ≤ 40000) (hs2 : n2 ≤ 40000) (hn : n < 0) (hn2 : -10000 ≤ n) (hq : q = 0) :
 Calls Tryz.prog 21 #[.agg #[.bool (neg q.num), .slice a1 n1 c1, .slice a2 n2 c2], .int .i64 n] w (RetAns w (.error 5)) := by
 have gk : ∀ i, i < 1 → ((rawF [((neg q.num), (digs q.num.natAbs), (digs q.den))]) i).2.1.length ≤ 200000 ∧ ((rawF [((neg q.num), (digs q.num.natAbs), (digs q.den))]) i).2.2.length ≤ 200000 := fun i hi => by
  have f1 := g1.len; have f2 := g2.len
  match i, hi with
  | 0, _ => exact ⟨(show (digs q.num.natAbs).length ≤ 200000 by omega), (show (digs q.den).length ≤ 200000 by omega)⟩
 have GK := Lib.hid gk
 have hb : allR (rawF [((neg q.num), (digs q.num.natAbs), (digs q.den))]) 1 = true := by rw [allR1]; exact decide_eq_true (chk3_parts q)
 have GB := Lib.hid hb
 clear gk hb
 obtain rfl : n1 = 0 := by rw [← g1.len]; exact num_len0.2 hq
 clear hq
 go_enter Tryz.func21, Tryz.ntmps21
 have hB := Below.refl w.heap.size w
 go_wp2_with fail
 obtain ⟨w1, hW, hz0, hb, q, f⟩ := box1g w (w.heap.size) (by omega) #[.bool (neg q.num), .slice a1 0 c1, .slice a2 n2 c2] 30
 rw [hW]
 clear hW
 have g1 := g1.past hb
 have g2 := g2.past hb
 have hB := below_later hB hb
 clear hb
 have lx : w.heap.size < w1.heap.size := by omega
 have qx0 := q 0; have qx1 := q 1; have qx2 := q 2
 simp only [lgA, lgZ, lgS] at qx0 qx1 qx2
 have xx : BoxAt w1 (w.heap.size) 3 := BoxAt.of q f rfl (by simp [notU_bool, notU_slice, notU_i64])
 clear q f
 obtain ⟨w2, hW, hz1, hb, q, f⟩ := box1g w1 (w.heap.size + 1) (by omega) #[.bool false, .slice none 0 0, .slice none 0 0] 30
 rw [hW]
 clear hW
 have g1 := g1.past hb
 have g2 := g2.past hb
 have xx := xx.past hb lx
 obtain ⟨qx0, qx1, qx2, lx⟩ := bq3 hb lx qx0 qx1 qx2
 have hB := below_later hB hb
 clear hb
 have lr : w.heap.size + 1 < w2.heap.size := by omega
 have qr0 := q 0; have qr1 := q 1; have qr2 := q 2
 simp only [lgA, lgZ, lgS] at qr0 qr1 qr2
 have xr : BoxAt w2 (w.heap.size + 1) 3 := BoxAt.of q f rfl (by simp [notU_bool, notU_slice, notU_i64])
 clear q f
 obtain ⟨w3, hW, hz2, hb, q, f⟩ := box1g w2 (w.heap.size + 1 + 1) (by omega) #[.bool (neg q.num), .slice a1 0 c1, .slice a2 n2 c2] 30
 rw [hW]
 clear hW
 have g1 := g1.past hb
 have g2 := g2.past hb
 have xx := xx.past hb lx
 obtain ⟨qx0, qx1, qx2, lx⟩ := bq3 hb lx qx0 qx1 qx2
 have xr := xr.past hb lr
 obtain ⟨qr0, qr1, qr2, lr⟩ := bq3 hb lr qr0 qr1 qr2
 have hB := below_later hB hb
 clear hb
 have ls : w.heap.size + 1 + 1 < w3.heap.size := by omega
 have qs0 := q 0; have qs1 := q 1; have qs2 := q 2
 simp only [lgA, lgZ, lgS] at qs0 qs1 qs2
 clear q f
 clear hz0
 clear hz1
 clear hz2
 with_reducible refine (rfine05_any _ _ _ _ _ (RatsAt.raw1 (x := ((neg q.num), (digs q.num.natAbs), (digs q.den))) ls qs0 qs1 qs2 g1 g2) GK.out).mono ?_
 rintro e w4 ⟨rfl, hb⟩
 have g1 := g1.past hb
 have g2 := g2.past hb
 have xx := xx.past hb lx
 obtain ⟨qx0, qx1, qx2, lx⟩ := bq3 hb lx qx0 qx1 qx2
 have xr := xr.past hb lr
 obtain ⟨qr0, qr1, qr2, lr⟩ := bq3 hb lr qr0 qr1 qr2
 obtain ⟨qs0, qs1, qs2, ls⟩ := bq3 hb ls qs0 qs1 qs2
 have hB := below_later hB hb
 clear hb
 rw [GB.out]
 have zf0 := xr.f 0 (by decide)
 have zf1 := xr.f 1 (by decide)
 have zf2 := xr.f 2 (by decide)
 go_wp2
 obtain ⟨w5, hW, hO, qN0, qN1, qN2, xN⟩ := store3 xr (.bool false) (.slice none 0 0) (.slice none 0 0) (Go.Proofs.YtmhjhhcdjecdbaaGreat.nu rfl) (Go.Proofs.YtmhjhhcdjecdbaaGreat.nu rfl) (Go.Proofs.YtmhjhhcdjecdbaaGreat.nu rfl)
 try rw [hW]
 clear hW
 have qx0 := (hO.cell (b2 := w.heap.size) (k := 0) (by omega)).trans qx0
 have qx1 := (hO.cell (b2 := w.heap.size) (k := 1) (by omega)).trans qx1
 have qx2 := (hO.cell (b2 := w.heap.size) (k := 2) (by omega)).trans qx2
 have xx := hO.box xx
 have lx : w.heap.size < w5.heap.size := by rw [hO.size]; exact lx
 have lr : w.heap.size + 1 < w5.heap.size := by rw [hO.size]; exact lr
 have qr0 := qN0
 have qr1 := qN1
 have qr2 := qN2
 have xr := xN
 have hB := hO.below (by omega) hB
 clear hO qN0 qN1 qN2 xN zf0 zf1 zf2
 refine bodyPost_ret (v := .tuple #[.agg #[.bool false, .slice none 0 0, .slice none 0 0], .int .i64 5]) ?_ rfl ⟨_, _, _, _, _, _, rfl, OwnAt.nil _ _, OwnAt.nil _ _, hB⟩
 simp [results, Tryz.f21, go_sem, qr0, qr1, qr2]
set_option maxRecDepth 100000 in
set_option maxHeartbeats 8000000 in
theorem rpow05_pos (q : Rat) (N : Nat) (a1 : Option Addr) (n1 c1 : Nat) (a2 : Option Addr) (n2 c2 : Nat) (w : World) (g1 : NatAt w a1 n1 c1 (digs q.num.natAbs)) (g2 : NatAt w a2 n2 c2 (digs q.den)) (hs1 : n1 ≤ 40000) (hs2 : n2 ≤ 40000) (hN : N ≤ 10000) (hl : ∀ k, k ≤ N → rlen (q ^ k) ≤ 40000) :
 Calls Tryz.prog 21 #[.agg #[.bool (neg q.num), .slice a1 n1 c1, .slice a2 n2 c2], .int .i64 (N : Int)] w (RetOk w (q ^ N)) := by
 have gk : ∀ i, i < 1 → ((rawF [((neg q.num), (digs q.num.natAbs), (digs q.den))]) i).2.1.length ≤ 200000 ∧ ((rawF [((neg q.num), (digs q.num.natAbs), (digs q.den))]) i).2.2.length ≤ 200000 := fun i hi => by
  have f1 := g1.len; have f2 := g2.len
  match i, hi with
  | 0, _ => exact ⟨(show (digs q.num.natAbs).length ≤ 200000 by omega), (show (digs q.den).length ≤ 200000 by omega)⟩
 have GK := Lib.hid gk
 have hb : allR (rawF [((neg q.num), (digs q.num.natAbs), (digs q.den))]) 1 = true := by rw [allR1]; exact decide_eq_true (chk3_parts q)
 have GB := Lib.hid hb
 clear gk hb
 have LQ := Lib.hid (show rlen q ≤ 40000 by unfold rlen; have := g1.len; have := g2.len; omega)
 have HL := Lib.hid hl
 clear hl
 go_enter Tryz.func21, Tryz.ntmps21
 have hB := Below.refl w.heap.size w
 go_wp2_with fail
 obtain ⟨w1, hW, hz0, hb, q, f⟩ := box1g w (w.heap.size) (by omega) #[.bool (neg q.num), .slice a1 n1 c1, .slice a2 n2 c2] 30
 rw [hW]
 clear hW
 have g1 := g1.past hb
 have g2 := g2.past hb
 have hB := below_later hB hb
 clear hb
 have lx : w.heap.size < w1.heap.size := by omega
 have qx0 := q 0; have qx1 := q 1; have qx2 := q 2
 simp only [lgA, lgZ, lgS] at qx0 qx1 qx2
 have xx : BoxAt w1 (w.heap.size) 3 := BoxAt.of q f rfl (by simp [notU_bool, notU_slice, notU_i64])
 clear q f
 obtain ⟨w2, hW, hz1, hb, q, f⟩ := box1g w1 (w.heap.size + 1) (by omega) #[.bool false, .slice none 0 0, .slice none 0 0] 30
 rw [hW]
 clear hW
 have g1 := g1.past hb
 have g2 := g2.past hb
 have xx := xx.past hb lx
 obtain ⟨qx0, qx1, qx2, lx⟩ := bq3 hb lx qx0 qx1 qx2
 have hB := below_later hB hb
 clear hb
 have lr : w.heap.size + 1 < w2.heap.size := by omega
 have qr0 := q 0; have qr1 := q 1; have qr2 := q 2
 simp only [lgA, lgZ, lgS] at qr0 qr1 qr2
 have xr : BoxAt w2 (w.heap.size + 1) 3 := BoxAt.of q f rfl (by simp [notU_bool, notU_slice, notU_i64])
 clear q f
 obtain ⟨w3, hW, hz2, hb, q, f⟩ := box1g w2 (w.heap.size + 1 + 1) (by omega) #[.bool (neg q.num), .slice a1 n1 c1, .slice a2 n2 c2] 30
 rw [hW]
 clear hW
 have g1 := g1.past hb
 have g2 := g2.past hb
 have xx := xx.past hb lx
 obtain ⟨qx0, qx1, qx2, lx⟩ := bq3 hb lx qx0 qx1 qx2
 have xr := xr.past hb lr
 obtain ⟨qr0, qr1, qr2, lr⟩ := bq3 hb lr qr0 qr1 qr2
 have hB := below_later hB hb
 clear hb
 have ls : w.heap.size + 1 + 1 < w3.heap.size := by omega
 have qs0 := q 0; have qs1 := q 1; have qs2 := q 2
 simp only [lgA, lgZ, lgS] at qs0 qs1 qs2
 clear q f
 clear hz0
 clear hz1
 clear hz2
 with_reducible refine (rfine05_any _ _ _ _ _ (RatsAt.raw1 (x := ((neg q.num), (digs q.num.natAbs), (digs q.den))) ls qs0 qs1 qs2 g1 g2) GK.out).mono ?_
 rintro e w4 ⟨rfl, hb⟩
 have g1 := g1.past hb
 have g2 := g2.past hb
 have xx := xx.past hb lx
 obtain ⟨qx0, qx1, qx2, lx⟩ := bq3 hb lx qx0 qx1 qx2
 have xr := xr.past hb lr
 obtain ⟨qr0, qr1, qr2, lr⟩ := bq3 hb lr qr0 qr1 qr2
 obtain ⟨qs0, qs1, qs2, ls⟩ := bq3 hb ls qs0 qs1 qs2
 have hB := below_later hB hb
 clear hb
 rw [GB.out]
 go_wp2_with fail
 with_reducible refine (rone05_any _).mono ?_
 rintro e w5 ⟨ahP, nhP, chP, rfl, hP, hb⟩
 have hP := hP.mono hB.size
 have g1 := g1.past hb
 have g2 := g2.past hb
 have xx := xx.past hb lx
 obtain ⟨qx0, qx1, qx2, lx⟩ := bq3 hb lx qx0 qx1 qx2
 have xr := xr.past hb lr
 obtain ⟨qr0, qr1, qr2, lr⟩ := bq3 hb lr qr0 qr1 qr2
 have hB := below_later hB hb
 clear hb
 have bP : nhP ≤ 1 := by rw [← hP.len]; exact Nat.le_refl _
 go_wp2_with fail
 with_reducible refine (rwhole_one hP.toNatAt (by omega)).mono ?_
 rintro e w6 ⟨ahU, nhU, chU, rfl, hU, hb⟩
 have hU := hU.mono hB.size
 have g1 := g1.past hb
 have g2 := g2.past hb
 have hP := hP.past hb
 have xx := xx.past hb lx
 obtain ⟨qx0, qx1, qx2, lx⟩ := bq3 hb lx qx0 qx1 qx2
 have xr := xr.past hb lr
 obtain ⟨qr0, qr1, qr2, lr⟩ := bq3 hb lr qr0 qr1 qr2
 have hB := below_later hB hb
 clear hb
 go_wp2_with fail
 with_reducible refine (rone05_any _).mono ?_
 rintro e w7 ⟨ahO, nhO, chO, rfl, hO, hb⟩
 have hO := hO.mono hB.size
 have g1 := g1.past hb
 have g2 := g2.past hb
 have hU := hU.past hb
 have xx := xx.past hb lx
 obtain ⟨qx0, qx1, qx2, lx⟩ := bq3 hb lx qx0 qx1 qx2
 have xr := xr.past hb lr
 obtain ⟨qr0, qr1, qr2, lr⟩ := bq3 hb lr qr0 qr1 qr2
 have hB := below_later hB hb
 clear hb
 have hgo := lr
 go_wp2_with fail
 obtain ⟨w8, hW, hz0, hb, q, f⟩ := box1g w7 (w7.heap.size) (by omega) #[.bool (neg 1), .slice ahU nhU chU, .slice ahO nhO chO] 30
 rw [hW]
 clear hW
 have g1 := g1.past hb
 have g2 := g2.past hb
 have hU := hU.past hb
 have hO := hO.past hb
 have xx := xx.past hb lx
 obtain ⟨qx0, qx1, qx2, lx⟩ := bq3 hb lx qx0 qx1 qx2
 have xr := xr.past hb lr
 obtain ⟨qr0, qr1, qr2, lr⟩ := bq3 hb lr qr0 qr1 qr2
 have hB := below_later hB hb
 clear hb
 have lo : w7.heap.size < w8.heap.size := by omega
 have qo0 := q 0; have qo1 := q 1; have qo2 := q 2
 simp only [lgA, lgZ, lgS] at qo0 qo1 qo2
 have xo : BoxAt w8 (w7.heap.size) 3 := BoxAt.of q f rfl (by simp [notU_bool, notU_slice, notU_i64])
 clear q f
 clear hz0
 generalize w7.heap.size = BO at *
 have lx : w.heap.size < w8.heap.size := by omega
 have lr : w.heap.size + 1 < w8.heap.size := by omega
 have hU0 : OwnAt w8 w.heap.size ahU nhU chU (digs (q ^ 0).num.natAbs) := by rw [Rat.pow_zero]; exact hU
 have hD0 : OwnAt w8 w.heap.size ahO nhO chO (digs (q ^ 0).den) := by rw [Rat.pow_zero]; exact hO
 have qo0 : w8.cell? ⟨BO, 0, none⟩ = some (.bool (neg (q ^ 0).num)) := by rw [Rat.pow_zero]; exact qo0
 go_loopw [7] (fun i wr => ∃ (j : Nat) (au : Option Addr) (nu cu : Nat) (ad : Option Addr) (nd cd : Nat), j ≤ N ∧ i = .int .i64 ((j : Nat) : Int) ∧ OwnAt wr w.heap.size au nu cu (digs (q ^ j).num.natAbs) ∧ OwnAt wr w.heap.size ad nd cd (digs (q ^ j).den) ∧ NatAt wr a1 n1 c1 (digs q.num.natAbs) ∧ NatAt wr a2 n2 c2 (digs q.den) ∧ Below w.heap.size w wr ∧ BO < wr.heap.size ∧ w.heap.size + 1 < wr.heap.size ∧ wr.cell? ⟨w.heap.size, 0, none⟩ = some (.bool (neg q.num)) ∧ wr.cell? ⟨w.heap.size, 1, none⟩ = some (.slice a1 n1 c1) ∧ wr.cell? ⟨w.heap.size, 2, none⟩ = some (.slice a2 n2 c2) ∧ wr.cell? ⟨w.heap.size + 1, 0, none⟩ = some (.bool false) ∧ wr.cell? ⟨w.heap.size + 1, 1, none⟩ = some (.slice none 0 0) ∧ wr.cell? ⟨w.heap.size + 1, 2, none⟩ = some (.slice none 0 0) ∧ wr.cell? ⟨BO, 0, none⟩ = some (.bool (neg (q ^ j).num)) ∧ wr.cell? ⟨BO, 1, none⟩ = some (.slice au nu cu) ∧ wr.cell? ⟨BO, 2, none⟩ = some (.slice ad nd cd) ∧ BoxAt wr (w.heap.size) 3 ∧ BoxAt wr (w.heap.size + 1) 3 ∧ BoxAt wr BO 3) (fun i _ => N - (intOf i).toNat)
 case atStart => exact ⟨0, _, _, _, _, _, _, Nat.zero_le _, rfl, hU0, hD0, g1, g2, hB, lo, lr, qx0, qx1, qx2, qr0, qr1, qr2, qo0, qo1, qo2, xx, xr, xo⟩
 case round =>
  clear hU0 hD0 hO hU g1 g2 hB lo lr qx0 qx1 qx2 qr0 qr1 qr2 qo0 qo1 qo2 xx xr xo
  obtain ⟨j, au, nu, cu, ad, nd, cd, hj, rfl, gu, gd, g1, g2, hB, lo, lr, qx0, qx1, qx2, qr0, qr1, qr2, qo0, qo1, qo2, xx, xr, xo⟩ := hrel
  have lx : w.heap.size < wr.heap.size := by omega
  by_cases hlt : j < N
  · have hfs : q ^ j * q = q ^ (j + 1) := (Rat.pow_succ _ _).symm
    have l4 : rlen (q ^ j) ≤ 40000 := HL.out j hj
    obtain ⟨R, hR⟩ : ∃ R, q ^ (j + 1) = R := ⟨_, rfl⟩
    obtain ⟨P, hP⟩ : ∃ P, q ^ j = P := ⟨_, rfl⟩
    rw [hR, hP] at hfs
    rw [hP] at gu gd qo0 l4
    have HR := Lib.hid hR
    have HFS := Lib.hid hfs
    have L4 := Lib.hid l4
    clear hfs hR hP l4
    go_wp2_with fail
    with_reducible refine (rproduct05_rat P q _ _ _ _ _ _ _ _ _ _ _ _ _ gu.toNatAt gd.toNatAt g1 g2 L4.out LQ.out).mono ?_
    rintro e w1 ⟨ahRU, nhRU, chRU, ahRD, nhRD, chRD, rfl, hRU, hRD, hb⟩
    have hRU := hRU.mono hB.size
    have hRD := hRD.mono hB.size
    have g1 := g1.past hb
    have g2 := g2.past hb
    have gu := gu.past hb
    have gd := gd.past hb
    have xx := xx.past hb lx
    obtain ⟨qx0, qx1, qx2, lx⟩ := bq3 hb lx qx0 qx1 qx2
    have xr := xr.past hb lr
    obtain ⟨qr0, qr1, qr2, lr⟩ := bq3 hb lr qr0 qr1 qr2
    have xo := xo.past hb lo
    obtain ⟨qo0, qo1, qo2, lo⟩ := bq3 hb lo qo0 qo1 qo2
    have hB := below_later hB hb
    clear hb
    rw [HFS.out] at hRU hRD ⊢
    have zf0 := xo.f 0 (by decide)
    have zf1 := xo.f 1 (by decide)
    have zf2 := xo.f 2 (by decide)
    go_wp2
    obtain ⟨w2, hW, hO, qN0, qN1, qN2, xN⟩ := store3 xo (.bool (neg R.num)) (.slice ahRU nhRU chRU) (.slice ahRD nhRD chRD) (Go.Proofs.YtmhjhhcdjecdbaaGreat.nu rfl) (Go.Proofs.YtmhjhhcdjecdbaaGreat.nu rfl) (Go.Proofs.YtmhjhhcdjecdbaaGreat.nu rfl)
    try rw [hW]
    clear hW
    have g1 := hO.nat g1
    have g2 := hO.nat g2
    have hRU := hO.own hRU
    have hRD := hO.own hRD
    have qx0 := (hO.cell (b2 := w.heap.size) (k := 0) (by omega)).trans qx0
    have qx1 := (hO.cell (b2 := w.heap.size) (k := 1) (by omega)).trans qx1
    have qx2 := (hO.cell (b2 := w.heap.size) (k := 2) (by omega)).trans qx2
    have xx := hO.box xx
    have lx : w.heap.size < w2.heap.size := by rw [hO.size]; exact lx
    have qr0 := (hO.cell (b2 := w.heap.size + 1) (k := 0) (by omega)).trans qr0
    have qr1 := (hO.cell (b2 := w.heap.size + 1) (k := 1) (by omega)).trans qr1
    have qr2 := (hO.cell (b2 := w.heap.size + 1) (k := 2) (by omega)).trans qr2
    have xr := hO.box xr
    have lr : w.heap.size + 1 < w2.heap.size := by rw [hO.size]; exact lr
    have lo : BO < w2.heap.size := by rw [hO.size]; exact lo
    have qo0 := qN0
    have qo1 := qN1
    have qo2 := qN2
    have xo := xN
    have hB := hO.below (by omega) hB
    clear hO qN0 qN1 qN2 xN zf0 zf1 zf2
    go_roundw
    case rel => exact ⟨j + 1, _, _, _, _, _, _, by omega, by go_num, by rw [HR.out]; exact hRU, by rw [HR.out]; exact hRD, g1, g2, hB, lo, lr, qx0, qx1, qx2, qr0, qr1, qr2, by rw [HR.out]; exact qo0, qo1, qo2, xx, xr, xo⟩
    case measure => simp [intOf]; omega
  · obtain rfl : j = N := by omega
    clear hlt
    obtain ⟨P, hP⟩ : ∃ P, q ^ j = P := ⟨_, rfl⟩
    rw [hP] at gu gd qo0
    have HP := Lib.hid hP
    clear hP
    have zf0 := xr.f 0 (by decide)
    have zf1 := xr.f 1 (by decide)
    have zf2 := xr.f 2 (by decide)
    go_wp2
    obtain ⟨w1, hW, hO, qN0, qN1, qN2, xN⟩ := store3 xr (.bool (neg P.num)) (.slice au nu cu) (.slice ad nd cd) (Go.Proofs.YtmhjhhcdjecdbaaGreat.nu rfl) (Go.Proofs.YtmhjhhcdjecdbaaGreat.nu rfl) (Go.Proofs.YtmhjhhcdjecdbaaGreat.nu rfl)
    try rw [hW]
    clear hW
    have gu := hO.own gu
    have gd := hO.own gd
    have qx0 := (hO.cell (b2 := w.heap.size) (k := 0) (by omega)).trans qx0
    have qx1 := (hO.cell (b2 := w.heap.size) (k := 1) (by omega)).trans qx1
    have qx2 := (hO.cell (b2 := w.heap.size) (k := 2) (by omega)).trans qx2
    have xx := hO.box xx
    have lx : w.heap.size < w1.heap.size := by rw [hO.size]; exact lx
    have lr : w.heap.size + 1 < w1.heap.size := by rw [hO.size]; exact lr
    have qo0 := (hO.cell (b2 := BO) (k := 0) (by omega)).trans qo0
    have qo1 := (hO.cell (b2 := BO) (k := 1) (by omega)).trans qo1
    have qo2 := (hO.cell (b2 := BO) (k := 2) (by omega)).trans qo2
    have xo := hO.box xo
    have lo : BO < w1.heap.size := by rw [hO.size]; exact lo
    have qr0 := qN0
    have qr1 := qN1
    have qr2 := qN2
    have xr := xN
    have hB := hO.below (by omega) hB
    clear hO qN0 qN1 qN2 xN zf0 zf1 zf2
    obtain rfl := HP.out
    refine bodyPost_ret (v := .tuple #[.agg #[.bool (neg (q ^ j).num), .slice au nu cu, .slice ad nd cd], .int .i64 0]) ?_ rfl ⟨_, _, _, _, _, _, rfl, gu, gd, hB⟩
    simp [results, Tryz.f21, go_sem, qr0, qr1, qr2]
set_option maxRecDepth 100000 in
set_option maxHeartbeats 8000000 in
theorem rpow05_neg (q : Rat) (N : Nat) (a1 : Option Addr) (n1 c1 : Nat) (a2 : Option Addr) (n2 c2 : Nat) (w : World) (g1 : NatAt w a1 n1 c1 (digs q.num.natAbs)) (g2 : NatAt w a2 n2 c2 (digs q.den)) (hs1 : n1 ≤ 40000) (hs2 : n2 ≤ 40000) (hN : N ≤ 10000) (h0 : 0 < N) (hq : q ≠ 0) (hl : ∀ k, k ≤ N → rlen (q⁻¹ ^ k) ≤ 40000) :
 Calls Tryz.prog 21 #[.agg #[.bool (neg q.num), .slice a1 n1 c1, .slice a2 n2 c2], .int .i64 (-(N : Int))] w (RetOk w (q⁻¹ ^ N)) := by
 have gk : ∀ i, i < 1 → ((rawF [((neg q.num), (digs q.num.natAbs), (digs q.den))]) i).2.1.length ≤ 200000 ∧ ((rawF [((neg q.num), (digs q.num.natAbs), (digs q.den))]) i).2.2.length ≤ 200000 := fun i hi => by
  have f1 := g1.len; have f2 := g2.len
  match i, hi with
  | 0, _ => exact ⟨(show (digs q.num.natAbs).length ≤ 200000 by omega), (show (digs q.den).length ≤ 200000 by omega)⟩
 have GK := Lib.hid gk
 have hb : allR (rawF [((neg q.num), (digs q.num.natAbs), (digs q.den))]) 1 = true := by rw [allR1]; exact decide_eq_true (chk3_parts q)
 have GB := Lib.hid hb
 clear gk hb
 have t1 : ((n1 : Int) == 0) = false := by rw [beq_eq_false_iff_ne]; intro h0; exact hq (num_len0.1 (by have := g1.len; omega))
 have t5 : wrap64 (N : Int) = (N : Int) := by unfold wrap64; omega
 have lq : rlen q⁻¹ ≤ 40000 := by rw [rlen_inv hq]; unfold rlen; have := g1.len; have := g2.len; omega
 have hE := inv_sg hq
 have hD := (inv_parts2 hq).2.2
 obtain ⟨m, hm⟩ : ∃ m, q⁻¹ = m := ⟨_, rfl⟩
 rw [hm] at hl lq hE hD ⊢
 have LQ := Lib.hid lq
 have HL := Lib.hid hl
 have HE := Lib.hid hE
 have HD := Lib.hid hD
 clear hl lq hE hD hm hq
 go_enter Tryz.func21, Tryz.ntmps21
 have hB := Below.refl w.heap.size w
 go_wp2_with fail
 obtain ⟨w1, hW, hz0, hb, q, f⟩ := box1g w (w.heap.size) (by omega) #[.bool (neg q.num), .slice a1 n1 c1, .slice a2 n2 c2] 30
 rw [hW]
 clear hW
 have g1 := g1.past hb
 have g2 := g2.past hb
 have hB := below_later hB hb
 clear hb
 have lx : w.heap.size < w1.heap.size := by omega
 have qx0 := q 0; have qx1 := q 1; have qx2 := q 2
 simp only [lgA, lgZ, lgS] at qx0 qx1 qx2
 have xx : BoxAt w1 (w.heap.size) 3 := BoxAt.of q f rfl (by simp [notU_bool, notU_slice, notU_i64])
 clear q f
 obtain ⟨w2, hW, hz1, hb, q, f⟩ := box1g w1 (w.heap.size + 1) (by omega) #[.bool false, .slice none 0 0, .slice none 0 0] 30
 rw [hW]
 clear hW
 have g1 := g1.past hb
 have g2 := g2.past hb
 have xx := xx.past hb lx
 obtain ⟨qx0, qx1, qx2, lx⟩ := bq3 hb lx qx0 qx1 qx2
 have hB := below_later hB hb
 clear hb
 have lr : w.heap.size + 1 < w2.heap.size := by omega
 have qr0 := q 0; have qr1 := q 1; have qr2 := q 2
 simp only [lgA, lgZ, lgS] at qr0 qr1 qr2
 have xr : BoxAt w2 (w.heap.size + 1) 3 := BoxAt.of q f rfl (by simp [notU_bool, notU_slice, notU_i64])
 clear q f
 obtain ⟨w3, hW, hz2, hb, q, f⟩ := box1g w2 (w.heap.size + 1 + 1) (by omega) #[.bool (neg q.num), .slice a1 n1 c1, .slice a2 n2 c2] 30
 rw [hW]
 clear hW
 have g1 := g1.past hb
 have g2 := g2.past hb
 have xx := xx.past hb lx
 obtain ⟨qx0, qx1, qx2, lx⟩ := bq3 hb lx qx0 qx1 qx2
 have xr := xr.past hb lr
 obtain ⟨qr0, qr1, qr2, lr⟩ := bq3 hb lr qr0 qr1 qr2
 have hB := below_later hB hb
 clear hb
 have ls : w.heap.size + 1 + 1 < w3.heap.size := by omega
 have qs0 := q 0; have qs1 := q 1; have qs2 := q 2
 simp only [lgA, lgZ, lgS] at qs0 qs1 qs2
 clear q f
 clear hz0
 clear hz1
 clear hz2
 with_reducible refine (rfine05_any _ _ _ _ _ (RatsAt.raw1 (x := ((neg q.num), (digs q.num.natAbs), (digs q.den))) ls qs0 qs1 qs2 g1 g2) GK.out).mono ?_
 rintro e w4 ⟨rfl, hb⟩
 have g1 := g1.past hb
 have g2 := g2.past hb
 have xx := xx.past hb lx
 obtain ⟨qx0, qx1, qx2, lx⟩ := bq3 hb lx qx0 qx1 qx2
 have xr := xr.past hb lr
 obtain ⟨qr0, qr1, qr2, lr⟩ := bq3 hb lr qr0 qr1 qr2
 obtain ⟨qs0, qs1, qs2, ls⟩ := bq3 hb ls qs0 qs1 qs2
 have hB := below_later hB hb
 clear hb
 rw [GB.out]
 go_wp2_with fail
 with_reducible refine (rturned05_rat q m HE.out _ _ _ _ _ _ _ g1 g2 (by omega)).mono ?_
 rintro e w5 ⟨ahM, nhM, chM, rfl, hM, hb⟩
 have hM := hM.mono hB.size
 have g1 := g1.past hb
 have g2 := g2.past hb
 have xx := xx.past hb lx
 obtain ⟨qx0, qx1, qx2, lx⟩ := bq3 hb lx qx0 qx1 qx2
 have xr := xr.past hb lr
 obtain ⟨qr0, qr1, qr2, lr⟩ := bq3 hb lr qr0 qr1 qr2
 have hB := below_later hB hb
 clear hb
 have g1 : NatAt w5 a1 n1 c1 (digs m.den) := by rw [← HD.out]; exact g1
 have zf0 := xx.f 0 (by decide)
 have zf1 := xx.f 1 (by decide)
 have zf2 := xx.f 2 (by decide)
 go_wp2_with fail
 obtain ⟨w6, hW, hO, qN0, qN1, qN2, xN⟩ := store3 xx (.bool (neg m.num)) (.slice ahM nhM chM) (.slice a1 n1 c1) (Go.Proofs.YtmhjhhcdjecdbaaGreat.nu rfl) (Go.Proofs.YtmhjhhcdjecdbaaGreat.nu rfl) (Go.Proofs.YtmhjhhcdjecdbaaGreat.nu rfl)
 try rw [hW]
 clear hW
 have g1 := hO.nat g1
 have g2 := hO.nat g2
 have hM := hO.own hM
 have lx : w.heap.size < w6.heap.size := by rw [hO.size]; exact lx
 have qr0 := (hO.cell (b2 := w.heap.size + 1) (k := 0) (by omega)).trans qr0
 have qr1 := (hO.cell (b2 := w.heap.size + 1) (k := 1) (by omega)).trans qr1
 have qr2 := (hO.cell (b2 := w.heap.size + 1) (k := 2) (by omega)).trans qr2
 have xr := hO.box xr
 have lr : w.heap.size + 1 < w6.heap.size := by rw [hO.size]; exact lr
 have qx0 := qN0
 have qx1 := qN1
 have qx2 := qN2
 have xx := xN
 have hB := hO.below (by omega) hB
 clear hO qN0 qN1 qN2 xN zf0 zf1 zf2
 go_wp2_with fail
 with_reducible refine (rone05_any _).mono ?_
 rintro e w7 ⟨ahP, nhP, chP, rfl, hP, hb⟩
 have hP := hP.mono hB.size
 have g1 := g1.past hb
 have hM := hM.past hb
 have xx := xx.past hb lx
 obtain ⟨qx0, qx1, qx2, lx⟩ := bq3 hb lx qx0 qx1 qx2
 have xr := xr.past hb lr
 obtain ⟨qr0, qr1, qr2, lr⟩ := bq3 hb lr qr0 qr1 qr2
 have hB := below_later hB hb
 clear hb
 have bP : nhP ≤ 1 := by rw [← hP.len]; exact Nat.le_refl _
 go_wp2_with fail
 with_reducible refine (rwhole_one hP.toNatAt (by omega)).mono ?_
 rintro e w8 ⟨ahU, nhU, chU, rfl, hU, hb⟩
 have hU := hU.mono hB.size
 have g1 := g1.past hb
 have hM := hM.past hb
 have hP := hP.past hb
 have xx := xx.past hb lx
 obtain ⟨qx0, qx1, qx2, lx⟩ := bq3 hb lx qx0 qx1 qx2
 have xr := xr.past hb lr
 obtain ⟨qr0, qr1, qr2, lr⟩ := bq3 hb lr qr0 qr1 qr2
 have hB := below_later hB hb
 clear hb
 go_wp2_with fail
 with_reducible refine (rone05_any _).mono ?_
 rintro e w9 ⟨ahO, nhO, chO, rfl, hO, hb⟩
 have hO := hO.mono hB.size
 have g1 := g1.past hb
 have hM := hM.past hb
 have hU := hU.past hb
 have xx := xx.past hb lx
 obtain ⟨qx0, qx1, qx2, lx⟩ := bq3 hb lx qx0 qx1 qx2
 have xr := xr.past hb lr
 obtain ⟨qr0, qr1, qr2, lr⟩ := bq3 hb lr qr0 qr1 qr2
 have hB := below_later hB hb
 clear hb
 have hgo := lr
 go_wp2_with fail
 obtain ⟨w10, hW, hz0, hb, q, f⟩ := box1g w9 (w9.heap.size) (by omega) #[.bool (neg 1), .slice ahU nhU chU, .slice ahO nhO chO] 30
 rw [hW]
 clear hW
 have g1 := g1.past hb
 have hM := hM.past hb
 have hU := hU.past hb
 have hO := hO.past hb
 have xx := xx.past hb lx
 obtain ⟨qx0, qx1, qx2, lx⟩ := bq3 hb lx qx0 qx1 qx2
 have xr := xr.past hb lr
 obtain ⟨qr0, qr1, qr2, lr⟩ := bq3 hb lr qr0 qr1 qr2
 have hB := below_later hB hb
 clear hb
 have lo : w9.heap.size < w10.heap.size := by omega
 have qo0 := q 0; have qo1 := q 1; have qo2 := q 2
 simp only [lgA, lgZ, lgS] at qo0 qo1 qo2
 have xo : BoxAt w10 (w9.heap.size) 3 := BoxAt.of q f rfl (by simp [notU_bool, notU_slice, notU_i64])
 clear q f
 clear hz0
 generalize w9.heap.size = BO at *
 have lx : w.heap.size < w10.heap.size := by omega
 have lr : w.heap.size + 1 < w10.heap.size := by omega
 have hU0 : OwnAt w10 w.heap.size ahU nhU chU (digs (m ^ 0).num.natAbs) := by rw [Rat.pow_zero]; exact hU
 have hD0 : OwnAt w10 w.heap.size ahO nhO chO (digs (m ^ 0).den) := by rw [Rat.pow_zero]; exact hO
 have qo0 : w10.cell? ⟨BO, 0, none⟩ = some (.bool (neg (m ^ 0).num)) := by rw [Rat.pow_zero]; exact qo0
 go_loopw [7] (fun i wr => ∃ (j : Nat) (au : Option Addr) (nu cu : Nat) (ad : Option Addr) (nd cd : Nat), j ≤ N ∧ i = .int .i64 ((j : Nat) : Int) ∧ OwnAt wr w.heap.size au nu cu (digs (m ^ j).num.natAbs) ∧ OwnAt wr w.heap.size ad nd cd (digs (m ^ j).den) ∧ OwnAt wr w.heap.size ahM nhM chM (digs m.num.natAbs) ∧ NatAt wr a1 n1 c1 (digs m.den) ∧ Below w.heap.size w wr ∧ BO < wr.heap.size ∧ w.heap.size + 1 < wr.heap.size ∧ wr.cell? ⟨w.heap.size, 0, none⟩ = some (.bool (neg m.num)) ∧ wr.cell? ⟨w.heap.size, 1, none⟩ = some (.slice ahM nhM chM) ∧ wr.cell? ⟨w.heap.size, 2, none⟩ = some (.slice a1 n1 c1) ∧ wr.cell? ⟨w.heap.size + 1, 0, none⟩ = some (.bool false) ∧ wr.cell? ⟨w.heap.size + 1, 1, none⟩ = some (.slice none 0 0) ∧ wr.cell? ⟨w.heap.size + 1, 2, none⟩ = some (.slice none 0 0) ∧ wr.cell? ⟨BO, 0, none⟩ = some (.bool (neg (m ^ j).num)) ∧ wr.cell? ⟨BO, 1, none⟩ = some (.slice au nu cu) ∧ wr.cell? ⟨BO, 2, none⟩ = some (.slice ad nd cd) ∧ BoxAt wr (w.heap.size) 3 ∧ BoxAt wr (w.heap.size + 1) 3 ∧ BoxAt wr BO 3) (fun i _ => N - (intOf i).toNat)
 case atStart => exact ⟨0, _, _, _, _, _, _, Nat.zero_le _, rfl, hU0, hD0, hM, g1, hB, lo, lr, qx0, qx1, qx2, qr0, qr1, qr2, qo0, qo1, qo2, xx, xr, xo⟩
 case round =>
  clear hU0 hD0 hO hU hM g1 hB lo lr qx0 qx1 qx2 qr0 qr1 qr2 qo0 qo1 qo2 xx xr xo
  obtain ⟨j, au, nu, cu, ad, nd, cd, hj, rfl, gu, gd, hM, g1, hB, lo, lr, qx0, qx1, qx2, qr0, qr1, qr2, qo0, qo1, qo2, xx, xr, xo⟩ := hrel
  have lx : w.heap.size < wr.heap.size := by omega
  by_cases hlt : j < N
  · have hfs : m ^ j * m = m ^ (j + 1) := (Rat.pow_succ _ _).symm
    have l4 : rlen (m ^ j) ≤ 40000 := HL.out j hj
    obtain ⟨R, hR⟩ : ∃ R, m ^ (j + 1) = R := ⟨_, rfl⟩
    obtain ⟨P, hP⟩ : ∃ P, m ^ j = P := ⟨_, rfl⟩
    rw [hR, hP] at hfs
    rw [hP] at gu gd qo0 l4
    have HR := Lib.hid hR
    have HFS := Lib.hid hfs
    have L4 := Lib.hid l4
    clear hfs hR hP l4
    go_wp2_with fail
    with_reducible refine (rproduct05_rat P m _ _ _ _ _ _ _ _ _ _ _ _ _ gu.toNatAt gd.toNatAt hM.toNatAt g1 L4.out LQ.out).mono ?_
    rintro e w1 ⟨ahRU, nhRU, chRU, ahRD, nhRD, chRD, rfl, hRU, hRD, hb⟩
    have hRU := hRU.mono hB.size
    have hRD := hRD.mono hB.size
    have hM := hM.past hb
    have g1 := g1.past hb
    have gu := gu.past hb
    have gd := gd.past hb
    have xx := xx.past hb lx
    obtain ⟨qx0, qx1, qx2, lx⟩ := bq3 hb lx qx0 qx1 qx2
    have xr := xr.past hb lr
    obtain ⟨qr0, qr1, qr2, lr⟩ := bq3 hb lr qr0 qr1 qr2
    have xo := xo.past hb lo
    obtain ⟨qo0, qo1, qo2, lo⟩ := bq3 hb lo qo0 qo1 qo2
    have hB := below_later hB hb
    clear hb
    rw [HFS.out] at hRU hRD ⊢
    have zf0 := xo.f 0 (by decide)
    have zf1 := xo.f 1 (by decide)
    have zf2 := xo.f 2 (by decide)
    go_wp2
    obtain ⟨w2, hW, hO, qN0, qN1, qN2, xN⟩ := store3 xo (.bool (neg R.num)) (.slice ahRU nhRU chRU) (.slice ahRD nhRD chRD) (Go.Proofs.YtmhjhhcdjecdbaaGreat.nu rfl) (Go.Proofs.YtmhjhhcdjecdbaaGreat.nu rfl) (Go.Proofs.YtmhjhhcdjecdbaaGreat.nu rfl)
    try rw [hW]
    clear hW
    have hM := hO.own hM
    have g1 := hO.nat g1
    have hRU := hO.own hRU
    have hRD := hO.own hRD
    have qx0 := (hO.cell (b2 := w.heap.size) (k := 0) (by omega)).trans qx0
    have qx1 := (hO.cell (b2 := w.heap.size) (k := 1) (by omega)).trans qx1
    have qx2 := (hO.cell (b2 := w.heap.size) (k := 2) (by omega)).trans qx2
    have xx := hO.box xx
    have lx : w.heap.size < w2.heap.size := by rw [hO.size]; exact lx
    have qr0 := (hO.cell (b2 := w.heap.size + 1) (k := 0) (by omega)).trans qr0
    have qr1 := (hO.cell (b2 := w.heap.size + 1) (k := 1) (by omega)).trans qr1
    have qr2 := (hO.cell (b2 := w.heap.size + 1) (k := 2) (by omega)).trans qr2
    have xr := hO.box xr
    have lr : w.heap.size + 1 < w2.heap.size := by rw [hO.size]; exact lr
    have lo : BO < w2.heap.size := by rw [hO.size]; exact lo
    have qo0 := qN0
    have qo1 := qN1
    have qo2 := qN2
    have xo := xN
    have hB := hO.below (by omega) hB
    clear hO qN0 qN1 qN2 xN zf0 zf1 zf2
    go_roundw
    case rel => exact ⟨j + 1, _, _, _, _, _, _, by omega, by go_num, by rw [HR.out]; exact hRU, by rw [HR.out]; exact hRD, hM, g1, hB, lo, lr, qx0, qx1, qx2, qr0, qr1, qr2, by rw [HR.out]; exact qo0, qo1, qo2, xx, xr, xo⟩
    case measure => simp [intOf]; omega
  · obtain rfl : j = N := by omega
    clear hlt
    obtain ⟨P, hP⟩ : ∃ P, m ^ j = P := ⟨_, rfl⟩
    rw [hP] at gu gd qo0
    have HP := Lib.hid hP
    clear hP
    have zf0 := xr.f 0 (by decide)
    have zf1 := xr.f 1 (by decide)
    have zf2 := xr.f 2 (by decide)
    go_wp2
    obtain ⟨w1, hW, hO, qN0, qN1, qN2, xN⟩ := store3 xr (.bool (neg P.num)) (.slice au nu cu) (.slice ad nd cd) (Go.Proofs.YtmhjhhcdjecdbaaGreat.nu rfl) (Go.Proofs.YtmhjhhcdjecdbaaGreat.nu rfl) (Go.Proofs.YtmhjhhcdjecdbaaGreat.nu rfl)
    try rw [hW]
    clear hW
    have gu := hO.own gu
    have gd := hO.own gd
    have qx0 := (hO.cell (b2 := w.heap.size) (k := 0) (by omega)).trans qx0
    have qx1 := (hO.cell (b2 := w.heap.size) (k := 1) (by omega)).trans qx1
    have qx2 := (hO.cell (b2 := w.heap.size) (k := 2) (by omega)).trans qx2
    have xx := hO.box xx
    have lx : w.heap.size < w1.heap.size := by rw [hO.size]; exact lx
    have lr : w.heap.size + 1 < w1.heap.size := by rw [hO.size]; exact lr
    have qo0 := (hO.cell (b2 := BO) (k := 0) (by omega)).trans qo0
    have qo1 := (hO.cell (b2 := BO) (k := 1) (by omega)).trans qo1
    have qo2 := (hO.cell (b2 := BO) (k := 2) (by omega)).trans qo2
    have xo := hO.box xo
    have lo : BO < w1.heap.size := by rw [hO.size]; exact lo
    have qr0 := qN0
    have qr1 := qN1
    have qr2 := qN2
    have xr := xN
    have hB := hO.below (by omega) hB
    clear hO qN0 qN1 qN2 xN zf0 zf1 zf2
    obtain rfl := HP.out
    refine bodyPost_ret (v := .tuple #[.agg #[.bool (neg (m ^ j).num), .slice au nu cu, .slice ad nd cd], .int .i64 0]) ?_ rfl ⟨_, _, _, _, _, _, rfl, gu, gd, hB⟩
    simp [results, Tryz.f21, go_sem, qr0, qr1, qr2]
def ShortPow (q : Rat) (N : Nat) : Prop := ∀ k, k ≤ N → rlen (q ^ k) ≤ 40000 ∧ rlen (q⁻¹ ^ k) ≤ 40000
theorem shortPow {q : Rat} {N L : Nat} (h : rlen q ≤ L) (h2 : N * L ≤ 39999) : ShortPow q N := fun k hk => by
 have h3 : k * L ≤ N * L := Nat.mul_le_mul_right _ hk
 have h1 := rlen_pow q k
 have h4 : k * rlen q ≤ k * L := Nat.mul_le_mul_left _ h
 refine ⟨by omega, ?_⟩
 rw [← inv_pow]
 by_cases hz : q ^ k = 0
 · rw [hz, Rat.inv_zero]; decide
 · rw [rlen_inv hz]; omega
theorem rpow05_any (b1 : Bool) (a1 : Option Addr) (n1 c1 : Nat) (a2 : Option Addr) (n2 c2 : Nat) (l1 l2 : List Nat) (n : Int) (w : World) (g1 : NatAt w a1 n1 c1 l1) (g2 : NatAt w a2 n2 c2 l2) (hs1 : n1 ≤ 40000) (hs2 : n2 ≤ 40000) (hp : chk3 (b1, l1, l2) = 0 → -10000 ≤ n → n ≤ 10000 → ShortPow (ratOf (b1, l1, l2)) n.natAbs) :
 Calls Tryz.prog 21 #[.agg #[.bool b1, .slice a1 n1 c1, .slice a2 n2 c2], .int .i64 n] w (RetAns w (powA (b1, l1, l2) n)) := by
 by_cases h : chkR b1 l1 l2 = 0
 · obtain ⟨q, rfl, rfl, rfl⟩ := chkR_rat g1.dig g2.dig h
   have e1 : chk3 (neg q.num, digs q.num.natAbs, digs q.den) = 0 := h
   have e2 : ratOf (neg q.num, digs q.num.natAbs, digs q.den) = q := ratOf_parts q
   rw [e2] at hp
   unfold powA
   rw [if_neg (by rw [e1]; simp), e2]
   by_cases h1 : n < -10000
   · rw [if_pos (.inl h1)]
     exact rpow05_low q _ _ _ _ _ _ n w g1 g2 hs1 hs2 h1
   by_cases h2 : 10000 < n
   · rw [if_pos (.inr h2)]
     exact rpow05_high q _ _ _ _ _ _ n w g1 g2 hs1 hs2 h2
   rw [if_neg (by omega)]
   have hp := hp e1 (by omega) (by omega)
   by_cases h3 : n < 0 ∧ q = 0
   · rw [if_pos h3]
     exact rpow05_zero q _ _ _ _ _ _ n w g1 g2 hs1 hs2 h3.1 (by omega) h3.2
   · rw [if_neg h3]
     by_cases h0 : 0 ≤ n
     · obtain ⟨N, rfl⟩ := Int.eq_ofNat_of_zero_le h0
       rw [Rat.zpow_natCast]
       exact rpow05_pos q N _ _ _ _ _ _ w g1 g2 hs1 hs2 (by omega) (fun k hk => (hp k hk).1)
     · obtain ⟨N, rfl⟩ : ∃ N : Nat, n = -(N : Int) := ⟨n.natAbs, by omega⟩
       have hq : q ≠ 0 := fun h5 => h3 ⟨by omega, h5⟩
       have e : q ^ (-(N : Int)) = q⁻¹ ^ N := by rw [Rat.zpow_neg, Rat.zpow_natCast, inv_pow]
       rw [e]
       exact rpow05_neg q N _ _ _ _ _ _ w g1 g2 hs1 hs2 (by omega) (by omega) hq (fun k hk => (hp k (by omega)).2)
 · have e : powA (b1, l1, l2) n = .error 6 := if_pos h
   rw [e]
   exact rpow05_bad b1 l1 l2 _ _ _ _ _ _ n w g1 g2 hs1 hs2 h
end Go.Proofs.YtmhjhhcdjecdbaaGreat
