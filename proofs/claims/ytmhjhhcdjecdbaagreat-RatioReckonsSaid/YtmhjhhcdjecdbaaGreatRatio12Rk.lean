import Derived.Test.YtmhjhhcdjecdbaaGreatS0Rk
import Derived.Test.YtmhjhhcdjecdbaaGreatRatio10Rk
import Derived.Test.YtmhjhhcdjecdbaaGreatA9Rk
import Derived.Test.YtmhjhhcdjecdbaaGreatRefs9Rk
set_option linter.unusedVariables false
set_option linter.unusedSimpArgs false
namespace Go.Proofs.YtmhjhhcdjecdbaaGreat
open Go.RowKit
theorem digs_len_pow (x : Nat) : ∀ k, (digs (x ^ k)).length ≤ k * (digs x).length + 1
 | 0 => by rw [Nat.pow_zero, Nat.zero_mul]; exact Nat.le_refl _
 | k + 1 => by
   rw [Nat.pow_succ, Nat.succ_mul]
   have := digs_len_pow x k
   have := digs_len_prod (x ^ k) x
   omega
theorem rlen_pow (q : Rat) (k : Nat) : rlen (q ^ k) ≤ k * rlen q + 1 := by
 have h1 := digs_len_pow q.num.natAbs k
 have h2 := digs_len_pow q.den k
 have h3 : k * (digs q.num.natAbs).length ≤ k * rlen q := Nat.mul_le_mul_left _ (Nat.le_max_left _ _)
 have h4 : k * (digs q.den).length ≤ k * rlen q := Nat.mul_le_mul_left _ (Nat.le_max_right _ _)
 show max _ _ ≤ _
 rw [Rat.num_pow, Rat.den_pow, Int.natAbs_pow]
 omega
theorem pow_num (q : Rat) (a b : Nat) : (q ^ a).num * (q ^ b).num = (q ^ (a + b)).num := by
 rw [Rat.num_pow, Rat.num_pow, Rat.num_pow, Int.pow_add]
theorem pow_den (q : Rat) (a b : Nat) : (q ^ a).den * (q ^ b).den = (q ^ (a + b)).den := by
 rw [Rat.den_pow, Rat.den_pow, Rat.den_pow, Nat.pow_add]
theorem inv_pow (q : Rat) : ∀ N : Nat, (q ^ N)⁻¹ = q⁻¹ ^ N
 | 0 => by rw [Rat.pow_zero, Rat.pow_zero]; exact Rat.inv_eq_of_mul_eq_one (Rat.mul_one 1)
 | N + 1 => by rw [Rat.pow_succ, Rat.inv_mul_rev, inv_pow q N, Rat.mul_comm, ← Rat.pow_succ]
def powA (x : Bool × List Nat × List Nat) (n : Int) : Ans :=
 if chk3 x ≠ 0 then .error 6 else if n < -10000 ∨ 10000 < n then .error 3 else if n < 0 ∧ ratOf x = 0 then .error 5 else .ok (ratOf x ^ n)
set_option maxRecDepth 100000 in
set_option maxHeartbeats 8000000 in
theorem pow05_bad (b1 : Bool) (l1 l2 : List Nat) (a1 : Option Addr) (n1 c1 : Nat) (a2 : Option Addr) (n2 c2 : Nat) (n : Int) (w : World) (g1 : NatAt w a1 n1 c1 l1) (g2 : NatAt w a2 n2 c2 l2) (hs1 : n1 ≤ 17179869184) (hs2 : n2 ≤ 17179869184) (h : chkR b1 l1 l2 ≠ 0) :
 Calls Tryz.prog 20 #[.agg #[.bool (b1), .slice a1 n1 c1, .slice a2 n2 c2], .int .i64 n] w (RetAns w (.error 6)) := by
 have H := Lib.hid (chkR_no h)
 clear h
 go_enter Tryz.func20, Tryz.ntmps20
 have hB := Below.refl w.heap.size w
 go_wp2_with fail
 obtain ⟨w1, hW, hz0, hb, q, f⟩ := box1g w (w.heap.size) (by omega) #[.bool (b1), .slice a1 n1 c1, .slice a2 n2 c2] 30
 rw [hW]
 clear hW
 have g1 := g1.past hb
 have g2 := g2.past hb
 have hB := below_later hB hb
 clear hb
 have lx : w.heap.size < w1.heap.size := by omega
 have qx0 := q 0; have qx1 := q 1; have qx2 := q 2
 simp only [lgA, lgZ, lgS] at qx0 qx1 qx2
 have xx : BoxAt w1 (w.heap.size) 3 := BoxAt.of q f rfl (by simp [notU_bool, notU_slice, notU_i64])
 clear q f
 obtain ⟨w2, hW, hz1, hb, q, f⟩ := box1g w1 (w.heap.size + 1) (by omega) #[.bool false, .slice none 0 0, .slice none 0 0] 30
 rw [hW]
 clear hW
 have g1 := g1.past hb
 have g2 := g2.past hb
 have xx := xx.past hb lx
 obtain ⟨qx0, qx1, qx2, lx⟩ := bq3 hb lx qx0 qx1 qx2
 have hB := below_later hB hb
 clear hb
 have lr : w.heap.size + 1 < w2.heap.size := by omega
 have qr0 := q 0; have qr1 := q 1; have qr2 := q 2
 simp only [lgA, lgZ, lgS] at qr0 qr1 qr2
 have xr : BoxAt w2 (w.heap.size + 1) 3 := BoxAt.of q f rfl (by simp [notU_bool, notU_slice, notU_i64])
 clear q f
 clear hz0
 clear hz1
 with_reducible refine (check05_any b1 _ _ _ l1 _ _ _ l2 _ g1 g2 (by omega) (by omega)).mono ?_
 rintro e w3 ⟨rfl, hb⟩
 have g1 := g1.past hb
 have g2 := g2.past hb
 have xx := xx.past hb lx
 obtain ⟨qx0, qx1, qx2, lx⟩ := bq3 hb lx qx0 qx1 qx2
 have xr := xr.past hb lr
 obtain ⟨qr0, qr1, qr2, lr⟩ := bq3 hb lr qr0 qr1 qr2
 have hB := below_later hB hb
 clear hb
 rw [H.out]
 have zf0 := xr.f 0 (by decide)
 have zf1 := xr.f 1 (by decide)
 have zf2 := xr.f 2 (by decide)
 go_wp2
 obtain ⟨w4, hW, hO, qN0, qN1, qN2, xN⟩ := store3 xr (.bool false) (.slice none 0 0) (.slice none 0 0) (Go.Proofs.YtmhjhhcdjecdbaaGreat.nu rfl) (Go.Proofs.YtmhjhhcdjecdbaaGreat.nu rfl) (Go.Proofs.YtmhjhhcdjecdbaaGreat.nu rfl)
 try rw [hW]
 clear hW
 have qx0 := (hO.cell (b2 := w.heap.size) (k := 0) (by omega)).trans qx0
 have qx1 := (hO.cell (b2 := w.heap.size) (k := 1) (by omega)).trans qx1
 have qx2 := (hO.cell (b2 := w.heap.size) (k := 2) (by omega)).trans qx2
 have xx := hO.box xx
 have lx : w.heap.size < w4.heap.size := by rw [hO.size]; exact lx
 have lr : w.heap.size + 1 < w4.heap.size := by rw [hO.size]; exact lr
 have qr0 := qN0
 have qr1 := qN1
 have qr2 := qN2
 have xr := xN
 have hB := hO.below (by omega) hB
 clear hO qN0 qN1 qN2 xN zf0 zf1 zf2
 refine bodyPost_ret (v := .tuple #[.agg #[.bool false, .slice none 0 0, .slice none 0 0], .int .i64 6]) ?_ rfl ⟨_, _, _, _, _, _, rfl, OwnAt.nil _ _, OwnAt.nil _ _, hB⟩
 simp [results, Tryz.f20, go_sem, qr0, qr1, qr2]
set_option maxRecDepth 100000 in
set_option maxHeartbeats 8000000 in
theorem pow05_low (q : Rat) (a1 : Option Addr) (n1 c1 : Nat) (a2 : Option Addr) (n2 c2 : Nat) (n : Int) (w : World) (g1 : NatAt w a1 n1 c1 (digs q.num.natAbs)) (g2 : NatAt w a2 n2 c2 (digs q.den)) (hs1 : n1 ≤ 17179869184) (hs2 : n2 ≤ 17179869184) (hn : n < -10000) :
 Calls Tryz.prog 20 #[.agg #[.bool (neg q.num), .slice a1 n1 c1, .slice a2 n2 c2], .int .i64 n] w (RetAns w (.error 3)) := by
 have HC := Lib.hid (chkR_canon q)
 go_enter Tryz.func20, Tryz.ntmps20
 have hB := Below.refl w.heap.size w
 go_wp2_with fail
 obtain ⟨w1, hW, hz0, hb, q, f⟩ := box1g w (w.heap.size) (by omega) #[.bool (neg q.num), .slice a1 n1 c1, .slice a2 n2 c2] 30
 rw [hW]
 clear hW
 have g1 := g1.past hb
 have g2 := g2.past hb
 have hB := below_later hB hb
 clear hb
 have lx : w.heap.size < w1.heap.size := by omega
 have qx0 := q 0; have qx1 := q 1; have qx2 := q 2
 simp only [lgA, lgZ, lgS] at qx0 qx1 qx2
 have xx : BoxAt w1 (w.heap.size) 3 := BoxAt.of q f rfl (by simp [notU_bool, notU_slice, notU_i64])
 clear q f
 obtain ⟨w2, hW, hz1, hb, q, f⟩ := box1g w1 (w.heap.size + 1) (by omega) #[.bool false, .slice none 0 0, .slice none 0 0] 30
 rw [hW]
 clear hW
 have g1 := g1.past hb
 have g2 := g2.past hb
 have xx := xx.past hb lx
 obtain ⟨qx0, qx1, qx2, lx⟩ := bq3 hb lx qx0 qx1 qx2
 have hB := below_later hB hb
 clear hb
 have lr : w.heap.size + 1 < w2.heap.size := by omega
 have qr0 := q 0; have qr1 := q 1; have qr2 := q 2
 simp only [lgA, lgZ, lgS] at qr0 qr1 qr2
 have xr : BoxAt w2 (w.heap.size + 1) 3 := BoxAt.of q f rfl (by simp [notU_bool, notU_slice, notU_i64])
 clear q f
 clear hz0
 clear hz1
 with_reducible refine (check05_any _ _ _ _ (digs q.num.natAbs) _ _ _ (digs q.den) _ g1 g2 (by omega) (by omega)).mono ?_
 rintro e w3 ⟨rfl, hb⟩
 have g1 := g1.past hb
 have g2 := g2.past hb
 have xx := xx.past hb lx
 obtain ⟨qx0, qx1, qx2, lx⟩ := bq3 hb lx qx0 qx1 qx2
 have xr := xr.past hb lr
 obtain ⟨qr0, qr1, qr2, lr⟩ := bq3 hb lr qr0 qr1 qr2
 have hB := below_later hB hb
 clear hb
 rw [HC.out]
 have zf0 := xr.f 0 (by decide)
 have zf1 := xr.f 1 (by decide)
 have zf2 := xr.f 2 (by decide)
 go_wp2
 obtain ⟨w4, hW, hO, qN0, qN1, qN2, xN⟩ := store3 xr (.bool false) (.slice none 0 0) (.slice none 0 0) (Go.Proofs.YtmhjhhcdjecdbaaGreat.nu rfl) (Go.Proofs.YtmhjhhcdjecdbaaGreat.nu rfl) (Go.Proofs.YtmhjhhcdjecdbaaGreat.nu rfl)
 try rw [hW]
 clear hW
 have qx0 := (hO.cell (b2 := w.heap.size) (k := 0) (by omega)).trans qx0
 have qx1 := (hO.cell (b2 := w.heap.size) (k := 1) (by omega)).trans qx1
 have qx2 := (hO.cell (b2 := w.heap.size) (k := 2) (by omega)).trans qx2
 have xx := hO.box xx
 have lx : w.heap.size < w4.heap.size := by rw [hO.size]; exact lx
 have lr : w.heap.size + 1 < w4.heap.size := by rw [hO.size]; exact lr
 have qr0 := qN0
 have qr1 := qN1
 have qr2 := qN2
 have xr := xN
 have hB := hO.below (by omega) hB
 clear hO qN0 qN1 qN2 xN zf0 zf1 zf2
 refine bodyPost_ret (v := .tuple #[.agg #[.bool false, .slice none 0 0, .slice none 0 0], .int .i64 3]) ?_ rfl ⟨_, _, _, _, _, _, rfl, OwnAt.nil _ _, OwnAt.nil _ _, hB⟩
 simp [results, Tryz.f20, go_sem, qr0, qr1, qr2]
set_option maxRecDepth 100000 in
set_option maxHeartbeats 8000000 in
theorem pow05_high (q : Rat) (a1 : Option Addr) (n1 c1 : Nat) (a2 : Option Addr) (n2 c2 : Nat) (n : Int) (w : World) (g1 : NatAt w a1 n1 c1 (digs q.num.natAbs)) (g2 : NatAt w a2 n2 c2 (digs q.den)) (hs1 : n1 ≤ 17179869184) (hs2 : n2 ≤ 17179869184) (hn : 10000 < n) :
 Calls Tryz.prog 20 #[.agg #[.bool (neg q.num), .slice a1 n1 c1, .slice a2 n2 c2], .int .i64 n] w (RetAns w (.error 3)) := by
 have HC := Lib.hid (chkR_canon q)
 go_enter Tryz.func20, Tryz.ntmps20
 have hB := Below.refl w.heap.size w
 go_wp2_with fail
 obtain ⟨w1, hW, hz0, hb, q, f⟩ := box1g w (w.heap.size) (by omega) #[.bool (neg q.num), .slice a1 n1 c1, .slice a2 n2 c2] 30
 rw [hW]
 clear hW
 have g1 := g1.past hb
 have g2 := g2.past hb
 have hB := below_later hB hb
 clear hb
 have lx : w.heap.size < w1.heap.size := by omega
 have qx0 := q 0; have qx1 := q 1; have qx2 := q 2
 simp only [lgA, lgZ, lgS] at qx0 qx1 qx2
 have xx : BoxAt w1 (w.heap.size) 3 := BoxAt.of q f rfl (by simp [notU_bool, notU_slice, notU_i64])
 clear q f
 obtain ⟨w2, hW, hz1, hb, q, f⟩ := box1g w1 (w.heap.size + 1) (by omega) #[.bool false, .slice none 0 0, .slice none 0 0] 30
 rw [hW]
 clear hW
 have g1 := g1.past hb
 have g2 := g2.past hb
 have xx := xx.past hb lx
 obtain ⟨qx0, qx1, qx2, lx⟩ := bq3 hb lx qx0 qx1 qx2
 have hB := below_later hB hb
 clear hb
 have lr : w.heap.size + 1 < w2.heap.size := by omega
 have qr0 := q 0; have qr1 := q 1; have qr2 := q 2
 simp only [lgA, lgZ, lgS] at qr0 qr1 qr2
 have xr : BoxAt w2 (w.heap.size + 1) 3 := BoxAt.of q f rfl (by simp [notU_bool, notU_slice, notU_i64])
 clear q f
 clear hz0
 clear hz1
 with_reducible refine (check05_any _ _ _ _ (digs q.num.natAbs) _ _ _ (digs q.den) _ g1 g2 (by omega) (by omega)).mono ?_
 rintro e w3 ⟨rfl, hb⟩
 have g1 := g1.past hb
 have g2 := g2.past hb
 have xx := xx.past hb lx
 obtain ⟨qx0, qx1, qx2, lx⟩ := bq3 hb lx qx0 qx1 qx2
 have xr := xr.past hb lr
 obtain ⟨qr0, qr1, qr2, lr⟩ := bq3 hb lr qr0 qr1 qr2
 have hB := below_later hB hb
 clear hb
 rw [HC.out]
 have zf0 := xr.f 0 (by decide)
 have zf1 := xr.f 1 (by decide)
 have zf2 := xr.f 2 (by decide)
 go_wp2
 obtain ⟨w4, hW, hO, qN0, qN1, qN2, xN⟩ := store3 xr (.bool false) (.slice none 0 0) (.slice none 0 0) (Go.Proofs.YtmhjhhcdjecdbaaGreat.nu rfl) (Go.Proofs.YtmhjhhcdjecdbaaGreat.nu rfl) (Go.Proofs.YtmhjhhcdjecdbaaGreat.nu rfl)
 try rw [hW]
 clear hW
 have qx0 := (hO.cell (b2 := w.heap.size) (k := 0) (by omega)).trans qx0
 have qx1 := (hO.cell (b2 := w.heap.size) (k := 1) (by omega)).trans qx1
 have qx2 := (hO.cell (b2 := w.heap.size) (k := 2) (by omega)).trans qx2
 have xx := hO.box xx
 have lx : w.heap.size < w4.heap.size := by rw [hO.size]; exact lx
 have lr : w.heap.size + 1 < w4.heap.size := by rw [hO.size]; exact lr
 have qr0 := qN0
 have qr1 := qN1
 have qr2 := qN2
 have xr := xN
 have hB := hO.below (by omega) hB
 clear hO qN0 qN1 qN2 xN zf0 zf1 zf2
 refine bodyPost_ret (v := .tuple #[.agg #[.bool false, .slice none 0 0, .slice none 0 0], .int .i64 3]) ?_ rfl ⟨_, _, _, _, _, _, rfl, OwnAt.nil _ _, OwnAt.nil _ _, hB⟩
 simp [results, Tryz.f20, go_sem, qr0, qr1, qr2]
set_option maxRecDepth 100000 in
set_option maxHeartbeats 8000000 in
theorem pow05_zero (q : Rat) (a1 : Option Addr) (n1 c1 : Nat) (a2 : Option Addr) (n2 c2 : Nat) (n : Int) (w : World) (g1 : NatAt w a1 n1 c1 (digs q.num.natAbs)) (g2 : NatAt w a2 n2 c2 (digs q.den)) (hs1 : n1 ≤ 17179869184) (hs2 : n2 ≤ 17179869184) (hn : n < 0) (hn2 : -10000 ≤ n) (hq : q = 0) :
 Calls Tryz.prog 20 #[.agg #[.bool (neg q.num), .slice a1 n1 c1, .slice a2 n2 c2], .int .i64 n] w (RetAns w (.error 5)) := by
 have HC := Lib.hid (chkR_canon q)
 obtain rfl : n1 = 0 := by rw [← g1.len]; exact num_len0.2 hq
 clear hq
 go_enter Tryz.func20, Tryz.ntmps20
 have hB := Below.refl w.heap.size w
 go_wp2_with fail
 obtain ⟨w1, hW, hz0, hb, q, f⟩ := box1g w (w.heap.size) (by omega) #[.bool (neg q.num), .slice a1 0 c1, .slice a2 n2 c2] 30
 rw [hW]
 clear hW
 have g1 := g1.past hb
 have g2 := g2.past hb
 have hB := below_later hB hb
 clear hb
 have lx : w.heap.size < w1.heap.size := by omega
 have qx0 := q 0; have qx1 := q 1; have qx2 := q 2
 simp only [lgA, lgZ, lgS] at qx0 qx1 qx2
 have xx : BoxAt w1 (w.heap.size) 3 := BoxAt.of q f rfl (by simp [notU_bool, notU_slice, notU_i64])
 clear q f
 obtain ⟨w2, hW, hz1, hb, q, f⟩ := box1g w1 (w.heap.size + 1) (by omega) #[.bool false, .slice none 0 0, .slice none 0 0] 30
 rw [hW]
 clear hW
 have g1 := g1.past hb
 have g2 := g2.past hb
 have xx := xx.past hb lx
 obtain ⟨qx0, qx1, qx2, lx⟩ := bq3 hb lx qx0 qx1 qx2
 have hB := below_later hB hb
 clear hb
 have lr : w.heap.size + 1 < w2.heap.size := by omega
 have qr0 := q 0; have qr1 := q 1; have qr2 := q 2
 simp only [lgA, lgZ, lgS] at qr0 qr1 qr2
 have xr : BoxAt w2 (w.heap.size + 1) 3 := BoxAt.of q f rfl (by simp [notU_bool, notU_slice, notU_i64])
 clear q f
 clear hz0
 clear hz1
 with_reducible refine (check05_any _ _ _ _ (digs q.num.natAbs) _ _ _ (digs q.den) _ g1 g2 (by omega) (by omega)).mono ?_
 rintro e w3 ⟨rfl, hb⟩
 have g1 := g1.past hb
 have g2 := g2.past hb
 have xx := xx.past hb lx
 obtain ⟨qx0, qx1, qx2, lx⟩ := bq3 hb lx qx0 qx1 qx2
 have xr := xr.past hb lr
 obtain ⟨qr0, qr1, qr2, lr⟩ := bq3 hb lr qr0 qr1 qr2
 have hB := below_later hB hb
 clear hb
 rw [HC.out]
 have zf0 := xr.f 0 (by decide)
 have zf1 := xr.f 1 (by decide)
 have zf2 := xr.f 2 (by decide)
 go_wp2
 obtain ⟨w4, hW, hO, qN0, qN1, qN2, xN⟩ := store3 xr (.bool false) (.slice none 0 0) (.slice none 0 0) (Go.Proofs.YtmhjhhcdjecdbaaGreat.nu rfl) (Go.Proofs.YtmhjhhcdjecdbaaGreat.nu rfl) (Go.Proofs.YtmhjhhcdjecdbaaGreat.nu rfl)
 try rw [hW]
 clear hW
 have qx0 := (hO.cell (b2 := w.heap.size) (k := 0) (by omega)).trans qx0
 have qx1 := (hO.cell (b2 := w.heap.size) (k := 1) (by omega)).trans qx1
 have qx2 := (hO.cell (b2 := w.heap.size) (k := 2) (by omega)).trans qx2
 have xx := hO.box xx
 have lx : w.heap.size < w4.heap.size := by rw [hO.size]; exact lx
 have lr : w.heap.size + 1 < w4.heap.size := by rw [hO.size]; exact lr
 have qr0 := qN0
 have qr1 := qN1
 have qr2 := qN2
 have xr := xN
 have hB := hO.below (by omega) hB
 clear hO qN0 qN1 qN2 xN zf0 zf1 zf2
 refine bodyPost_ret (v := .tuple #[.agg #[.bool false, .slice none 0 0, .slice none 0 0], .int .i64 5]) ?_ rfl ⟨_, _, _, _, _, _, rfl, OwnAt.nil _ _, OwnAt.nil _ _, hB⟩
 simp [results, Tryz.f20, go_sem, qr0, qr1, qr2]
set_option maxRecDepth 100000 in
set_option maxHeartbeats 8000000 in
theorem pow05_pos (q : Rat) (N : Nat) (a1 : Option Addr) (n1 c1 : Nat) (a2 : Option Addr) (n2 c2 : Nat) (w : World) (g1 : NatAt w a1 n1 c1 (digs q.num.natAbs)) (g2 : NatAt w a2 n2 c2 (digs q.den)) (hs1 : n1 ≤ 17179869184) (hs2 : n2 ≤ 17179869184) (hN : N ≤ 10000) (hlq : rlen q ≤ 1048576) :
 Calls Tryz.prog 20 #[.agg #[.bool (neg q.num), .slice a1 n1 c1, .slice a2 n2 c2], .int .i64 (N : Int)] w (RetOk w (q ^ N)) := by
 have HC := Lib.hid (chkR_canon q)
 have hlen : ∀ k, k ≤ N → rlen (q ^ k) ≤ 17179869184 := fun k hk => by
  have h1 := rlen_pow q k
  have h2 : k * rlen q ≤ 10000 * 1048576 := Nat.mul_le_mul (by omega) hlq
  omega
 have HLEN := Lib.hid hlen
 have HN := Lib.hid hN
 have g10 := g1
 have g20 := g2
 clear hlen hlq
 go_enter Tryz.func20, Tryz.ntmps20
 have hB := Below.refl w.heap.size w
 go_wp2_with fail
 obtain ⟨w1, hW, hz0, hb, q, f⟩ := box1g w (w.heap.size) (by omega) #[.bool (neg q.num), .slice a1 n1 c1, .slice a2 n2 c2] 30
 rw [hW]
 clear hW
 have g1 := g1.past hb
 have g2 := g2.past hb
 have hB := below_later hB hb
 clear hb
 have lx : w.heap.size < w1.heap.size := by omega
 have qx0 := q 0; have qx1 := q 1; have qx2 := q 2
 simp only [lgA, lgZ, lgS] at qx0 qx1 qx2
 have xx : BoxAt w1 (w.heap.size) 3 := BoxAt.of q f rfl (by simp [notU_bool, notU_slice, notU_i64])
 clear q f
 obtain ⟨w2, hW, hz1, hb, q, f⟩ := box1g w1 (w.heap.size + 1) (by omega) #[.bool false, .slice none 0 0, .slice none 0 0] 30
 rw [hW]
 clear hW
 have g1 := g1.past hb
 have g2 := g2.past hb
 have xx := xx.past hb lx
 obtain ⟨qx0, qx1, qx2, lx⟩ := bq3 hb lx qx0 qx1 qx2
 have hB := below_later hB hb
 clear hb
 have lr : w.heap.size + 1 < w2.heap.size := by omega
 have qr0 := q 0; have qr1 := q 1; have qr2 := q 2
 simp only [lgA, lgZ, lgS] at qr0 qr1 qr2
 have xr : BoxAt w2 (w.heap.size + 1) 3 := BoxAt.of q f rfl (by simp [notU_bool, notU_slice, notU_i64])
 clear q f
 clear hz0
 clear hz1
 with_reducible refine (check05_any _ _ _ _ (digs q.num.natAbs) _ _ _ (digs q.den) _ g1 g2 (by omega) (by omega)).mono ?_
 rintro e w3 ⟨rfl, hb⟩
 have g1 := g1.past hb
 have g2 := g2.past hb
 have xx := xx.past hb lx
 obtain ⟨qx0, qx1, qx2, lx⟩ := bq3 hb lx qx0 qx1 qx2
 have xr := xr.past hb lr
 obtain ⟨qr0, qr1, qr2, lr⟩ := bq3 hb lr qr0 qr1 qr2
 have hB := below_later hB hb
 clear hb
 rw [HC.out]
 go_wp2_with fail
 with_reducible refine (one05_any _).mono ?_
 rintro e w4 ⟨ahV, nhV, chV, rfl, hV, hb⟩
 have hV := hV.mono hB.size
 have g1 := g1.past hb
 have g2 := g2.past hb
 have xx := xx.past hb lx
 obtain ⟨qx0, qx1, qx2, lx⟩ := bq3 hb lx qx0 qx1 qx2
 have xr := xr.past hb lr
 obtain ⟨qr0, qr1, qr2, lr⟩ := bq3 hb lr qr0 qr1 qr2
 have hB := below_later hB hb
 clear hb
 go_wp2_with fail
 with_reducible refine (one05_any _).mono ?_
 rintro e w5 ⟨ahW, nhW, chW, rfl, hW, hb⟩
 have hW := hW.mono hB.size
 have g1 := g1.past hb
 have g2 := g2.past hb
 have hV := hV.past hb
 have xx := xx.past hb lx
 obtain ⟨qx0, qx1, qx2, lx⟩ := bq3 hb lx qx0 qx1 qx2
 have xr := xr.past hb lr
 obtain ⟨qr0, qr1, qr2, lr⟩ := bq3 hb lr qr0 qr1 qr2
 have hB := below_later hB hb
 clear hb
 have hgo := lr
 go_wp2_with fail
 obtain ⟨w6, hW, hz0, hb, q, f⟩ := box1g w5 (w5.heap.size) (by omega) #[.bool false, .slice ahV nhV chV, .slice ahW nhW chW] 30
 rw [hW]
 clear hW
 have g1 := g1.past hb
 have g2 := g2.past hb
 have hV := hV.past hb
 have hW := hW.past hb
 have xx := xx.past hb lx
 obtain ⟨qx0, qx1, qx2, lx⟩ := bq3 hb lx qx0 qx1 qx2
 have xr := xr.past hb lr
 obtain ⟨qr0, qr1, qr2, lr⟩ := bq3 hb lr qr0 qr1 qr2
 have hB := below_later hB hb
 clear hb
 have lo : w5.heap.size < w6.heap.size := by omega
 have qo0 := q 0; have qo1 := q 1; have qo2 := q 2
 simp only [lgA, lgZ, lgS] at qo0 qo1 qo2
 have xo : BoxAt w6 (w5.heap.size) 3 := BoxAt.of q f rfl (by simp [notU_bool, notU_slice, notU_i64])
 clear q f
 clear hz0
 generalize w5.heap.size = BO at *
 go_loopw [7] (fun bt wr => ∃ (j b : Nat) (au : Option Addr) (nu cu : Nat) (ad : Option Addr) (nd cd : Nat), j ≤ 15 ∧ b = 2 ^ j / 2 ∧ bt = .int .i64 (b : Int) ∧ OwnAt wr w.heap.size au nu cu (digs (q ^ (N / 2 ^ j)).num.natAbs) ∧ OwnAt wr w.heap.size ad nd cd (digs (q ^ (N / 2 ^ j)).den) ∧ Below w.heap.size w wr ∧ BO < wr.heap.size ∧ wr.cell? ⟨w.heap.size, 0, none⟩ = some (.bool (neg q.num)) ∧ wr.cell? ⟨w.heap.size, 1, none⟩ = some (.slice a1 n1 c1) ∧ wr.cell? ⟨w.heap.size, 2, none⟩ = some (.slice a2 n2 c2) ∧ wr.cell? ⟨w.heap.size + 1, 0, none⟩ = some (.bool false) ∧ wr.cell? ⟨w.heap.size + 1, 1, none⟩ = some (.slice none 0 0) ∧ wr.cell? ⟨w.heap.size + 1, 2, none⟩ = some (.slice none 0 0) ∧ wr.cell? ⟨BO, 0, none⟩ = some (.bool (neg (q ^ (N / 2 ^ j)).num)) ∧ wr.cell? ⟨BO, 1, none⟩ = some (.slice au nu cu) ∧ wr.cell? ⟨BO, 2, none⟩ = some (.slice ad nd cd) ∧ BoxAt wr (w.heap.size + 1) 3 ∧ BoxAt wr BO 3) (fun bt _ => (intOf bt).toNat)
 case atStart =>
  have e0 : N / 2 ^ 15 = 0 := Nat.div_eq_of_lt (Nat.lt_of_le_of_lt HN.out (by decide))
  refine ⟨15, 16384, ahV, nhV, chV, ahW, nhW, chW, Nat.le_refl _, by decide, rfl, ?_⟩
  rw [e0, Rat.pow_zero]
  exact ⟨hV, hW, hB, lo, qx0, qx1, qx2, qr0, qr1, qr2, qo0, qo1, qo2, xr, xo⟩
 case round =>
  clear g1 g2
  clear hB lo qx0 qx1 qx2 qr0 qr1 qr2 qo0 qo1 qo2 xr xo lx lr xx hV hW
  obtain ⟨j, b, au, nu, cu, ad, nd, cd, hj, hbj, rfl, hU, hD, hB, lo, qx0, qx1, qx2, qr0, qr1, qr2, qo0, qo1, qo2, xr, xo⟩ := hrel
  have lx : w.heap.size < wr.heap.size := by omega
  have lr : w.heap.size + 1 < wr.heap.size := by omega
  by_cases hj0 : j = 0
  · subst hj0
    obtain rfl : b = 0 := by rw [hbj]
    rw [Nat.pow_zero, Nat.div_one] at hU hD qo0
    obtain ⟨P, hP⟩ : ∃ P, q ^ N = P := ⟨_, rfl⟩
    rw [hP] at hU hD qo0
    have HP := Lib.hid hP
    clear hbj hP hj
    have zf0 := xr.f 0 (by decide)
    have zf1 := xr.f 1 (by decide)
    have zf2 := xr.f 2 (by decide)
    go_wp2
    obtain ⟨w1, hW, hO, qN0, qN1, qN2, xN⟩ := store3 xr (.bool (neg P.num)) (.slice au nu cu) (.slice ad nd cd) (Go.Proofs.YtmhjhhcdjecdbaaGreat.nu rfl) (Go.Proofs.YtmhjhhcdjecdbaaGreat.nu rfl) (Go.Proofs.YtmhjhhcdjecdbaaGreat.nu rfl)
    try rw [hW]
    clear hW
    have hU := hO.own hU
    have hD := hO.own hD
    have qx0 := (hO.cell (b2 := w.heap.size) (k := 0) (by omega)).trans qx0
    have qx1 := (hO.cell (b2 := w.heap.size) (k := 1) (by omega)).trans qx1
    have qx2 := (hO.cell (b2 := w.heap.size) (k := 2) (by omega)).trans qx2
    have lx : w.heap.size < w1.heap.size := by rw [hO.size]; exact lx
    have lr : w.heap.size + 1 < w1.heap.size := by rw [hO.size]; exact lr
    have qo0 := (hO.cell (b2 := BO) (k := 0) (by omega)).trans qo0
    have qo1 := (hO.cell (b2 := BO) (k := 1) (by omega)).trans qo1
    have qo2 := (hO.cell (b2 := BO) (k := 2) (by omega)).trans qo2
    have xo := hO.box xo
    have lo : BO < w1.heap.size := by rw [hO.size]; exact lo
    have qr0 := qN0
    have qr1 := qN1
    have qr2 := qN2
    have xr := xN
    have hB := hO.below (by omega) hB
    clear hO qN0 qN1 qN2 xN zf0 zf1 zf2
    obtain rfl := HP.out
    refine bodyPost_ret (v := .tuple #[.agg #[.bool (neg (q ^ N).num), .slice au nu cu, .slice ad nd cd], .int .i64 0]) ?_ rfl ⟨_, _, _, _, _, _, rfl, hU, hD, hB⟩
    simp [results, Tryz.f20, go_sem, qr0, qr1, qr2]
  · obtain ⟨i, rfl⟩ : ∃ i, j = i + 1 := ⟨j - 1, by omega⟩
    have hb2 : b = 2 ^ i := by rw [hbj, Nat.pow_succ, Nat.mul_div_cancel _ (by decide)]
    have hbb : 2 ^ i ≤ 16384 := Nat.pow_le_pow_right (n := 2) (by decide) (show i ≤ 14 by omega)
    have hb0 : 0 < 2 ^ i := Nat.pow_pos (by decide)
    have hq : N / 2 ^ (i + 1) = N / 2 ^ i / 2 := by rw [Nat.pow_succ, Nat.div_div_eq_div_mul]
    have hle : N / 2 ^ (i + 1) ≤ N := Nat.div_le_self _ _
    have hle2 : 2 * (N / 2 ^ (i + 1)) ≤ N := by rw [hq]; have := Nat.div_le_self N (2 ^ i); omega
    have hn1 := HLEN.out (N / 2 ^ (i + 1)) hle
    have hn2 := HLEN.out (2 * (N / 2 ^ (i + 1))) hle2
    have es1 := pow_num q (N / 2 ^ (i + 1)) (N / 2 ^ (i + 1))
    have es2 := pow_den q (N / 2 ^ (i + 1)) (N / 2 ^ (i + 1))
    rw [show N / 2 ^ (i + 1) + N / 2 ^ (i + 1) = 2 * (N / 2 ^ (i + 1)) by omega] at es1 es2
    have va := and_pow N i (by have := HN.out; omega) (by omega)
    rw [← hb2] at va hbb hb0
    have hnext : b / 2 = 2 ^ i / 2 := by rw [hb2]
    have HNX := Lib.hid hnext
    have hi15 : i ≤ 15 := by omega
    have et1 := pow_num q (2 * (N / 2 ^ (i + 1))) 1
    have et2 := pow_den q (2 * (N / 2 ^ (i + 1))) 1
    rw [Rat.pow_one] at et1 et2
    have g1 := g10.past hB
    have g2 := g20.past hB
    obtain ⟨P, hP⟩ : ∃ P, q ^ (N / 2 ^ (i + 1)) = P := ⟨_, rfl⟩
    rw [hP] at hU hD qo0 es1 es2 hn1
    obtain ⟨P2, hP2⟩ : ∃ P2, q ^ (2 * (N / 2 ^ (i + 1))) = P2 := ⟨_, rfl⟩
    rw [hP2] at es1 es2 et1 et2 hn2
    have es2 : val (digs P.den) * val (digs P.den) = P2.den := by rw [val_digs]; exact es2
    have bu : nu ≤ 17179869184 := by have := hU.len; unfold rlen at hn1; omega
    have bd : nd ≤ 17179869184 := by have := hD.len; unfold rlen at hn1; omega
    unfold rlen at hn2
    have HN2 := Lib.hid hn2
    have ES1 := Lib.hid es1
    have ES2 := Lib.hid es2
    by_cases hbit : N / 2 ^ i % 2 = 1
    · have va2 : bits .and .i64 (N : Int) (b : Int) = (b : Int) := by rw [va, hb2, hbit, Nat.one_mul]
      have hexp : 2 * (N / 2 ^ (i + 1)) + 1 = N / 2 ^ i := by rw [hq]; omega
      rw [hexp] at et1 et2
      obtain ⟨P3, hP3⟩ : ∃ P3, q ^ (N / 2 ^ i) = P3 := ⟨_, rfl⟩
      rw [hP3] at et1 et2
      have et2 : val (digs P2.den) * val (digs q.den) = P3.den := by rw [val_digs, val_digs]; exact et2
      have ET1 := Lib.hid et1
      have ET2 := Lib.hid et2
      have HP3 := Lib.hid hP3
      clear va hbit hexp hq hle hle2 hn1 hn2 es1 es2 et1 et2 hnext hbj hb2 hj hj0 hP hP2 hP3
      go_wp2_with fail
      have szW := hB.size
      refine wp_region_inv (by kernel_rfl) rfl (by kernel_rfl) (fun A0 V0 dd aa ww => ∃ (y47 y48 y49 y50 y51 y52 y53 y54 y55 : Value), aa = puts A0 [(47, y47), (48, y48), (49, y49), (50, y50), (51, y51), (52, y52), (53, y53), (54, y54), (55, y55)] ∧ Below (w).heap.size (w) ww ∧ V0.heap.size ≤ ww.heap.size ∧ OwnAt ww w.heap.size au nu cu (digs P.num.natAbs) ∧ OwnAt ww w.heap.size ad nd cd (digs P.den) ∧ NatAt ww a1 n1 c1 (digs q.num.natAbs) ∧ NatAt ww a2 n2 c2 (digs q.den) ∧ Cells ww (w.heap.size) [.bool (neg q.num), .slice a1 n1 c1, .slice a2 n2 c2] ∧ Cells ww (w.heap.size + 1) [.bool false, .slice none 0 0, .slice none 0 0] ∧ BoxAt ww (w.heap.size + 1) 3 ∧ BoxAt ww (BO) 3 ∧ Shut (dd 9 = false → Cells ww (BO) [.bool (neg P.num), .slice au nu cu, .slice ad nd cd]) ∧ Shut (dd 0 = true → y47 = .pointer (some ⟨BO, 0, none⟩)) ∧ Shut (dd 1 = true → y48 = .agg #[.bool (neg P.num), .slice au nu cu]) ∧ Shut (dd 2 = true → y49 = .pointer (some ⟨BO, 0, none⟩)) ∧ Shut (dd 3 = true → y50 = .agg #[.bool (neg P.num), .slice au nu cu]) ∧ Shut (dd 4 = true → CopyV V0.heap.size (neg P2.num) (digs P2.num.natAbs) y51 ww) ∧ Shut (dd 5 = true → y52 = .pointer (some ⟨BO, 2, none⟩)) ∧ Shut (dd 6 = true → y53 = .slice ad nd cd) ∧ Shut (dd 7 = true → NatV V0.heap.size (digs P2.den) y54 ww) ∧ Shut (dd 8 = true → y55 = bld [y51, y54]) ∧ Shut (dd 9 = true → CellsV (BO) y55 ww) ∧ True) ?_ ?_ ?_
      · exact ⟨_, _, _, _, _, _, _, _, _, puts_self _ [47, 48, 49, 50, 51, 52, 53, 54, 55], hB.drew, Nat.le_refl _, hU.drew, hD.drew, g1.drew, g2.drew, (by intro k hk; simp at hk; rcases (by omega : k = 0 ∨ k = 1 ∨ k = 2) with rfl | rfl | rfl <;> assumption), (by intro k hk; simp at hk; rcases (by omega : k = 0 ∨ k = 1 ∨ k = 2) with rfl | rfl | rfl <;> assumption), xr.drew, xo.drew, (fun _ => by intro k hk; simp at hk; rcases (by omega : k = 0 ∨ k = 1 ∨ k = 2) with rfl | rfl | rfl <;> assumption), fun h => (by cases h), fun h => (by cases h), fun h => (by cases h), fun h => (by cases h), fun h => (by cases h), fun h => (by cases h), fun h => (by cases h), fun h => (by cases h), fun h => (by cases h), fun h => (by cases h), trivial⟩
      · refine Steps.cons ?_ (Steps.cons ?_ (Steps.cons ?_ (Steps.cons ?_ (Steps.cons ?_ (Steps.cons ?_ (Steps.cons ?_ (Steps.cons ?_ (Steps.cons ?_ (Steps.cons ?_ (Steps.nil))))))))))
        · intro dd aa ww K hc hun hn hI hK
          obtain ⟨y47, y48, y49, y50, y51, y52, y53, y54, y55, ea, hb, hsz, vhU, vhD, vg1, vg2, cx, cr, xr, xo, po, f0, f1, f2, f3, f4, f5, f6, f7, f8, f9, _⟩ := hI
          try simp [Region.binds] at hn
          subst ea
          simp only [puts, Act.put, lsA, lsZ, lsS]
          go_simp
          refine hK.out _ _ ?_
          exact ⟨.pointer (some ⟨BO, 0, none⟩), y48, y49, y50, y51, y52, y53, y54, y55, by simp only [puts, Act.put, lsA, lsZ, lsS], hb, hsz, vhU, vhD, vg1, vg2, cx, cr, xr, xo, fun h => (po.out (upd_off h)), fun _ => rfl, uo f1 rfl, uo f2 rfl, uo f3 rfl, uo f4 rfl, uo f5 rfl, uo f6 rfl, uo f7 rfl, uo f8 rfl, uo f9 rfl, trivial⟩
        · intro dd aa ww K hc hun hn hI hK
          obtain ⟨y47, y48, y49, y50, y51, y52, y53, y54, y55, ea, hb, hsz, vhU, vhD, vg1, vg2, cx, cr, xr, xo, po, f0, f1, f2, f3, f4, f5, f6, f7, f8, f9, _⟩ := hI
          try simp [Region.binds] at hn
          have ex := f0.out (by first | (simp [hn]; done) | exact rc hc hn | exact rc hc hn.1 | exact rc hc hn.2 | exact rc hc hn.2.1 | exact rc hc hn.2.2)
          subst ex
          have hs := hc.not (f := 8) (s := 9) (l := 1) (by kernel_rfl) hun
          have e0 := po.out hs 0 (by simp)
          simp only [lgZ, lgS] at e0
          have e1 := po.out hs 1 (by simp)
          simp only [lgZ, lgS] at e1
          subst ea
          simp only [puts, Act.put, lsA, lsZ, lsS]
          go_simp
          refine hK.out _ _ ?_
          exact ⟨.pointer (some ⟨BO, 0, none⟩), .agg #[.bool (neg P.num), .slice au nu cu], y49, y50, y51, y52, y53, y54, y55, by simp only [puts, Act.put, lsA, lsZ, lsS], hb, hsz, vhU, vhD, vg1, vg2, cx, cr, xr, xo, fun h => (po.out (upd_off h)), fun h => rfl, fun _ => rfl, uo f2 rfl, uo f3 rfl, uo f4 rfl, uo f5 rfl, uo f6 rfl, uo f7 rfl, uo f8 rfl, uo f9 rfl, trivial⟩
        · intro dd aa ww K hc hun hn hI hK
          obtain ⟨y47, y48, y49, y50, y51, y52, y53, y54, y55, ea, hb, hsz, vhU, vhD, vg1, vg2, cx, cr, xr, xo, po, f0, f1, f2, f3, f4, f5, f6, f7, f8, f9, _⟩ := hI
          try simp [Region.binds] at hn
          subst ea
          simp only [puts, Act.put, lsA, lsZ, lsS]
          go_simp
          refine hK.out _ _ ?_
          exact ⟨y47, y48, .pointer (some ⟨BO, 0, none⟩), y50, y51, y52, y53, y54, y55, by simp only [puts, Act.put, lsA, lsZ, lsS], hb, hsz, vhU, vhD, vg1, vg2, cx, cr, xr, xo, fun h => (po.out (upd_off h)), uo f0 rfl, uo f1 rfl, fun _ => rfl, uo f3 rfl, uo f4 rfl, uo f5 rfl, uo f6 rfl, uo f7 rfl, uo f8 rfl, uo f9 rfl, trivial⟩
        · intro dd aa ww K hc hun hn hI hK
          obtain ⟨y47, y48, y49, y50, y51, y52, y53, y54, y55, ea, hb, hsz, vhU, vhD, vg1, vg2, cx, cr, xr, xo, po, f0, f1, f2, f3, f4, f5, f6, f7, f8, f9, _⟩ := hI
          try simp [Region.binds] at hn
          have ex := f2.out (by first | (simp [hn]; done) | exact rc hc hn | exact rc hc hn.1 | exact rc hc hn.2 | exact rc hc hn.2.1 | exact rc hc hn.2.2)
          subst ex
          have hs := hc.not (f := 8) (s := 9) (l := 3) (by kernel_rfl) hun
          have e0 := po.out hs 0 (by simp)
          simp only [lgZ, lgS] at e0
          have e1 := po.out hs 1 (by simp)
          simp only [lgZ, lgS] at e1
          subst ea
          simp only [puts, Act.put, lsA, lsZ, lsS]
          go_simp
          refine hK.out _ _ ?_
          exact ⟨y47, y48, .pointer (some ⟨BO, 0, none⟩), .agg #[.bool (neg P.num), .slice au nu cu], y51, y52, y53, y54, y55, by simp only [puts, Act.put, lsA, lsZ, lsS], hb, hsz, vhU, vhD, vg1, vg2, cx, cr, xr, xo, fun h => (po.out (upd_off h)), uo f0 rfl, uo f1 rfl, fun h => rfl, fun _ => rfl, uo f4 rfl, uo f5 rfl, uo f6 rfl, uo f7 rfl, uo f8 rfl, uo f9 rfl, trivial⟩
        · intro dd aa ww K hc hun hn hI hK
          obtain ⟨y47, y48, y49, y50, y51, y52, y53, y54, y55, ea, hb, hsz, vhU, vhD, vg1, vg2, cx, cr, xr, xo, po, f0, f1, f2, f3, f4, f5, f6, f7, f8, f9, _⟩ := hI
          try simp [Region.binds] at hn
          have ex := f1.out (by first | (simp [hn]; done) | exact rc hc hn | exact rc hc hn.1 | exact rc hc hn.2 | exact rc hc hn.2.1 | exact rc hc hn.2.2)
          subst ex
          have ex := f3.out (by first | (simp [hn]; done) | exact rc hc hn | exact rc hc hn.1 | exact rc hc hn.2 | exact rc hc hn.2.1 | exact rc hc hn.2.2)
          subst ex
          subst ea
          simp only [puts, Act.put, lsA, lsZ, lsS]
          go_simp
          with_reducible refine (smul_c vhU.toNatAt vhU.toNatAt (by omega) (by omega)).mono ?_
          rintro e w1 ⟨ahX, nhX, chX, rfl, hX, h1⟩
          rw [ES1.out] at hX ⊢
          refine hK.out _ _ ?_
          exact ⟨y47, .agg #[.bool (neg P.num), .slice au nu cu], y49, .agg #[.bool (neg P.num), .slice au nu cu], .agg #[.bool (neg P2.num), .slice ahX nhX chX], y52, y53, y54, y55, by simp only [puts, Act.put, lsA, lsZ, lsS], below_later hb h1, Nat.le_trans hsz h1.size, vhU.past h1, vhD.past h1, vg1.past h1, vg2.past h1, cx.past h1 (Nat.lt_of_lt_of_le lx hsz), cr.past h1 (Nat.lt_of_lt_of_le lr hsz), xr.past h1 (Nat.lt_of_lt_of_le lr hsz), xo.past h1 (Nat.lt_of_lt_of_le lo hsz), fun h => (po.out (upd_off h)).past h1 (Nat.lt_of_lt_of_le lo hsz), uo f0 rfl, fun h => rfl, uo f2 rfl, fun h => rfl, fun _ => ⟨_, _, _, rfl, hX.mono hsz⟩, uo f5 rfl, uo f6 rfl, fun h => (f7.out (upd_of rfl h)).past h1, fun h => absurd (hc.reach (f := 8) (s := 8) (l := 4) (by kernel_rfl) (upd_of rfl h)) (by rw [hun]; decide), fun h => (f9.out (upd_of rfl h)).past h1 (Nat.lt_of_lt_of_le lo hsz), trivial⟩
        · intro dd aa ww K hc hun hn hI hK
          obtain ⟨y47, y48, y49, y50, y51, y52, y53, y54, y55, ea, hb, hsz, vhU, vhD, vg1, vg2, cx, cr, xr, xo, po, f0, f1, f2, f3, f4, f5, f6, f7, f8, f9, _⟩ := hI
          try simp [Region.binds] at hn
          subst ea
          simp only [puts, Act.put, lsA, lsZ, lsS]
          go_simp
          refine hK.out _ _ ?_
          exact ⟨y47, y48, y49, y50, y51, .pointer (some ⟨BO, 2, none⟩), y53, y54, y55, by simp only [puts, Act.put, lsA, lsZ, lsS], hb, hsz, vhU, vhD, vg1, vg2, cx, cr, xr, xo, fun h => (po.out (upd_off h)), uo f0 rfl, uo f1 rfl, uo f2 rfl, uo f3 rfl, uo f4 rfl, fun _ => rfl, uo f6 rfl, uo f7 rfl, uo f8 rfl, uo f9 rfl, trivial⟩
        · intro dd aa ww K hc hun hn hI hK
          obtain ⟨y47, y48, y49, y50, y51, y52, y53, y54, y55, ea, hb, hsz, vhU, vhD, vg1, vg2, cx, cr, xr, xo, po, f0, f1, f2, f3, f4, f5, f6, f7, f8, f9, _⟩ := hI
          try simp [Region.binds] at hn
          have ex := f5.out (by first | (simp [hn]; done) | exact rc hc hn | exact rc hc hn.1 | exact rc hc hn.2 | exact rc hc hn.2.1 | exact rc hc hn.2.2)
          subst ex
          have hs := hc.not (f := 8) (s := 9) (l := 6) (by kernel_rfl) hun
          have e2 := po.out hs 2 (by simp)
          simp only [lgZ, lgS] at e2
          subst ea
          simp only [puts, Act.put, lsA, lsZ, lsS]
          go_simp
          refine hK.out _ _ ?_
          exact ⟨y47, y48, y49, y50, y51, .pointer (some ⟨BO, 2, none⟩), .slice ad nd cd, y54, y55, by simp only [puts, Act.put, lsA, lsZ, lsS], hb, hsz, vhU, vhD, vg1, vg2, cx, cr, xr, xo, fun h => (po.out (upd_off h)), uo f0 rfl, uo f1 rfl, uo f2 rfl, uo f3 rfl, uo f4 rfl, fun h => rfl, fun _ => rfl, uo f7 rfl, uo f8 rfl, uo f9 rfl, trivial⟩
        · intro dd aa ww K hc hun hn hI hK
          obtain ⟨y47, y48, y49, y50, y51, y52, y53, y54, y55, ea, hb, hsz, vhU, vhD, vg1, vg2, cx, cr, xr, xo, po, f0, f1, f2, f3, f4, f5, f6, f7, f8, f9, _⟩ := hI
          try simp [Region.binds] at hn
          have ex := f6.out (by first | (simp [hn]; done) | exact rc hc hn | exact rc hc hn.1 | exact rc hc hn.2 | exact rc hc hn.2.1 | exact rc hc hn.2.2)
          subst ex
          subst ea
          simp only [puts, Act.put, lsA, lsZ, lsS]
          go_simp
          with_reducible refine (square_any _ _ _ (digs P.den) _ vhD.toNatAt (by omega)).mono ?_
          rintro e w1 ⟨ahY, nhY, chY, rfl, hY, h1⟩
          rw [ES2.out] at hY
          refine hK.out _ _ ?_
          exact ⟨y47, y48, y49, y50, y51, y52, .slice ad nd cd, .slice ahY nhY chY, y55, by simp only [puts, Act.put, lsA, lsZ, lsS], below_later hb h1, Nat.le_trans hsz h1.size, vhU.past h1, vhD.past h1, vg1.past h1, vg2.past h1, cx.past h1 (Nat.lt_of_lt_of_le lx hsz), cr.past h1 (Nat.lt_of_lt_of_le lr hsz), xr.past h1 (Nat.lt_of_lt_of_le lr hsz), xo.past h1 (Nat.lt_of_lt_of_le lo hsz), fun h => (po.out (upd_off h)).past h1 (Nat.lt_of_lt_of_le lo hsz), uo f0 rfl, uo f1 rfl, uo f2 rfl, uo f3 rfl, fun h => (f4.out (upd_of rfl h)).past h1, uo f5 rfl, fun h => rfl, fun _ => ⟨_, _, _, rfl, hY.mono hsz⟩, fun h => absurd (hc.reach (f := 8) (s := 8) (l := 7) (by kernel_rfl) (upd_of rfl h)) (by rw [hun]; decide), fun h => (f9.out (upd_of rfl h)).past h1 (Nat.lt_of_lt_of_le lo hsz), trivial⟩
        · intro dd aa ww K hc hun hn hI hK
          obtain ⟨y47, y48, y49, y50, y51, y52, y53, y54, y55, ea, hb, hsz, vhU, vhD, vg1, vg2, cx, cr, xr, xo, po, f0, f1, f2, f3, f4, f5, f6, f7, f8, f9, _⟩ := hI
          try simp [Region.binds] at hn
          obtain ⟨ahX, nhX, chX, ex, hX⟩ := f4.out (by first | (simp [hn]; done) | exact rc hc hn | exact rc hc hn.1 | exact rc hc hn.2 | exact rc hc hn.2.1 | exact rc hc hn.2.2)
          subst ex
          obtain ⟨ahY, nhY, chY, ex, hY⟩ := f7.out (by first | (simp [hn]; done) | exact rc hc hn | exact rc hc hn.1 | exact rc hc hn.2 | exact rc hc hn.2.1 | exact rc hc hn.2.2)
          subst ex
          subst ea
          simp only [puts, Act.put, lsA, lsZ, lsS]
          go_simp
          refine hK.out _ _ ?_
          exact ⟨y47, y48, y49, y50, .agg #[.bool (neg P2.num), .slice ahX nhX chX], y52, y53, .slice ahY nhY chY, .agg #[.bool (neg P2.num), .slice ahX nhX chX, .slice ahY nhY chY], by simp only [puts, Act.put, lsA, lsZ, lsS], hb, hsz, vhU, vhD, vg1, vg2, cx, cr, xr, xo, fun h => (po.out (upd_off h)), uo f0 rfl, uo f1 rfl, uo f2 rfl, uo f3 rfl, uo f4 rfl, uo f5 rfl, uo f6 rfl, uo f7 rfl, fun _ => rfl, fun h => absurd (hc.reach (f := 8) (s := 9) (l := 8) (by kernel_rfl) (upd_of rfl h)) (by rw [hun]; decide), trivial⟩
        · intro dd aa ww K hc hun hn hI hK
          obtain ⟨y47, y48, y49, y50, y51, y52, y53, y54, y55, ea, hb, hsz, vhU, vhD, vg1, vg2, cx, cr, xr, xo, po, f0, f1, f2, f3, f4, f5, f6, f7, f8, f9, _⟩ := hI
          try simp [Region.binds] at hn
          obtain ⟨ahX, nhX, chX, ex, hX⟩ := f4.out (by first | (simp [hn]; done) | exact rc hc hn | exact rc hc hn.1 | exact rc hc hn.2 | exact rc hc hn.2.1 | exact rc hc hn.2.2)
          subst ex
          obtain ⟨ahY, nhY, chY, ex, hY⟩ := f7.out (by first | (simp [hn]; done) | exact rc hc hn | exact rc hc hn.1 | exact rc hc hn.2 | exact rc hc hn.2.1 | exact rc hc hn.2.2)
          subst ex
          have ex : y55 = .agg #[.bool (neg P2.num), .slice ahX nhX chX, .slice ahY nhY chY] := f8.out (by first | (simp [hn]; done) | exact rc hc hn | exact rc hc hn.1 | exact rc hc hn.2 | exact rc hc hn.2.1 | exact rc hc hn.2.2)
          subst ex
          have x3 := xo
          obtain ⟨v0, v1, v2, z0, z1, z2, z3, z4, z5, _, _, _⟩ := x3.three
          have hv : ∀ v ∈ ([.bool (neg P2.num), .slice ahX nhX chX, .slice ahY nhY chY] : List Value), notU v := by simp [notU_bool, notU_slice, notU_i64]
          subst ea
          simp only [puts, Act.put, lsA, lsZ, lsS]
          go_simp
          refine hK.out _ _ ?_
          exact ⟨y47, y48, y49, y50, .agg #[.bool (neg P2.num), .slice ahX nhX chX], y52, y53, .slice ahY nhY chY, .agg #[.bool (neg P2.num), .slice ahX nhX chX, .slice ahY nhY chY], by simp only [puts, Act.put, lsA, lsZ, lsS], hb.trans (below_setCells _ _ (by omega) [.bool (neg P2.num), .slice ahX nhX chX, .slice ahY nhY chY] 0 _), (by simpa using hsz), OwnAt.sets [.bool (neg P2.num), .slice ahX nhX chX, .slice ahY nhY chY] 0 _ vhU x3 (by simp) hv, OwnAt.sets [.bool (neg P2.num), .slice ahX nhX chX, .slice ahY nhY chY] 0 _ vhD x3 (by simp) hv, NatAt.sets [.bool (neg P2.num), .slice ahX nhX chX, .slice ahY nhY chY] 0 _ vg1 x3 (by simp) hv, NatAt.sets [.bool (neg P2.num), .slice ahX nhX chX, .slice ahY nhY chY] 0 _ vg2 x3 (by simp) hv, Cells.sets (by omega) [.bool (neg P2.num), .slice ahX nhX chX, .slice ahY nhY chY] 0 _ cx, Cells.sets (by omega) [.bool (neg P2.num), .slice ahX nhX chX, .slice ahY nhY chY] 0 _ cr, BoxAt.sets [.bool (neg P2.num), .slice ahX nhX chX, .slice ahY nhY chY] _ 0 _ xr hv, BoxAt.sets [.bool (neg P2.num), .slice ahX nhX chX, .slice ahY nhY chY] _ 0 _ xo hv, fun h => absurd h (by simp [upd]), uo f0 rfl, uo f1 rfl, uo f2 rfl, uo f3 rfl, fun h => ((f4.out (upd_of rfl h)).setsOff lo [.bool (neg P2.num), .slice ahX nhX chX, .slice ahY nhY chY]), uo f5 rfl, uo f6 rfl, fun h => ((f7.out (upd_of rfl h)).setsOff lo [.bool (neg P2.num), .slice ahX nhX chX, .slice ahY nhY chY]), fun h => rfl, fun _ => ⟨[.bool (neg P2.num), .slice ahX nhX chX, .slice ahY nhY chY], rfl, Cells.new x3 [.bool (neg P2.num), .slice ahX nhX chX, .slice ahY nhY chY] (by simp)⟩, trivial⟩
      intro dd aa w1 hd hI
      obtain ⟨y47, y48, y49, y50, y51, y52, y53, y54, y55, ea, hb, hsz, vhU, vhD, vg1, vg2, cx, cr, xr, xo, po, f0, f1, f2, f3, f4, f5, f6, f7, f8, f9, _⟩ := hI
      have ex := f0.out (hd 0 (by simp))
      subst ex
      have ex := f1.out (hd 1 (by simp))
      subst ex
      have ex := f2.out (hd 2 (by simp))
      subst ex
      have ex := f3.out (hd 3 (by simp))
      subst ex
      obtain ⟨ahX, nhX, chX, ex, hX⟩ := f4.out (hd 4 (by simp))
      subst ex
      have ex := f5.out (hd 5 (by simp))
      subst ex
      have ex := f6.out (hd 6 (by simp))
      subst ex
      obtain ⟨ahY, nhY, chY, ex, hY⟩ := f7.out (hd 7 (by simp))
      subst ex
      have ex : y55 = .agg #[.bool (neg P2.num), .slice ahX nhX chX, .slice ahY nhY chY] := f8.out (hd 8 (by simp))
      subst ex
      obtain ⟨vs9, e, h9⟩ := f9.out (hd 9 (by simp))
      cases e
      have lo := Nat.lt_of_lt_of_le lo hsz
      have qo0 := h9 0 (by simp)
      simp only [lgZ, lgS] at qo0
      have qo1 := h9 1 (by simp)
      simp only [lgZ, lgS] at qo1
      have qo2 := h9 2 (by simp)
      simp only [lgZ, lgS] at qo2
      subst ea
      simp only [puts, Act.put, lsA, lsZ, lsS]
      have hX := hX.mono szW
      have hY := hY.mono szW
      have hU := vhU
      have hD := vhD
      have g1 := vg1
      have g2 := vg2
      have lx := Nat.lt_of_lt_of_le lx hsz
      have qx0 := cx 0 (by simp)
      simp only [lgZ, lgS] at qx0
      have qx1 := cx 1 (by simp)
      simp only [lgZ, lgS] at qx1
      have qx2 := cx 2 (by simp)
      simp only [lgZ, lgS] at qx2
      clear cx
      have lr := Nat.lt_of_lt_of_le lr hsz
      have qr0 := cr 0 (by simp)
      simp only [lgZ, lgS] at qr0
      have qr1 := cr 1 (by simp)
      simp only [lgZ, lgS] at qr1
      have qr2 := cr 2 (by simp)
      simp only [lgZ, lgS] at qr2
      clear cr
      have hB := hb
      clear po
      clear hb hd
      have bX : nhX ≤ 17179869184 := by have := hX.len; have := HN2.out; omega
      have bY : nhY ≤ 17179869184 := by have := hY.len; have := HN2.out; omega
      go_wp2_with fail
      have szW := hB.size
      refine wp_region_inv (by kernel_rfl) rfl (by kernel_rfl) (fun A0 V0 dd aa ww => ∃ (y60 y61 y62 y63 y64 y65 y66 y67 y68 y69 y70 : Value), aa = puts A0 [(60, y60), (61, y61), (62, y62), (63, y63), (64, y64), (65, y65), (66, y66), (67, y67), (68, y68), (69, y69), (70, y70)] ∧ Below (w).heap.size (w) ww ∧ V0.heap.size ≤ ww.heap.size ∧ OwnAt ww w.heap.size ahX nhX chX (digs P2.num.natAbs) ∧ OwnAt ww w.heap.size ahY nhY chY (digs P2.den) ∧ NatAt ww a1 n1 c1 (digs q.num.natAbs) ∧ NatAt ww a2 n2 c2 (digs q.den) ∧ Cells ww (w.heap.size) [.bool (neg q.num), .slice a1 n1 c1, .slice a2 n2 c2] ∧ Cells ww (w.heap.size + 1) [.bool false, .slice none 0 0, .slice none 0 0] ∧ BoxAt ww (w.heap.size + 1) 3 ∧ BoxAt ww (BO) 3 ∧ Shut (dd 11 = false → Cells ww (BO) [.bool (neg P2.num), .slice ahX nhX chX, .slice ahY nhY chY]) ∧ Shut (dd 0 = true → y60 = .pointer (some ⟨BO, 0, none⟩)) ∧ Shut (dd 1 = true → y61 = .agg #[.bool (neg P2.num), .slice ahX nhX chX]) ∧ Shut (dd 2 = true → y62 = .pointer (some ⟨w.heap.size, 0, none⟩)) ∧ Shut (dd 3 = true → y63 = .agg #[.bool (neg q.num), .slice a1 n1 c1]) ∧ Shut (dd 4 = true → CopyV V0.heap.size (neg P3.num) (digs P3.num.natAbs) y64 ww) ∧ Shut (dd 5 = true → y65 = .pointer (some ⟨BO, 2, none⟩)) ∧ Shut (dd 6 = true → y66 = .slice ahY nhY chY) ∧ Shut (dd 7 = true → y67 = .pointer (some ⟨w.heap.size, 2, none⟩)) ∧ Shut (dd 8 = true → y68 = .slice a2 n2 c2) ∧ Shut (dd 9 = true → NatV V0.heap.size (digs P3.den) y69 ww) ∧ Shut (dd 10 = true → y70 = bld [y64, y69]) ∧ Shut (dd 11 = true → CellsV (BO) y70 ww) ∧ True) ?_ ?_ ?_
      · exact ⟨_, _, _, _, _, _, _, _, _, _, _, puts_self _ [60, 61, 62, 63, 64, 65, 66, 67, 68, 69, 70], hB.drew, Nat.le_refl _, hX.drew, hY.drew, g1.drew, g2.drew, (by intro k hk; simp at hk; rcases (by omega : k = 0 ∨ k = 1 ∨ k = 2) with rfl | rfl | rfl <;> assumption), (by intro k hk; simp at hk; rcases (by omega : k = 0 ∨ k = 1 ∨ k = 2) with rfl | rfl | rfl <;> assumption), xr.drew, xo.drew, (fun _ => by intro k hk; simp at hk; rcases (by omega : k = 0 ∨ k = 1 ∨ k = 2) with rfl | rfl | rfl <;> assumption), fun h => (by cases h), fun h => (by cases h), fun h => (by cases h), fun h => (by cases h), fun h => (by cases h), fun h => (by cases h), fun h => (by cases h), fun h => (by cases h), fun h => (by cases h), fun h => (by cases h), fun h => (by cases h), fun h => (by cases h), trivial⟩
      · refine Steps.cons ?_ (Steps.cons ?_ (Steps.cons ?_ (Steps.cons ?_ (Steps.cons ?_ (Steps.cons ?_ (Steps.cons ?_ (Steps.cons ?_ (Steps.cons ?_ (Steps.cons ?_ (Steps.cons ?_ (Steps.cons ?_ (Steps.nil))))))))))))
        · intro dd aa ww K hc hun hn hI hK
          obtain ⟨y60, y61, y62, y63, y64, y65, y66, y67, y68, y69, y70, ea, hb, hsz, vhX, vhY, vg1, vg2, cx, cr, xr, xo, po, f0, f1, f2, f3, f4, f5, f6, f7, f8, f9, f10, f11, _⟩ := hI
          try simp [Region.binds] at hn
          subst ea
          simp only [puts, Act.put, lsA, lsZ, lsS]
          go_simp
          refine hK.out _ _ ?_
          exact ⟨.pointer (some ⟨BO, 0, none⟩), y61, y62, y63, y64, y65, y66, y67, y68, y69, y70, by simp only [puts, Act.put, lsA, lsZ, lsS], hb, hsz, vhX, vhY, vg1, vg2, cx, cr, xr, xo, fun h => (po.out (upd_off h)), fun _ => rfl, uo f1 rfl, uo f2 rfl, uo f3 rfl, uo f4 rfl, uo f5 rfl, uo f6 rfl, uo f7 rfl, uo f8 rfl, uo f9 rfl, uo f10 rfl, uo f11 rfl, trivial⟩
        · intro dd aa ww K hc hun hn hI hK
          obtain ⟨y60, y61, y62, y63, y64, y65, y66, y67, y68, y69, y70, ea, hb, hsz, vhX, vhY, vg1, vg2, cx, cr, xr, xo, po, f0, f1, f2, f3, f4, f5, f6, f7, f8, f9, f10, f11, _⟩ := hI
          try simp [Region.binds] at hn
          have ex := f0.out (by first | (simp [hn]; done) | exact rc hc hn | exact rc hc hn.1 | exact rc hc hn.2 | exact rc hc hn.2.1 | exact rc hc hn.2.2)
          subst ex
          have hs := hc.not (f := 8) (s := 11) (l := 1) (by kernel_rfl) hun
          have e0 := po.out hs 0 (by simp)
          simp only [lgZ, lgS] at e0
          have e1 := po.out hs 1 (by simp)
          simp only [lgZ, lgS] at e1
          subst ea
          simp only [puts, Act.put, lsA, lsZ, lsS]
          go_simp
          refine hK.out _ _ ?_
          exact ⟨.pointer (some ⟨BO, 0, none⟩), .agg #[.bool (neg P2.num), .slice ahX nhX chX], y62, y63, y64, y65, y66, y67, y68, y69, y70, by simp only [puts, Act.put, lsA, lsZ, lsS], hb, hsz, vhX, vhY, vg1, vg2, cx, cr, xr, xo, fun h => (po.out (upd_off h)), fun h => rfl, fun _ => rfl, uo f2 rfl, uo f3 rfl, uo f4 rfl, uo f5 rfl, uo f6 rfl, uo f7 rfl, uo f8 rfl, uo f9 rfl, uo f10 rfl, uo f11 rfl, trivial⟩
        · intro dd aa ww K hc hun hn hI hK
          obtain ⟨y60, y61, y62, y63, y64, y65, y66, y67, y68, y69, y70, ea, hb, hsz, vhX, vhY, vg1, vg2, cx, cr, xr, xo, po, f0, f1, f2, f3, f4, f5, f6, f7, f8, f9, f10, f11, _⟩ := hI
          try simp [Region.binds] at hn
          subst ea
          simp only [puts, Act.put, lsA, lsZ, lsS]
          go_simp
          refine hK.out _ _ ?_
          exact ⟨y60, y61, .pointer (some ⟨w.heap.size, 0, none⟩), y63, y64, y65, y66, y67, y68, y69, y70, by simp only [puts, Act.put, lsA, lsZ, lsS], hb, hsz, vhX, vhY, vg1, vg2, cx, cr, xr, xo, fun h => (po.out (upd_off h)), uo f0 rfl, uo f1 rfl, fun _ => rfl, uo f3 rfl, uo f4 rfl, uo f5 rfl, uo f6 rfl, uo f7 rfl, uo f8 rfl, uo f9 rfl, uo f10 rfl, uo f11 rfl, trivial⟩
        · intro dd aa ww K hc hun hn hI hK
          obtain ⟨y60, y61, y62, y63, y64, y65, y66, y67, y68, y69, y70, ea, hb, hsz, vhX, vhY, vg1, vg2, cx, cr, xr, xo, po, f0, f1, f2, f3, f4, f5, f6, f7, f8, f9, f10, f11, _⟩ := hI
          try simp [Region.binds] at hn
          have ex := f2.out (by first | (simp [hn]; done) | exact rc hc hn | exact rc hc hn.1 | exact rc hc hn.2 | exact rc hc hn.2.1 | exact rc hc hn.2.2)
          subst ex
          have e0 := cx 0 (by simp)
          simp only [lgZ, lgS] at e0
          have e1 := cx 1 (by simp)
          simp only [lgZ, lgS] at e1
          subst ea
          simp only [puts, Act.put, lsA, lsZ, lsS]
          go_simp
          refine hK.out _ _ ?_
          exact ⟨y60, y61, .pointer (some ⟨w.heap.size, 0, none⟩), .agg #[.bool (neg q.num), .slice a1 n1 c1], y64, y65, y66, y67, y68, y69, y70, by simp only [puts, Act.put, lsA, lsZ, lsS], hb, hsz, vhX, vhY, vg1, vg2, cx, cr, xr, xo, fun h => (po.out (upd_off h)), uo f0 rfl, uo f1 rfl, fun h => rfl, fun _ => rfl, uo f4 rfl, uo f5 rfl, uo f6 rfl, uo f7 rfl, uo f8 rfl, uo f9 rfl, uo f10 rfl, uo f11 rfl, trivial⟩
        · intro dd aa ww K hc hun hn hI hK
          obtain ⟨y60, y61, y62, y63, y64, y65, y66, y67, y68, y69, y70, ea, hb, hsz, vhX, vhY, vg1, vg2, cx, cr, xr, xo, po, f0, f1, f2, f3, f4, f5, f6, f7, f8, f9, f10, f11, _⟩ := hI
          try simp [Region.binds] at hn
          have ex := f1.out (by first | (simp [hn]; done) | exact rc hc hn | exact rc hc hn.1 | exact rc hc hn.2 | exact rc hc hn.2.1 | exact rc hc hn.2.2)
          subst ex
          have ex := f3.out (by first | (simp [hn]; done) | exact rc hc hn | exact rc hc hn.1 | exact rc hc hn.2 | exact rc hc hn.2.1 | exact rc hc hn.2.2)
          subst ex
          subst ea
          simp only [puts, Act.put, lsA, lsZ, lsS]
          go_simp
          with_reducible refine (smul_c vhX.toNatAt vg1 (by omega) (by omega)).mono ?_
          rintro e w1 ⟨ahS, nhS, chS, rfl, hS, h1⟩
          rw [ET1.out] at hS ⊢
          refine hK.out _ _ ?_
          exact ⟨y60, .agg #[.bool (neg P2.num), .slice ahX nhX chX], y62, .agg #[.bool (neg q.num), .slice a1 n1 c1], .agg #[.bool (neg P3.num), .slice ahS nhS chS], y65, y66, y67, y68, y69, y70, by simp only [puts, Act.put, lsA, lsZ, lsS], below_later hb h1, Nat.le_trans hsz h1.size, vhX.past h1, vhY.past h1, vg1.past h1, vg2.past h1, cx.past h1 (Nat.lt_of_lt_of_le lx hsz), cr.past h1 (Nat.lt_of_lt_of_le lr hsz), xr.past h1 (Nat.lt_of_lt_of_le lr hsz), xo.past h1 (Nat.lt_of_lt_of_le lo hsz), fun h => (po.out (upd_off h)).past h1 (Nat.lt_of_lt_of_le lo hsz), uo f0 rfl, fun h => rfl, uo f2 rfl, fun h => rfl, fun _ => ⟨_, _, _, rfl, hS.mono hsz⟩, uo f5 rfl, uo f6 rfl, uo f7 rfl, uo f8 rfl, fun h => (f9.out (upd_of rfl h)).past h1, fun h => absurd (hc.reach (f := 8) (s := 10) (l := 4) (by kernel_rfl) (upd_of rfl h)) (by rw [hun]; decide), fun h => (f11.out (upd_of rfl h)).past h1 (Nat.lt_of_lt_of_le lo hsz), trivial⟩
        · intro dd aa ww K hc hun hn hI hK
          obtain ⟨y60, y61, y62, y63, y64, y65, y66, y67, y68, y69, y70, ea, hb, hsz, vhX, vhY, vg1, vg2, cx, cr, xr, xo, po, f0, f1, f2, f3, f4, f5, f6, f7, f8, f9, f10, f11, _⟩ := hI
          try simp [Region.binds] at hn
          subst ea
          simp only [puts, Act.put, lsA, lsZ, lsS]
          go_simp
          refine hK.out _ _ ?_
          exact ⟨y60, y61, y62, y63, y64, .pointer (some ⟨BO, 2, none⟩), y66, y67, y68, y69, y70, by simp only [puts, Act.put, lsA, lsZ, lsS], hb, hsz, vhX, vhY, vg1, vg2, cx, cr, xr, xo, fun h => (po.out (upd_off h)), uo f0 rfl, uo f1 rfl, uo f2 rfl, uo f3 rfl, uo f4 rfl, fun _ => rfl, uo f6 rfl, uo f7 rfl, uo f8 rfl, uo f9 rfl, uo f10 rfl, uo f11 rfl, trivial⟩
        · intro dd aa ww K hc hun hn hI hK
          obtain ⟨y60, y61, y62, y63, y64, y65, y66, y67, y68, y69, y70, ea, hb, hsz, vhX, vhY, vg1, vg2, cx, cr, xr, xo, po, f0, f1, f2, f3, f4, f5, f6, f7, f8, f9, f10, f11, _⟩ := hI
          try simp [Region.binds] at hn
          have ex := f5.out (by first | (simp [hn]; done) | exact rc hc hn | exact rc hc hn.1 | exact rc hc hn.2 | exact rc hc hn.2.1 | exact rc hc hn.2.2)
          subst ex
          have hs := hc.not (f := 8) (s := 11) (l := 6) (by kernel_rfl) hun
          have e2 := po.out hs 2 (by simp)
          simp only [lgZ, lgS] at e2
          subst ea
          simp only [puts, Act.put, lsA, lsZ, lsS]
          go_simp
          refine hK.out _ _ ?_
          exact ⟨y60, y61, y62, y63, y64, .pointer (some ⟨BO, 2, none⟩), .slice ahY nhY chY, y67, y68, y69, y70, by simp only [puts, Act.put, lsA, lsZ, lsS], hb, hsz, vhX, vhY, vg1, vg2, cx, cr, xr, xo, fun h => (po.out (upd_off h)), uo f0 rfl, uo f1 rfl, uo f2 rfl, uo f3 rfl, uo f4 rfl, fun h => rfl, fun _ => rfl, uo f7 rfl, uo f8 rfl, uo f9 rfl, uo f10 rfl, uo f11 rfl, trivial⟩
        · intro dd aa ww K hc hun hn hI hK
          obtain ⟨y60, y61, y62, y63, y64, y65, y66, y67, y68, y69, y70, ea, hb, hsz, vhX, vhY, vg1, vg2, cx, cr, xr, xo, po, f0, f1, f2, f3, f4, f5, f6, f7, f8, f9, f10, f11, _⟩ := hI
          try simp [Region.binds] at hn
          subst ea
          simp only [puts, Act.put, lsA, lsZ, lsS]
          go_simp
          refine hK.out _ _ ?_
          exact ⟨y60, y61, y62, y63, y64, y65, y66, .pointer (some ⟨w.heap.size, 2, none⟩), y68, y69, y70, by simp only [puts, Act.put, lsA, lsZ, lsS], hb, hsz, vhX, vhY, vg1, vg2, cx, cr, xr, xo, fun h => (po.out (upd_off h)), uo f0 rfl, uo f1 rfl, uo f2 rfl, uo f3 rfl, uo f4 rfl, uo f5 rfl, uo f6 rfl, fun _ => rfl, uo f8 rfl, uo f9 rfl, uo f10 rfl, uo f11 rfl, trivial⟩
        · intro dd aa ww K hc hun hn hI hK
          obtain ⟨y60, y61, y62, y63, y64, y65, y66, y67, y68, y69, y70, ea, hb, hsz, vhX, vhY, vg1, vg2, cx, cr, xr, xo, po, f0, f1, f2, f3, f4, f5, f6, f7, f8, f9, f10, f11, _⟩ := hI
          try simp [Region.binds] at hn
          have ex := f7.out (by first | (simp [hn]; done) | exact rc hc hn | exact rc hc hn.1 | exact rc hc hn.2 | exact rc hc hn.2.1 | exact rc hc hn.2.2)
          subst ex
          have e2 := cx 2 (by simp)
          simp only [lgZ, lgS] at e2
          subst ea
          simp only [puts, Act.put, lsA, lsZ, lsS]
          go_simp
          refine hK.out _ _ ?_
          exact ⟨y60, y61, y62, y63, y64, y65, y66, .pointer (some ⟨w.heap.size, 2, none⟩), .slice a2 n2 c2, y69, y70, by simp only [puts, Act.put, lsA, lsZ, lsS], hb, hsz, vhX, vhY, vg1, vg2, cx, cr, xr, xo, fun h => (po.out (upd_off h)), uo f0 rfl, uo f1 rfl, uo f2 rfl, uo f3 rfl, uo f4 rfl, uo f5 rfl, uo f6 rfl, fun h => rfl, fun _ => rfl, uo f9 rfl, uo f10 rfl, uo f11 rfl, trivial⟩
        · intro dd aa ww K hc hun hn hI hK
          obtain ⟨y60, y61, y62, y63, y64, y65, y66, y67, y68, y69, y70, ea, hb, hsz, vhX, vhY, vg1, vg2, cx, cr, xr, xo, po, f0, f1, f2, f3, f4, f5, f6, f7, f8, f9, f10, f11, _⟩ := hI
          try simp [Region.binds] at hn
          have ex := f6.out (by first | (simp [hn]; done) | exact rc hc hn | exact rc hc hn.1 | exact rc hc hn.2 | exact rc hc hn.2.1 | exact rc hc hn.2.2)
          subst ex
          have ex := f8.out (by first | (simp [hn]; done) | exact rc hc hn | exact rc hc hn.1 | exact rc hc hn.2 | exact rc hc hn.2.1 | exact rc hc hn.2.2)
          subst ex
          subst ea
          simp only [puts, Act.put, lsA, lsZ, lsS]
          go_simp
          with_reducible refine (tmul_any _ _ _ (digs P2.den) _ _ _ (digs q.den) _ vhY.toNatAt vg2 (by omega) (by omega)).mono ?_
          rintro e w1 ⟨ahT, nhT, chT, rfl, hT, h1⟩
          rw [ET2.out] at hT
          refine hK.out _ _ ?_
          exact ⟨y60, y61, y62, y63, y64, y65, .slice ahY nhY chY, y67, .slice a2 n2 c2, .slice ahT nhT chT, y70, by simp only [puts, Act.put, lsA, lsZ, lsS], below_later hb h1, Nat.le_trans hsz h1.size, vhX.past h1, vhY.past h1, vg1.past h1, vg2.past h1, cx.past h1 (Nat.lt_of_lt_of_le lx hsz), cr.past h1 (Nat.lt_of_lt_of_le lr hsz), xr.past h1 (Nat.lt_of_lt_of_le lr hsz), xo.past h1 (Nat.lt_of_lt_of_le lo hsz), fun h => (po.out (upd_off h)).past h1 (Nat.lt_of_lt_of_le lo hsz), uo f0 rfl, uo f1 rfl, uo f2 rfl, uo f3 rfl, fun h => (f4.out (upd_of rfl h)).past h1, uo f5 rfl, fun h => rfl, uo f7 rfl, fun h => rfl, fun _ => ⟨_, _, _, rfl, hT.mono hsz⟩, fun h => absurd (hc.reach (f := 8) (s := 10) (l := 9) (by kernel_rfl) (upd_of rfl h)) (by rw [hun]; decide), fun h => (f11.out (upd_of rfl h)).past h1 (Nat.lt_of_lt_of_le lo hsz), trivial⟩
        · intro dd aa ww K hc hun hn hI hK
          obtain ⟨y60, y61, y62, y63, y64, y65, y66, y67, y68, y69, y70, ea, hb, hsz, vhX, vhY, vg1, vg2, cx, cr, xr, xo, po, f0, f1, f2, f3, f4, f5, f6, f7, f8, f9, f10, f11, _⟩ := hI
          try simp [Region.binds] at hn
          obtain ⟨ahS, nhS, chS, ex, hS⟩ := f4.out (by first | (simp [hn]; done) | exact rc hc hn | exact rc hc hn.1 | exact rc hc hn.2 | exact rc hc hn.2.1 | exact rc hc hn.2.2)
          subst ex
          obtain ⟨ahT, nhT, chT, ex, hT⟩ := f9.out (by first | (simp [hn]; done) | exact rc hc hn | exact rc hc hn.1 | exact rc hc hn.2 | exact rc hc hn.2.1 | exact rc hc hn.2.2)
          subst ex
          subst ea
          simp only [puts, Act.put, lsA, lsZ, lsS]
          go_simp
          refine hK.out _ _ ?_
          exact ⟨y60, y61, y62, y63, .agg #[.bool (neg P3.num), .slice ahS nhS chS], y65, y66, y67, y68, .slice ahT nhT chT, .agg #[.bool (neg P3.num), .slice ahS nhS chS, .slice ahT nhT chT], by simp only [puts, Act.put, lsA, lsZ, lsS], hb, hsz, vhX, vhY, vg1, vg2, cx, cr, xr, xo, fun h => (po.out (upd_off h)), uo f0 rfl, uo f1 rfl, uo f2 rfl, uo f3 rfl, uo f4 rfl, uo f5 rfl, uo f6 rfl, uo f7 rfl, uo f8 rfl, uo f9 rfl, fun _ => rfl, fun h => absurd (hc.reach (f := 8) (s := 11) (l := 10) (by kernel_rfl) (upd_of rfl h)) (by rw [hun]; decide), trivial⟩
        · intro dd aa ww K hc hun hn hI hK
          obtain ⟨y60, y61, y62, y63, y64, y65, y66, y67, y68, y69, y70, ea, hb, hsz, vhX, vhY, vg1, vg2, cx, cr, xr, xo, po, f0, f1, f2, f3, f4, f5, f6, f7, f8, f9, f10, f11, _⟩ := hI
          try simp [Region.binds] at hn
          obtain ⟨ahS, nhS, chS, ex, hS⟩ := f4.out (by first | (simp [hn]; done) | exact rc hc hn | exact rc hc hn.1 | exact rc hc hn.2 | exact rc hc hn.2.1 | exact rc hc hn.2.2)
          subst ex
          obtain ⟨ahT, nhT, chT, ex, hT⟩ := f9.out (by first | (simp [hn]; done) | exact rc hc hn | exact rc hc hn.1 | exact rc hc hn.2 | exact rc hc hn.2.1 | exact rc hc hn.2.2)
          subst ex
          have ex : y70 = .agg #[.bool (neg P3.num), .slice ahS nhS chS, .slice ahT nhT chT] := f10.out (by first | (simp [hn]; done) | exact rc hc hn | exact rc hc hn.1 | exact rc hc hn.2 | exact rc hc hn.2.1 | exact rc hc hn.2.2)
          subst ex
          have x3 := xo
          obtain ⟨v0, v1, v2, z0, z1, z2, z3, z4, z5, _, _, _⟩ := x3.three
          have hv : ∀ v ∈ ([.bool (neg P3.num), .slice ahS nhS chS, .slice ahT nhT chT] : List Value), notU v := by simp [notU_bool, notU_slice, notU_i64]
          subst ea
          simp only [puts, Act.put, lsA, lsZ, lsS]
          go_simp
          refine hK.out _ _ ?_
          exact ⟨y60, y61, y62, y63, .agg #[.bool (neg P3.num), .slice ahS nhS chS], y65, y66, y67, y68, .slice ahT nhT chT, .agg #[.bool (neg P3.num), .slice ahS nhS chS, .slice ahT nhT chT], by simp only [puts, Act.put, lsA, lsZ, lsS], hb.trans (below_setCells _ _ (by omega) [.bool (neg P3.num), .slice ahS nhS chS, .slice ahT nhT chT] 0 _), (by simpa using hsz), OwnAt.sets [.bool (neg P3.num), .slice ahS nhS chS, .slice ahT nhT chT] 0 _ vhX x3 (by simp) hv, OwnAt.sets [.bool (neg P3.num), .slice ahS nhS chS, .slice ahT nhT chT] 0 _ vhY x3 (by simp) hv, NatAt.sets [.bool (neg P3.num), .slice ahS nhS chS, .slice ahT nhT chT] 0 _ vg1 x3 (by simp) hv, NatAt.sets [.bool (neg P3.num), .slice ahS nhS chS, .slice ahT nhT chT] 0 _ vg2 x3 (by simp) hv, Cells.sets (by omega) [.bool (neg P3.num), .slice ahS nhS chS, .slice ahT nhT chT] 0 _ cx, Cells.sets (by omega) [.bool (neg P3.num), .slice ahS nhS chS, .slice ahT nhT chT] 0 _ cr, BoxAt.sets [.bool (neg P3.num), .slice ahS nhS chS, .slice ahT nhT chT] _ 0 _ xr hv, BoxAt.sets [.bool (neg P3.num), .slice ahS nhS chS, .slice ahT nhT chT] _ 0 _ xo hv, fun h => absurd h (by simp [upd]), uo f0 rfl, uo f1 rfl, uo f2 rfl, uo f3 rfl, fun h => ((f4.out (upd_of rfl h)).setsOff lo [.bool (neg P3.num), .slice ahS nhS chS, .slice ahT nhT chT]), uo f5 rfl, uo f6 rfl, uo f7 rfl, uo f8 rfl, fun h => ((f9.out (upd_of rfl h)).setsOff lo [.bool (neg P3.num), .slice ahS nhS chS, .slice ahT nhT chT]), fun h => rfl, fun _ => ⟨[.bool (neg P3.num), .slice ahS nhS chS, .slice ahT nhT chT], rfl, Cells.new x3 [.bool (neg P3.num), .slice ahS nhS chS, .slice ahT nhT chT] (by simp)⟩, trivial⟩
      intro dd aa w2 hd hI
      obtain ⟨y60, y61, y62, y63, y64, y65, y66, y67, y68, y69, y70, ea, hb, hsz, vhX, vhY, vg1, vg2, cx, cr, xr, xo, po, f0, f1, f2, f3, f4, f5, f6, f7, f8, f9, f10, f11, _⟩ := hI
      have ex := f0.out (hd 0 (by simp))
      subst ex
      have ex := f1.out (hd 1 (by simp))
      subst ex
      have ex := f2.out (hd 2 (by simp))
      subst ex
      have ex := f3.out (hd 3 (by simp))
      subst ex
      obtain ⟨ahS, nhS, chS, ex, hS⟩ := f4.out (hd 4 (by simp))
      subst ex
      have ex := f5.out (hd 5 (by simp))
      subst ex
      have ex := f6.out (hd 6 (by simp))
      subst ex
      have ex := f7.out (hd 7 (by simp))
      subst ex
      have ex := f8.out (hd 8 (by simp))
      subst ex
      obtain ⟨ahT, nhT, chT, ex, hT⟩ := f9.out (hd 9 (by simp))
      subst ex
      have ex : y70 = .agg #[.bool (neg P3.num), .slice ahS nhS chS, .slice ahT nhT chT] := f10.out (hd 10 (by simp))
      subst ex
      obtain ⟨vs11, e, h11⟩ := f11.out (hd 11 (by simp))
      cases e
      have lo := Nat.lt_of_lt_of_le lo hsz
      have qo0 := h11 0 (by simp)
      simp only [lgZ, lgS] at qo0
      have qo1 := h11 1 (by simp)
      simp only [lgZ, lgS] at qo1
      have qo2 := h11 2 (by simp)
      simp only [lgZ, lgS] at qo2
      subst ea
      simp only [puts, Act.put, lsA, lsZ, lsS]
      have hS := hS.mono szW
      have hT := hT.mono szW
      have g1 := vg1
      have g2 := vg2
      have hX := vhX
      have hY := vhY
      have lx := Nat.lt_of_lt_of_le lx hsz
      have qx0 := cx 0 (by simp)
      simp only [lgZ, lgS] at qx0
      have qx1 := cx 1 (by simp)
      simp only [lgZ, lgS] at qx1
      have qx2 := cx 2 (by simp)
      simp only [lgZ, lgS] at qx2
      clear cx
      have lr := Nat.lt_of_lt_of_le lr hsz
      have qr0 := cr 0 (by simp)
      simp only [lgZ, lgS] at qr0
      have qr1 := cr 1 (by simp)
      simp only [lgZ, lgS] at qr1
      have qr2 := cr 2 (by simp)
      simp only [lgZ, lgS] at qr2
      clear cr
      have hB := hb
      clear po
      clear hb hd
      rw [← HP3.out] at hS hT qo0
      go_wp2
      go_roundw
      case rel => exact ⟨i, b / 2, _, _, _, _, _, _, hi15, HNX.out, by go_num, hS, hT, hB, lo, qx0, qx1, qx2, qr0, qr1, qr2, qo0, qo1, qo2, xr, xo⟩
      case measure => simp [intOf]; omega
    · have hbit0 : N / 2 ^ i % 2 = 0 := by omega
      have va2 : bits .and .i64 (N : Int) (b : Int) = 0 := by rw [va, hb2, hbit0, Nat.zero_mul]; rfl
      have hexp : 2 * (N / 2 ^ (i + 1)) = N / 2 ^ i := by rw [hq]; omega
      rw [hexp] at hP2
      have HP2 := Lib.hid hP2
      clear va hbit hbit0 hexp hq hle hle2 hn1 hn2 es1 es2 et1 et2 hnext hbj hb2 hj hj0 hP hP2
      go_wp2_with fail
      have szW := hB.size
      refine wp_region_inv (by kernel_rfl) rfl (by kernel_rfl) (fun A0 V0 dd aa ww => ∃ (y47 y48 y49 y50 y51 y52 y53 y54 y55 : Value), aa = puts A0 [(47, y47), (48, y48), (49, y49), (50, y50), (51, y51), (52, y52), (53, y53), (54, y54), (55, y55)] ∧ Below (w).heap.size (w) ww ∧ V0.heap.size ≤ ww.heap.size ∧ OwnAt ww w.heap.size au nu cu (digs P.num.natAbs) ∧ OwnAt ww w.heap.size ad nd cd (digs P.den) ∧ NatAt ww a1 n1 c1 (digs q.num.natAbs) ∧ NatAt ww a2 n2 c2 (digs q.den) ∧ Cells ww (w.heap.size) [.bool (neg q.num), .slice a1 n1 c1, .slice a2 n2 c2] ∧ Cells ww (w.heap.size + 1) [.bool false, .slice none 0 0, .slice none 0 0] ∧ BoxAt ww (w.heap.size + 1) 3 ∧ BoxAt ww (BO) 3 ∧ Shut (dd 9 = false → Cells ww (BO) [.bool (neg P.num), .slice au nu cu, .slice ad nd cd]) ∧ Shut (dd 0 = true → y47 = .pointer (some ⟨BO, 0, none⟩)) ∧ Shut (dd 1 = true → y48 = .agg #[.bool (neg P.num), .slice au nu cu]) ∧ Shut (dd 2 = true → y49 = .pointer (some ⟨BO, 0, none⟩)) ∧ Shut (dd 3 = true → y50 = .agg #[.bool (neg P.num), .slice au nu cu]) ∧ Shut (dd 4 = true → CopyV V0.heap.size (neg P2.num) (digs P2.num.natAbs) y51 ww) ∧ Shut (dd 5 = true → y52 = .pointer (some ⟨BO, 2, none⟩)) ∧ Shut (dd 6 = true → y53 = .slice ad nd cd) ∧ Shut (dd 7 = true → NatV V0.heap.size (digs P2.den) y54 ww) ∧ Shut (dd 8 = true → y55 = bld [y51, y54]) ∧ Shut (dd 9 = true → CellsV (BO) y55 ww) ∧ True) ?_ ?_ ?_
      · exact ⟨_, _, _, _, _, _, _, _, _, puts_self _ [47, 48, 49, 50, 51, 52, 53, 54, 55], hB.drew, Nat.le_refl _, hU.drew, hD.drew, g1.drew, g2.drew, (by intro k hk; simp at hk; rcases (by omega : k = 0 ∨ k = 1 ∨ k = 2) with rfl | rfl | rfl <;> assumption), (by intro k hk; simp at hk; rcases (by omega : k = 0 ∨ k = 1 ∨ k = 2) with rfl | rfl | rfl <;> assumption), xr.drew, xo.drew, (fun _ => by intro k hk; simp at hk; rcases (by omega : k = 0 ∨ k = 1 ∨ k = 2) with rfl | rfl | rfl <;> assumption), fun h => (by cases h), fun h => (by cases h), fun h => (by cases h), fun h => (by cases h), fun h => (by cases h), fun h => (by cases h), fun h => (by cases h), fun h => (by cases h), fun h => (by cases h), fun h => (by cases h), trivial⟩
      · refine Steps.cons ?_ (Steps.cons ?_ (Steps.cons ?_ (Steps.cons ?_ (Steps.cons ?_ (Steps.cons ?_ (Steps.cons ?_ (Steps.cons ?_ (Steps.cons ?_ (Steps.cons ?_ (Steps.nil))))))))))
        · intro dd aa ww K hc hun hn hI hK
          obtain ⟨y47, y48, y49, y50, y51, y52, y53, y54, y55, ea, hb, hsz, vhU, vhD, vg1, vg2, cx, cr, xr, xo, po, f0, f1, f2, f3, f4, f5, f6, f7, f8, f9, _⟩ := hI
          try simp [Region.binds] at hn
          subst ea
          simp only [puts, Act.put, lsA, lsZ, lsS]
          go_simp
          refine hK.out _ _ ?_
          exact ⟨.pointer (some ⟨BO, 0, none⟩), y48, y49, y50, y51, y52, y53, y54, y55, by simp only [puts, Act.put, lsA, lsZ, lsS], hb, hsz, vhU, vhD, vg1, vg2, cx, cr, xr, xo, fun h => (po.out (upd_off h)), fun _ => rfl, uo f1 rfl, uo f2 rfl, uo f3 rfl, uo f4 rfl, uo f5 rfl, uo f6 rfl, uo f7 rfl, uo f8 rfl, uo f9 rfl, trivial⟩
        · intro dd aa ww K hc hun hn hI hK
          obtain ⟨y47, y48, y49, y50, y51, y52, y53, y54, y55, ea, hb, hsz, vhU, vhD, vg1, vg2, cx, cr, xr, xo, po, f0, f1, f2, f3, f4, f5, f6, f7, f8, f9, _⟩ := hI
          try simp [Region.binds] at hn
          have ex := f0.out (by first | (simp [hn]; done) | exact rc hc hn | exact rc hc hn.1 | exact rc hc hn.2 | exact rc hc hn.2.1 | exact rc hc hn.2.2)
          subst ex
          have hs := hc.not (f := 8) (s := 9) (l := 1) (by kernel_rfl) hun
          have e0 := po.out hs 0 (by simp)
          simp only [lgZ, lgS] at e0
          have e1 := po.out hs 1 (by simp)
          simp only [lgZ, lgS] at e1
          subst ea
          simp only [puts, Act.put, lsA, lsZ, lsS]
          go_simp
          refine hK.out _ _ ?_
          exact ⟨.pointer (some ⟨BO, 0, none⟩), .agg #[.bool (neg P.num), .slice au nu cu], y49, y50, y51, y52, y53, y54, y55, by simp only [puts, Act.put, lsA, lsZ, lsS], hb, hsz, vhU, vhD, vg1, vg2, cx, cr, xr, xo, fun h => (po.out (upd_off h)), fun h => rfl, fun _ => rfl, uo f2 rfl, uo f3 rfl, uo f4 rfl, uo f5 rfl, uo f6 rfl, uo f7 rfl, uo f8 rfl, uo f9 rfl, trivial⟩
        · intro dd aa ww K hc hun hn hI hK
          obtain ⟨y47, y48, y49, y50, y51, y52, y53, y54, y55, ea, hb, hsz, vhU, vhD, vg1, vg2, cx, cr, xr, xo, po, f0, f1, f2, f3, f4, f5, f6, f7, f8, f9, _⟩ := hI
          try simp [Region.binds] at hn
          subst ea
          simp only [puts, Act.put, lsA, lsZ, lsS]
          go_simp
          refine hK.out _ _ ?_
          exact ⟨y47, y48, .pointer (some ⟨BO, 0, none⟩), y50, y51, y52, y53, y54, y55, by simp only [puts, Act.put, lsA, lsZ, lsS], hb, hsz, vhU, vhD, vg1, vg2, cx, cr, xr, xo, fun h => (po.out (upd_off h)), uo f0 rfl, uo f1 rfl, fun _ => rfl, uo f3 rfl, uo f4 rfl, uo f5 rfl, uo f6 rfl, uo f7 rfl, uo f8 rfl, uo f9 rfl, trivial⟩
        · intro dd aa ww K hc hun hn hI hK
          obtain ⟨y47, y48, y49, y50, y51, y52, y53, y54, y55, ea, hb, hsz, vhU, vhD, vg1, vg2, cx, cr, xr, xo, po, f0, f1, f2, f3, f4, f5, f6, f7, f8, f9, _⟩ := hI
          try simp [Region.binds] at hn
          have ex := f2.out (by first | (simp [hn]; done) | exact rc hc hn | exact rc hc hn.1 | exact rc hc hn.2 | exact rc hc hn.2.1 | exact rc hc hn.2.2)
          subst ex
          have hs := hc.not (f := 8) (s := 9) (l := 3) (by kernel_rfl) hun
          have e0 := po.out hs 0 (by simp)
          simp only [lgZ, lgS] at e0
          have e1 := po.out hs 1 (by simp)
          simp only [lgZ, lgS] at e1
          subst ea
          simp only [puts, Act.put, lsA, lsZ, lsS]
          go_simp
          refine hK.out _ _ ?_
          exact ⟨y47, y48, .pointer (some ⟨BO, 0, none⟩), .agg #[.bool (neg P.num), .slice au nu cu], y51, y52, y53, y54, y55, by simp only [puts, Act.put, lsA, lsZ, lsS], hb, hsz, vhU, vhD, vg1, vg2, cx, cr, xr, xo, fun h => (po.out (upd_off h)), uo f0 rfl, uo f1 rfl, fun h => rfl, fun _ => rfl, uo f4 rfl, uo f5 rfl, uo f6 rfl, uo f7 rfl, uo f8 rfl, uo f9 rfl, trivial⟩
        · intro dd aa ww K hc hun hn hI hK
          obtain ⟨y47, y48, y49, y50, y51, y52, y53, y54, y55, ea, hb, hsz, vhU, vhD, vg1, vg2, cx, cr, xr, xo, po, f0, f1, f2, f3, f4, f5, f6, f7, f8, f9, _⟩ := hI
          try simp [Region.binds] at hn
          have ex := f1.out (by first | (simp [hn]; done) | exact rc hc hn | exact rc hc hn.1 | exact rc hc hn.2 | exact rc hc hn.2.1 | exact rc hc hn.2.2)
          subst ex
          have ex := f3.out (by first | (simp [hn]; done) | exact rc hc hn | exact rc hc hn.1 | exact rc hc hn.2 | exact rc hc hn.2.1 | exact rc hc hn.2.2)
          subst ex
          subst ea
          simp only [puts, Act.put, lsA, lsZ, lsS]
          go_simp
          with_reducible refine (smul_c vhU.toNatAt vhU.toNatAt (by omega) (by omega)).mono ?_
          rintro e w1 ⟨ahX, nhX, chX, rfl, hX, h1⟩
          rw [ES1.out] at hX ⊢
          refine hK.out _ _ ?_
          exact ⟨y47, .agg #[.bool (neg P.num), .slice au nu cu], y49, .agg #[.bool (neg P.num), .slice au nu cu], .agg #[.bool (neg P2.num), .slice ahX nhX chX], y52, y53, y54, y55, by simp only [puts, Act.put, lsA, lsZ, lsS], below_later hb h1, Nat.le_trans hsz h1.size, vhU.past h1, vhD.past h1, vg1.past h1, vg2.past h1, cx.past h1 (Nat.lt_of_lt_of_le lx hsz), cr.past h1 (Nat.lt_of_lt_of_le lr hsz), xr.past h1 (Nat.lt_of_lt_of_le lr hsz), xo.past h1 (Nat.lt_of_lt_of_le lo hsz), fun h => (po.out (upd_off h)).past h1 (Nat.lt_of_lt_of_le lo hsz), uo f0 rfl, fun h => rfl, uo f2 rfl, fun h => rfl, fun _ => ⟨_, _, _, rfl, hX.mono hsz⟩, uo f5 rfl, uo f6 rfl, fun h => (f7.out (upd_of rfl h)).past h1, fun h => absurd (hc.reach (f := 8) (s := 8) (l := 4) (by kernel_rfl) (upd_of rfl h)) (by rw [hun]; decide), fun h => (f9.out (upd_of rfl h)).past h1 (Nat.lt_of_lt_of_le lo hsz), trivial⟩
        · intro dd aa ww K hc hun hn hI hK
          obtain ⟨y47, y48, y49, y50, y51, y52, y53, y54, y55, ea, hb, hsz, vhU, vhD, vg1, vg2, cx, cr, xr, xo, po, f0, f1, f2, f3, f4, f5, f6, f7, f8, f9, _⟩ := hI
          try simp [Region.binds] at hn
          subst ea
          simp only [puts, Act.put, lsA, lsZ, lsS]
          go_simp
          refine hK.out _ _ ?_
          exact ⟨y47, y48, y49, y50, y51, .pointer (some ⟨BO, 2, none⟩), y53, y54, y55, by simp only [puts, Act.put, lsA, lsZ, lsS], hb, hsz, vhU, vhD, vg1, vg2, cx, cr, xr, xo, fun h => (po.out (upd_off h)), uo f0 rfl, uo f1 rfl, uo f2 rfl, uo f3 rfl, uo f4 rfl, fun _ => rfl, uo f6 rfl, uo f7 rfl, uo f8 rfl, uo f9 rfl, trivial⟩
        · intro dd aa ww K hc hun hn hI hK
          obtain ⟨y47, y48, y49, y50, y51, y52, y53, y54, y55, ea, hb, hsz, vhU, vhD, vg1, vg2, cx, cr, xr, xo, po, f0, f1, f2, f3, f4, f5, f6, f7, f8, f9, _⟩ := hI
          try simp [Region.binds] at hn
          have ex := f5.out (by first | (simp [hn]; done) | exact rc hc hn | exact rc hc hn.1 | exact rc hc hn.2 | exact rc hc hn.2.1 | exact rc hc hn.2.2)
          subst ex
          have hs := hc.not (f := 8) (s := 9) (l := 6) (by kernel_rfl) hun
          have e2 := po.out hs 2 (by simp)
          simp only [lgZ, lgS] at e2
          subst ea
          simp only [puts, Act.put, lsA, lsZ, lsS]
          go_simp
          refine hK.out _ _ ?_
          exact ⟨y47, y48, y49, y50, y51, .pointer (some ⟨BO, 2, none⟩), .slice ad nd cd, y54, y55, by simp only [puts, Act.put, lsA, lsZ, lsS], hb, hsz, vhU, vhD, vg1, vg2, cx, cr, xr, xo, fun h => (po.out (upd_off h)), uo f0 rfl, uo f1 rfl, uo f2 rfl, uo f3 rfl, uo f4 rfl, fun h => rfl, fun _ => rfl, uo f7 rfl, uo f8 rfl, uo f9 rfl, trivial⟩
        · intro dd aa ww K hc hun hn hI hK
          obtain ⟨y47, y48, y49, y50, y51, y52, y53, y54, y55, ea, hb, hsz, vhU, vhD, vg1, vg2, cx, cr, xr, xo, po, f0, f1, f2, f3, f4, f5, f6, f7, f8, f9, _⟩ := hI
          try simp [Region.binds] at hn
          have ex := f6.out (by first | (simp [hn]; done) | exact rc hc hn | exact rc hc hn.1 | exact rc hc hn.2 | exact rc hc hn.2.1 | exact rc hc hn.2.2)
          subst ex
          subst ea
          simp only [puts, Act.put, lsA, lsZ, lsS]
          go_simp
          with_reducible refine (square_any _ _ _ (digs P.den) _ vhD.toNatAt (by omega)).mono ?_
          rintro e w1 ⟨ahY, nhY, chY, rfl, hY, h1⟩
          rw [ES2.out] at hY
          refine hK.out _ _ ?_
          exact ⟨y47, y48, y49, y50, y51, y52, .slice ad nd cd, .slice ahY nhY chY, y55, by simp only [puts, Act.put, lsA, lsZ, lsS], below_later hb h1, Nat.le_trans hsz h1.size, vhU.past h1, vhD.past h1, vg1.past h1, vg2.past h1, cx.past h1 (Nat.lt_of_lt_of_le lx hsz), cr.past h1 (Nat.lt_of_lt_of_le lr hsz), xr.past h1 (Nat.lt_of_lt_of_le lr hsz), xo.past h1 (Nat.lt_of_lt_of_le lo hsz), fun h => (po.out (upd_off h)).past h1 (Nat.lt_of_lt_of_le lo hsz), uo f0 rfl, uo f1 rfl, uo f2 rfl, uo f3 rfl, fun h => (f4.out (upd_of rfl h)).past h1, uo f5 rfl, fun h => rfl, fun _ => ⟨_, _, _, rfl, hY.mono hsz⟩, fun h => absurd (hc.reach (f := 8) (s := 8) (l := 7) (by kernel_rfl) (upd_of rfl h)) (by rw [hun]; decide), fun h => (f9.out (upd_of rfl h)).past h1 (Nat.lt_of_lt_of_le lo hsz), trivial⟩
        · intro dd aa ww K hc hun hn hI hK
          obtain ⟨y47, y48, y49, y50, y51, y52, y53, y54, y55, ea, hb, hsz, vhU, vhD, vg1, vg2, cx, cr, xr, xo, po, f0, f1, f2, f3, f4, f5, f6, f7, f8, f9, _⟩ := hI
          try simp [Region.binds] at hn
          obtain ⟨ahX, nhX, chX, ex, hX⟩ := f4.out (by first | (simp [hn]; done) | exact rc hc hn | exact rc hc hn.1 | exact rc hc hn.2 | exact rc hc hn.2.1 | exact rc hc hn.2.2)
          subst ex
          obtain ⟨ahY, nhY, chY, ex, hY⟩ := f7.out (by first | (simp [hn]; done) | exact rc hc hn | exact rc hc hn.1 | exact rc hc hn.2 | exact rc hc hn.2.1 | exact rc hc hn.2.2)
          subst ex
          subst ea
          simp only [puts, Act.put, lsA, lsZ, lsS]
          go_simp
          refine hK.out _ _ ?_
          exact ⟨y47, y48, y49, y50, .agg #[.bool (neg P2.num), .slice ahX nhX chX], y52, y53, .slice ahY nhY chY, .agg #[.bool (neg P2.num), .slice ahX nhX chX, .slice ahY nhY chY], by simp only [puts, Act.put, lsA, lsZ, lsS], hb, hsz, vhU, vhD, vg1, vg2, cx, cr, xr, xo, fun h => (po.out (upd_off h)), uo f0 rfl, uo f1 rfl, uo f2 rfl, uo f3 rfl, uo f4 rfl, uo f5 rfl, uo f6 rfl, uo f7 rfl, fun _ => rfl, fun h => absurd (hc.reach (f := 8) (s := 9) (l := 8) (by kernel_rfl) (upd_of rfl h)) (by rw [hun]; decide), trivial⟩
        · intro dd aa ww K hc hun hn hI hK
          obtain ⟨y47, y48, y49, y50, y51, y52, y53, y54, y55, ea, hb, hsz, vhU, vhD, vg1, vg2, cx, cr, xr, xo, po, f0, f1, f2, f3, f4, f5, f6, f7, f8, f9, _⟩ := hI
          try simp [Region.binds] at hn
          obtain ⟨ahX, nhX, chX, ex, hX⟩ := f4.out (by first | (simp [hn]; done) | exact rc hc hn | exact rc hc hn.1 | exact rc hc hn.2 | exact rc hc hn.2.1 | exact rc hc hn.2.2)
          subst ex
          obtain ⟨ahY, nhY, chY, ex, hY⟩ := f7.out (by first | (simp [hn]; done) | exact rc hc hn | exact rc hc hn.1 | exact rc hc hn.2 | exact rc hc hn.2.1 | exact rc hc hn.2.2)
          subst ex
          have ex : y55 = .agg #[.bool (neg P2.num), .slice ahX nhX chX, .slice ahY nhY chY] := f8.out (by first | (simp [hn]; done) | exact rc hc hn | exact rc hc hn.1 | exact rc hc hn.2 | exact rc hc hn.2.1 | exact rc hc hn.2.2)
          subst ex
          have x3 := xo
          obtain ⟨v0, v1, v2, z0, z1, z2, z3, z4, z5, _, _, _⟩ := x3.three
          have hv : ∀ v ∈ ([.bool (neg P2.num), .slice ahX nhX chX, .slice ahY nhY chY] : List Value), notU v := by simp [notU_bool, notU_slice, notU_i64]
          subst ea
          simp only [puts, Act.put, lsA, lsZ, lsS]
          go_simp
          refine hK.out _ _ ?_
          exact ⟨y47, y48, y49, y50, .agg #[.bool (neg P2.num), .slice ahX nhX chX], y52, y53, .slice ahY nhY chY, .agg #[.bool (neg P2.num), .slice ahX nhX chX, .slice ahY nhY chY], by simp only [puts, Act.put, lsA, lsZ, lsS], hb.trans (below_setCells _ _ (by omega) [.bool (neg P2.num), .slice ahX nhX chX, .slice ahY nhY chY] 0 _), (by simpa using hsz), OwnAt.sets [.bool (neg P2.num), .slice ahX nhX chX, .slice ahY nhY chY] 0 _ vhU x3 (by simp) hv, OwnAt.sets [.bool (neg P2.num), .slice ahX nhX chX, .slice ahY nhY chY] 0 _ vhD x3 (by simp) hv, NatAt.sets [.bool (neg P2.num), .slice ahX nhX chX, .slice ahY nhY chY] 0 _ vg1 x3 (by simp) hv, NatAt.sets [.bool (neg P2.num), .slice ahX nhX chX, .slice ahY nhY chY] 0 _ vg2 x3 (by simp) hv, Cells.sets (by omega) [.bool (neg P2.num), .slice ahX nhX chX, .slice ahY nhY chY] 0 _ cx, Cells.sets (by omega) [.bool (neg P2.num), .slice ahX nhX chX, .slice ahY nhY chY] 0 _ cr, BoxAt.sets [.bool (neg P2.num), .slice ahX nhX chX, .slice ahY nhY chY] _ 0 _ xr hv, BoxAt.sets [.bool (neg P2.num), .slice ahX nhX chX, .slice ahY nhY chY] _ 0 _ xo hv, fun h => absurd h (by simp [upd]), uo f0 rfl, uo f1 rfl, uo f2 rfl, uo f3 rfl, fun h => ((f4.out (upd_of rfl h)).setsOff lo [.bool (neg P2.num), .slice ahX nhX chX, .slice ahY nhY chY]), uo f5 rfl, uo f6 rfl, fun h => ((f7.out (upd_of rfl h)).setsOff lo [.bool (neg P2.num), .slice ahX nhX chX, .slice ahY nhY chY]), fun h => rfl, fun _ => ⟨[.bool (neg P2.num), .slice ahX nhX chX, .slice ahY nhY chY], rfl, Cells.new x3 [.bool (neg P2.num), .slice ahX nhX chX, .slice ahY nhY chY] (by simp)⟩, trivial⟩
      intro dd aa w1 hd hI
      obtain ⟨y47, y48, y49, y50, y51, y52, y53, y54, y55, ea, hb, hsz, vhU, vhD, vg1, vg2, cx, cr, xr, xo, po, f0, f1, f2, f3, f4, f5, f6, f7, f8, f9, _⟩ := hI
      have ex := f0.out (hd 0 (by simp))
      subst ex
      have ex := f1.out (hd 1 (by simp))
      subst ex
      have ex := f2.out (hd 2 (by simp))
      subst ex
      have ex := f3.out (hd 3 (by simp))
      subst ex
      obtain ⟨ahX, nhX, chX, ex, hX⟩ := f4.out (hd 4 (by simp))
      subst ex
      have ex := f5.out (hd 5 (by simp))
      subst ex
      have ex := f6.out (hd 6 (by simp))
      subst ex
      obtain ⟨ahY, nhY, chY, ex, hY⟩ := f7.out (hd 7 (by simp))
      subst ex
      have ex : y55 = .agg #[.bool (neg P2.num), .slice ahX nhX chX, .slice ahY nhY chY] := f8.out (hd 8 (by simp))
      subst ex
      obtain ⟨vs9, e, h9⟩ := f9.out (hd 9 (by simp))
      cases e
      have lo := Nat.lt_of_lt_of_le lo hsz
      have qo0 := h9 0 (by simp)
      simp only [lgZ, lgS] at qo0
      have qo1 := h9 1 (by simp)
      simp only [lgZ, lgS] at qo1
      have qo2 := h9 2 (by simp)
      simp only [lgZ, lgS] at qo2
      subst ea
      simp only [puts, Act.put, lsA, lsZ, lsS]
      have hX := hX.mono szW
      have hY := hY.mono szW
      have hU := vhU
      have hD := vhD
      have g1 := vg1
      have g2 := vg2
      have lx := Nat.lt_of_lt_of_le lx hsz
      have qx0 := cx 0 (by simp)
      simp only [lgZ, lgS] at qx0
      have qx1 := cx 1 (by simp)
      simp only [lgZ, lgS] at qx1
      have qx2 := cx 2 (by simp)
      simp only [lgZ, lgS] at qx2
      clear cx
      have lr := Nat.lt_of_lt_of_le lr hsz
      have qr0 := cr 0 (by simp)
      simp only [lgZ, lgS] at qr0
      have qr1 := cr 1 (by simp)
      simp only [lgZ, lgS] at qr1
      have qr2 := cr 2 (by simp)
      simp only [lgZ, lgS] at qr2
      clear cr
      have hB := hb
      clear po
      clear hb hd
      have bX : nhX ≤ 17179869184 := by have := hX.len; have := HN2.out; omega
      have bY : nhY ≤ 17179869184 := by have := hY.len; have := HN2.out; omega
      rw [← HP2.out] at hX hY qo0
      go_wp2
      go_roundw
      case rel => exact ⟨i, b / 2, _, _, _, _, _, _, hi15, HNX.out, by go_num, hX, hY, hB, lo, qx0, qx1, qx2, qr0, qr1, qr2, qo0, qo1, qo2, xr, xo⟩
      case measure => simp [intOf]; omega
set_option maxRecDepth 100000 in
set_option maxHeartbeats 8000000 in
theorem pow05_neg (q : Rat) (N : Nat) (a1 : Option Addr) (n1 c1 : Nat) (a2 : Option Addr) (n2 c2 : Nat) (w : World) (g1 : NatAt w a1 n1 c1 (digs q.num.natAbs)) (g2 : NatAt w a2 n2 c2 (digs q.den)) (hs1 : n1 ≤ 17179869184) (hs2 : n2 ≤ 17179869184) (hN : N ≤ 10000) (h0 : 0 < N) (hq : q ≠ 0) (hlq : rlen q ≤ 1048576) :
 Calls Tryz.prog 20 #[.agg #[.bool (neg q.num), .slice a1 n1 c1, .slice a2 n2 c2], .int .i64 (-(N : Int))] w (RetOk w (q⁻¹ ^ N)) := by
 have t1 : ((n1 : Int) == 0) = false := by rw [beq_eq_false_iff_ne]; intro h0; exact hq (num_len0.1 (by have := g1.len; omega))
 have t5 : wrap64 (N : Int) = (N : Int) := by unfold wrap64; omega
 obtain ⟨e1, e2, e5⟩ := inv_parts2 hq
 have e3 := chkR_canon q
 rw [← rlen_inv hq] at hlq
 obtain ⟨m, hm⟩ : ∃ m, q⁻¹ = m := ⟨_, rfl⟩
 rw [hm] at e1 e2 e5 hlq ⊢
 rw [e2] at g2 e3
 rw [e5] at g1 e3
 rw [e1] at e3 ⊢
 have HC := Lib.hid e3
 have hlen : ∀ k, k ≤ N → rlen (m ^ k) ≤ 17179869184 := fun k hk => by
  have h1 := rlen_pow m k
  have h2 : k * rlen m ≤ 10000 * 1048576 := Nat.mul_le_mul (by omega) hlq
  omega
 have HLEN := Lib.hid hlen
 have HN := Lib.hid hN
 have g10 := g1
 have g20 := g2
 clear hlen hlq hm hq e1 e2 e3 e5
 go_enter Tryz.func20, Tryz.ntmps20
 have hB := Below.refl w.heap.size w
 go_wp2_with fail
 obtain ⟨w1, hW, hz0, hb, q, f⟩ := box1g w (w.heap.size) (by omega) #[.bool (neg m.num), .slice a1 n1 c1, .slice a2 n2 c2] 30
 rw [hW]
 clear hW
 have g1 := g1.past hb
 have g2 := g2.past hb
 have hB := below_later hB hb
 clear hb
 have lx : w.heap.size < w1.heap.size := by omega
 have qx0 := q 0; have qx1 := q 1; have qx2 := q 2
 simp only [lgA, lgZ, lgS] at qx0 qx1 qx2
 have xx : BoxAt w1 (w.heap.size) 3 := BoxAt.of q f rfl (by simp [notU_bool, notU_slice, notU_i64])
 clear q f
 obtain ⟨w2, hW, hz1, hb, q, f⟩ := box1g w1 (w.heap.size + 1) (by omega) #[.bool false, .slice none 0 0, .slice none 0 0] 30
 rw [hW]
 clear hW
 have g1 := g1.past hb
 have g2 := g2.past hb
 have xx := xx.past hb lx
 obtain ⟨qx0, qx1, qx2, lx⟩ := bq3 hb lx qx0 qx1 qx2
 have hB := below_later hB hb
 clear hb
 have lr : w.heap.size + 1 < w2.heap.size := by omega
 have qr0 := q 0; have qr1 := q 1; have qr2 := q 2
 simp only [lgA, lgZ, lgS] at qr0 qr1 qr2
 have xr : BoxAt w2 (w.heap.size + 1) 3 := BoxAt.of q f rfl (by simp [notU_bool, notU_slice, notU_i64])
 clear q f
 clear hz0
 clear hz1
 with_reducible refine (check05_any _ _ _ _ (digs m.den) _ _ _ (digs m.num.natAbs) _ g1 g2 (by omega) (by omega)).mono ?_
 rintro e w3 ⟨rfl, hb⟩
 have g1 := g1.past hb
 have g2 := g2.past hb
 have xx := xx.past hb lx
 obtain ⟨qx0, qx1, qx2, lx⟩ := bq3 hb lx qx0 qx1 qx2
 have xr := xr.past hb lr
 obtain ⟨qr0, qr1, qr2, lr⟩ := bq3 hb lr qr0 qr1 qr2
 have hB := below_later hB hb
 clear hb
 rw [HC.out]
 go_wp2_with fail
 with_reducible refine (over_any _ _ _ _ _ _ _ _).mono ?_
 rintro e w4 ⟨rfl, hb⟩
 have g1 := g1.past hb
 have g2 := g2.past hb
 have xx := xx.past hb lx
 obtain ⟨qx0, qx1, qx2, lx⟩ := bq3 hb lx qx0 qx1 qx2
 have xr := xr.past hb lr
 obtain ⟨qr0, qr1, qr2, lr⟩ := bq3 hb lr qr0 qr1 qr2
 have hB := below_later hB hb
 clear hb
 have zf0 := xx.f 0 (by decide)
 have zf1 := xx.f 1 (by decide)
 have zf2 := xx.f 2 (by decide)
 go_wp2_with fail
 obtain ⟨w5, hW, hO, qN0, qN1, qN2, xN⟩ := store3 xx (.bool (neg m.num)) (.slice a2 n2 c2) (.slice a1 n1 c1) (Go.Proofs.YtmhjhhcdjecdbaaGreat.nu rfl) (Go.Proofs.YtmhjhhcdjecdbaaGreat.nu rfl) (Go.Proofs.YtmhjhhcdjecdbaaGreat.nu rfl)
 try rw [hW]
 clear hW
 have g1 := hO.nat g1
 have g2 := hO.nat g2
 have lx : w.heap.size < w5.heap.size := by rw [hO.size]; exact lx
 have qr0 := (hO.cell (b2 := w.heap.size + 1) (k := 0) (by omega)).trans qr0
 have qr1 := (hO.cell (b2 := w.heap.size + 1) (k := 1) (by omega)).trans qr1
 have qr2 := (hO.cell (b2 := w.heap.size + 1) (k := 2) (by omega)).trans qr2
 have xr := hO.box xr
 have lr : w.heap.size + 1 < w5.heap.size := by rw [hO.size]; exact lr
 have qx0 := qN0
 have qx1 := qN1
 have qx2 := qN2
 have xx := xN
 have hB := hO.below (by omega) hB
 clear hO qN0 qN1 qN2 xN zf0 zf1 zf2
 go_wp2_with fail
 with_reducible refine (one05_any _).mono ?_
 rintro e w6 ⟨ahV, nhV, chV, rfl, hV, hb⟩
 have hV := hV.mono hB.size
 have g1 := g1.past hb
 have g2 := g2.past hb
 have xx := xx.past hb lx
 obtain ⟨qx0, qx1, qx2, lx⟩ := bq3 hb lx qx0 qx1 qx2
 have xr := xr.past hb lr
 obtain ⟨qr0, qr1, qr2, lr⟩ := bq3 hb lr qr0 qr1 qr2
 have hB := below_later hB hb
 clear hb
 go_wp2_with fail
 with_reducible refine (one05_any _).mono ?_
 rintro e w7 ⟨ahW, nhW, chW, rfl, hW, hb⟩
 have hW := hW.mono hB.size
 have g1 := g1.past hb
 have g2 := g2.past hb
 have hV := hV.past hb
 have xx := xx.past hb lx
 obtain ⟨qx0, qx1, qx2, lx⟩ := bq3 hb lx qx0 qx1 qx2
 have xr := xr.past hb lr
 obtain ⟨qr0, qr1, qr2, lr⟩ := bq3 hb lr qr0 qr1 qr2
 have hB := below_later hB hb
 clear hb
 have hgo := lr
 go_wp2_with fail
 obtain ⟨w8, hW, hz0, hb, q, f⟩ := box1g w7 (w7.heap.size) (by omega) #[.bool false, .slice ahV nhV chV, .slice ahW nhW chW] 30
 rw [hW]
 clear hW
 have g1 := g1.past hb
 have g2 := g2.past hb
 have hV := hV.past hb
 have hW := hW.past hb
 have xx := xx.past hb lx
 obtain ⟨qx0, qx1, qx2, lx⟩ := bq3 hb lx qx0 qx1 qx2
 have xr := xr.past hb lr
 obtain ⟨qr0, qr1, qr2, lr⟩ := bq3 hb lr qr0 qr1 qr2
 have hB := below_later hB hb
 clear hb
 have lo : w7.heap.size < w8.heap.size := by omega
 have qo0 := q 0; have qo1 := q 1; have qo2 := q 2
 simp only [lgA, lgZ, lgS] at qo0 qo1 qo2
 have xo : BoxAt w8 (w7.heap.size) 3 := BoxAt.of q f rfl (by simp [notU_bool, notU_slice, notU_i64])
 clear q f
 clear hz0
 generalize w7.heap.size = BO at *
 go_loopw [7] (fun bt wr => ∃ (j b : Nat) (au : Option Addr) (nu cu : Nat) (ad : Option Addr) (nd cd : Nat), j ≤ 15 ∧ b = 2 ^ j / 2 ∧ bt = .int .i64 (b : Int) ∧ OwnAt wr w.heap.size au nu cu (digs (m ^ (N / 2 ^ j)).num.natAbs) ∧ OwnAt wr w.heap.size ad nd cd (digs (m ^ (N / 2 ^ j)).den) ∧ Below w.heap.size w wr ∧ BO < wr.heap.size ∧ wr.cell? ⟨w.heap.size, 0, none⟩ = some (.bool (neg m.num)) ∧ wr.cell? ⟨w.heap.size, 1, none⟩ = some (.slice a2 n2 c2) ∧ wr.cell? ⟨w.heap.size, 2, none⟩ = some (.slice a1 n1 c1) ∧ wr.cell? ⟨w.heap.size + 1, 0, none⟩ = some (.bool false) ∧ wr.cell? ⟨w.heap.size + 1, 1, none⟩ = some (.slice none 0 0) ∧ wr.cell? ⟨w.heap.size + 1, 2, none⟩ = some (.slice none 0 0) ∧ wr.cell? ⟨BO, 0, none⟩ = some (.bool (neg (m ^ (N / 2 ^ j)).num)) ∧ wr.cell? ⟨BO, 1, none⟩ = some (.slice au nu cu) ∧ wr.cell? ⟨BO, 2, none⟩ = some (.slice ad nd cd) ∧ BoxAt wr (w.heap.size + 1) 3 ∧ BoxAt wr BO 3) (fun bt _ => (intOf bt).toNat)
 case atStart =>
  have e0 : N / 2 ^ 15 = 0 := Nat.div_eq_of_lt (Nat.lt_of_le_of_lt HN.out (by decide))
  refine ⟨15, 16384, ahV, nhV, chV, ahW, nhW, chW, Nat.le_refl _, by decide, rfl, ?_⟩
  rw [e0, Rat.pow_zero]
  exact ⟨hV, hW, hB, lo, qx0, qx1, qx2, qr0, qr1, qr2, qo0, qo1, qo2, xr, xo⟩
 case round =>
  clear g1 g2
  clear hB lo qx0 qx1 qx2 qr0 qr1 qr2 qo0 qo1 qo2 xr xo lx lr xx hV hW
  obtain ⟨j, b, au, nu, cu, ad, nd, cd, hj, hbj, rfl, hU, hD, hB, lo, qx0, qx1, qx2, qr0, qr1, qr2, qo0, qo1, qo2, xr, xo⟩ := hrel
  have lx : w.heap.size < wr.heap.size := by omega
  have lr : w.heap.size + 1 < wr.heap.size := by omega
  by_cases hj0 : j = 0
  · subst hj0
    obtain rfl : b = 0 := by rw [hbj]
    rw [Nat.pow_zero, Nat.div_one] at hU hD qo0
    obtain ⟨P, hP⟩ : ∃ P, m ^ N = P := ⟨_, rfl⟩
    rw [hP] at hU hD qo0
    have HP := Lib.hid hP
    clear hbj hP hj
    have zf0 := xr.f 0 (by decide)
    have zf1 := xr.f 1 (by decide)
    have zf2 := xr.f 2 (by decide)
    go_wp2
    obtain ⟨w1, hW, hO, qN0, qN1, qN2, xN⟩ := store3 xr (.bool (neg P.num)) (.slice au nu cu) (.slice ad nd cd) (Go.Proofs.YtmhjhhcdjecdbaaGreat.nu rfl) (Go.Proofs.YtmhjhhcdjecdbaaGreat.nu rfl) (Go.Proofs.YtmhjhhcdjecdbaaGreat.nu rfl)
    try rw [hW]
    clear hW
    have hU := hO.own hU
    have hD := hO.own hD
    have qx0 := (hO.cell (b2 := w.heap.size) (k := 0) (by omega)).trans qx0
    have qx1 := (hO.cell (b2 := w.heap.size) (k := 1) (by omega)).trans qx1
    have qx2 := (hO.cell (b2 := w.heap.size) (k := 2) (by omega)).trans qx2
    have lx : w.heap.size < w1.heap.size := by rw [hO.size]; exact lx
    have lr : w.heap.size + 1 < w1.heap.size := by rw [hO.size]; exact lr
    have qo0 := (hO.cell (b2 := BO) (k := 0) (by omega)).trans qo0
    have qo1 := (hO.cell (b2 := BO) (k := 1) (by omega)).trans qo1
    have qo2 := (hO.cell (b2 := BO) (k := 2) (by omega)).trans qo2
    have xo := hO.box xo
    have lo : BO < w1.heap.size := by rw [hO.size]; exact lo
    have qr0 := qN0
    have qr1 := qN1
    have qr2 := qN2
    have xr := xN
    have hB := hO.below (by omega) hB
    clear hO qN0 qN1 qN2 xN zf0 zf1 zf2
    obtain rfl := HP.out
    refine bodyPost_ret (v := .tuple #[.agg #[.bool (neg (m ^ N).num), .slice au nu cu, .slice ad nd cd], .int .i64 0]) ?_ rfl ⟨_, _, _, _, _, _, rfl, hU, hD, hB⟩
    simp [results, Tryz.f20, go_sem, qr0, qr1, qr2]
  · obtain ⟨i, rfl⟩ : ∃ i, j = i + 1 := ⟨j - 1, by omega⟩
    have hb2 : b = 2 ^ i := by rw [hbj, Nat.pow_succ, Nat.mul_div_cancel _ (by decide)]
    have hbb : 2 ^ i ≤ 16384 := Nat.pow_le_pow_right (n := 2) (by decide) (show i ≤ 14 by omega)
    have hb0 : 0 < 2 ^ i := Nat.pow_pos (by decide)
    have hq : N / 2 ^ (i + 1) = N / 2 ^ i / 2 := by rw [Nat.pow_succ, Nat.div_div_eq_div_mul]
    have hle : N / 2 ^ (i + 1) ≤ N := Nat.div_le_self _ _
    have hle2 : 2 * (N / 2 ^ (i + 1)) ≤ N := by rw [hq]; have := Nat.div_le_self N (2 ^ i); omega
    have hn1 := HLEN.out (N / 2 ^ (i + 1)) hle
    have hn2 := HLEN.out (2 * (N / 2 ^ (i + 1))) hle2
    have es1 := pow_num m (N / 2 ^ (i + 1)) (N / 2 ^ (i + 1))
    have es2 := pow_den m (N / 2 ^ (i + 1)) (N / 2 ^ (i + 1))
    rw [show N / 2 ^ (i + 1) + N / 2 ^ (i + 1) = 2 * (N / 2 ^ (i + 1)) by omega] at es1 es2
    have va := and_pow N i (by have := HN.out; omega) (by omega)
    rw [← hb2] at va hbb hb0
    have hnext : b / 2 = 2 ^ i / 2 := by rw [hb2]
    have HNX := Lib.hid hnext
    have hi15 : i ≤ 15 := by omega
    have et1 := pow_num m (2 * (N / 2 ^ (i + 1))) 1
    have et2 := pow_den m (2 * (N / 2 ^ (i + 1))) 1
    rw [Rat.pow_one] at et1 et2
    have g1 := g10.past hB
    have g2 := g20.past hB
    obtain ⟨P, hP⟩ : ∃ P, m ^ (N / 2 ^ (i + 1)) = P := ⟨_, rfl⟩
    rw [hP] at hU hD qo0 es1 es2 hn1
    obtain ⟨P2, hP2⟩ : ∃ P2, m ^ (2 * (N / 2 ^ (i + 1))) = P2 := ⟨_, rfl⟩
    rw [hP2] at es1 es2 et1 et2 hn2
    have es2 : val (digs P.den) * val (digs P.den) = P2.den := by rw [val_digs]; exact es2
    have bu : nu ≤ 17179869184 := by have := hU.len; unfold rlen at hn1; omega
    have bd : nd ≤ 17179869184 := by have := hD.len; unfold rlen at hn1; omega
    unfold rlen at hn2
    have HN2 := Lib.hid hn2
    have ES1 := Lib.hid es1
    have ES2 := Lib.hid es2
    by_cases hbit : N / 2 ^ i % 2 = 1
    · have va2 : bits .and .i64 (N : Int) (b : Int) = (b : Int) := by rw [va, hb2, hbit, Nat.one_mul]
      have hexp : 2 * (N / 2 ^ (i + 1)) + 1 = N / 2 ^ i := by rw [hq]; omega
      rw [hexp] at et1 et2
      obtain ⟨P3, hP3⟩ : ∃ P3, m ^ (N / 2 ^ i) = P3 := ⟨_, rfl⟩
      rw [hP3] at et1 et2
      have et2 : val (digs P2.den) * val (digs m.den) = P3.den := by rw [val_digs, val_digs]; exact et2
      have ET1 := Lib.hid et1
      have ET2 := Lib.hid et2
      have HP3 := Lib.hid hP3
      clear va hbit hexp hq hle hle2 hn1 hn2 es1 es2 et1 et2 hnext hbj hb2 hj hj0 hP hP2 hP3
      go_wp2_with fail
      have szW := hB.size
      refine wp_region_inv (by kernel_rfl) rfl (by kernel_rfl) (fun A0 V0 dd aa ww => ∃ (y47 y48 y49 y50 y51 y52 y53 y54 y55 : Value), aa = puts A0 [(47, y47), (48, y48), (49, y49), (50, y50), (51, y51), (52, y52), (53, y53), (54, y54), (55, y55)] ∧ Below (w).heap.size (w) ww ∧ V0.heap.size ≤ ww.heap.size ∧ OwnAt ww w.heap.size au nu cu (digs P.num.natAbs) ∧ OwnAt ww w.heap.size ad nd cd (digs P.den) ∧ NatAt ww a1 n1 c1 (digs m.den) ∧ NatAt ww a2 n2 c2 (digs m.num.natAbs) ∧ Cells ww (w.heap.size) [.bool (neg m.num), .slice a2 n2 c2, .slice a1 n1 c1] ∧ Cells ww (w.heap.size + 1) [.bool false, .slice none 0 0, .slice none 0 0] ∧ BoxAt ww (w.heap.size + 1) 3 ∧ BoxAt ww (BO) 3 ∧ Shut (dd 9 = false → Cells ww (BO) [.bool (neg P.num), .slice au nu cu, .slice ad nd cd]) ∧ Shut (dd 0 = true → y47 = .pointer (some ⟨BO, 0, none⟩)) ∧ Shut (dd 1 = true → y48 = .agg #[.bool (neg P.num), .slice au nu cu]) ∧ Shut (dd 2 = true → y49 = .pointer (some ⟨BO, 0, none⟩)) ∧ Shut (dd 3 = true → y50 = .agg #[.bool (neg P.num), .slice au nu cu]) ∧ Shut (dd 4 = true → CopyV V0.heap.size (neg P2.num) (digs P2.num.natAbs) y51 ww) ∧ Shut (dd 5 = true → y52 = .pointer (some ⟨BO, 2, none⟩)) ∧ Shut (dd 6 = true → y53 = .slice ad nd cd) ∧ Shut (dd 7 = true → NatV V0.heap.size (digs P2.den) y54 ww) ∧ Shut (dd 8 = true → y55 = bld [y51, y54]) ∧ Shut (dd 9 = true → CellsV (BO) y55 ww) ∧ True) ?_ ?_ ?_
      · exact ⟨_, _, _, _, _, _, _, _, _, puts_self _ [47, 48, 49, 50, 51, 52, 53, 54, 55], hB.drew, Nat.le_refl _, hU.drew, hD.drew, g1.drew, g2.drew, (by intro k hk; simp at hk; rcases (by omega : k = 0 ∨ k = 1 ∨ k = 2) with rfl | rfl | rfl <;> assumption), (by intro k hk; simp at hk; rcases (by omega : k = 0 ∨ k = 1 ∨ k = 2) with rfl | rfl | rfl <;> assumption), xr.drew, xo.drew, (fun _ => by intro k hk; simp at hk; rcases (by omega : k = 0 ∨ k = 1 ∨ k = 2) with rfl | rfl | rfl <;> assumption), fun h => (by cases h), fun h => (by cases h), fun h => (by cases h), fun h => (by cases h), fun h => (by cases h), fun h => (by cases h), fun h => (by cases h), fun h => (by cases h), fun h => (by cases h), fun h => (by cases h), trivial⟩
      · refine Steps.cons ?_ (Steps.cons ?_ (Steps.cons ?_ (Steps.cons ?_ (Steps.cons ?_ (Steps.cons ?_ (Steps.cons ?_ (Steps.cons ?_ (Steps.cons ?_ (Steps.cons ?_ (Steps.nil))))))))))
        · intro dd aa ww K hc hun hn hI hK
          obtain ⟨y47, y48, y49, y50, y51, y52, y53, y54, y55, ea, hb, hsz, vhU, vhD, vg1, vg2, cx, cr, xr, xo, po, f0, f1, f2, f3, f4, f5, f6, f7, f8, f9, _⟩ := hI
          try simp [Region.binds] at hn
          subst ea
          simp only [puts, Act.put, lsA, lsZ, lsS]
          go_simp
          refine hK.out _ _ ?_
          exact ⟨.pointer (some ⟨BO, 0, none⟩), y48, y49, y50, y51, y52, y53, y54, y55, by simp only [puts, Act.put, lsA, lsZ, lsS], hb, hsz, vhU, vhD, vg1, vg2, cx, cr, xr, xo, fun h => (po.out (upd_off h)), fun _ => rfl, uo f1 rfl, uo f2 rfl, uo f3 rfl, uo f4 rfl, uo f5 rfl, uo f6 rfl, uo f7 rfl, uo f8 rfl, uo f9 rfl, trivial⟩
        · intro dd aa ww K hc hun hn hI hK
          obtain ⟨y47, y48, y49, y50, y51, y52, y53, y54, y55, ea, hb, hsz, vhU, vhD, vg1, vg2, cx, cr, xr, xo, po, f0, f1, f2, f3, f4, f5, f6, f7, f8, f9, _⟩ := hI
          try simp [Region.binds] at hn
          have ex := f0.out (by first | (simp [hn]; done) | exact rc hc hn | exact rc hc hn.1 | exact rc hc hn.2 | exact rc hc hn.2.1 | exact rc hc hn.2.2)
          subst ex
          have hs := hc.not (f := 8) (s := 9) (l := 1) (by kernel_rfl) hun
          have e0 := po.out hs 0 (by simp)
          simp only [lgZ, lgS] at e0
          have e1 := po.out hs 1 (by simp)
          simp only [lgZ, lgS] at e1
          subst ea
          simp only [puts, Act.put, lsA, lsZ, lsS]
          go_simp
          refine hK.out _ _ ?_
          exact ⟨.pointer (some ⟨BO, 0, none⟩), .agg #[.bool (neg P.num), .slice au nu cu], y49, y50, y51, y52, y53, y54, y55, by simp only [puts, Act.put, lsA, lsZ, lsS], hb, hsz, vhU, vhD, vg1, vg2, cx, cr, xr, xo, fun h => (po.out (upd_off h)), fun h => rfl, fun _ => rfl, uo f2 rfl, uo f3 rfl, uo f4 rfl, uo f5 rfl, uo f6 rfl, uo f7 rfl, uo f8 rfl, uo f9 rfl, trivial⟩
        · intro dd aa ww K hc hun hn hI hK
          obtain ⟨y47, y48, y49, y50, y51, y52, y53, y54, y55, ea, hb, hsz, vhU, vhD, vg1, vg2, cx, cr, xr, xo, po, f0, f1, f2, f3, f4, f5, f6, f7, f8, f9, _⟩ := hI
          try simp [Region.binds] at hn
          subst ea
          simp only [puts, Act.put, lsA, lsZ, lsS]
          go_simp
          refine hK.out _ _ ?_
          exact ⟨y47, y48, .pointer (some ⟨BO, 0, none⟩), y50, y51, y52, y53, y54, y55, by simp only [puts, Act.put, lsA, lsZ, lsS], hb, hsz, vhU, vhD, vg1, vg2, cx, cr, xr, xo, fun h => (po.out (upd_off h)), uo f0 rfl, uo f1 rfl, fun _ => rfl, uo f3 rfl, uo f4 rfl, uo f5 rfl, uo f6 rfl, uo f7 rfl, uo f8 rfl, uo f9 rfl, trivial⟩
        · intro dd aa ww K hc hun hn hI hK
          obtain ⟨y47, y48, y49, y50, y51, y52, y53, y54, y55, ea, hb, hsz, vhU, vhD, vg1, vg2, cx, cr, xr, xo, po, f0, f1, f2, f3, f4, f5, f6, f7, f8, f9, _⟩ := hI
          try simp [Region.binds] at hn
          have ex := f2.out (by first | (simp [hn]; done) | exact rc hc hn | exact rc hc hn.1 | exact rc hc hn.2 | exact rc hc hn.2.1 | exact rc hc hn.2.2)
          subst ex
          have hs := hc.not (f := 8) (s := 9) (l := 3) (by kernel_rfl) hun
          have e0 := po.out hs 0 (by simp)
          simp only [lgZ, lgS] at e0
          have e1 := po.out hs 1 (by simp)
          simp only [lgZ, lgS] at e1
          subst ea
          simp only [puts, Act.put, lsA, lsZ, lsS]
          go_simp
          refine hK.out _ _ ?_
          exact ⟨y47, y48, .pointer (some ⟨BO, 0, none⟩), .agg #[.bool (neg P.num), .slice au nu cu], y51, y52, y53, y54, y55, by simp only [puts, Act.put, lsA, lsZ, lsS], hb, hsz, vhU, vhD, vg1, vg2, cx, cr, xr, xo, fun h => (po.out (upd_off h)), uo f0 rfl, uo f1 rfl, fun h => rfl, fun _ => rfl, uo f4 rfl, uo f5 rfl, uo f6 rfl, uo f7 rfl, uo f8 rfl, uo f9 rfl, trivial⟩
        · intro dd aa ww K hc hun hn hI hK
          obtain ⟨y47, y48, y49, y50, y51, y52, y53, y54, y55, ea, hb, hsz, vhU, vhD, vg1, vg2, cx, cr, xr, xo, po, f0, f1, f2, f3, f4, f5, f6, f7, f8, f9, _⟩ := hI
          try simp [Region.binds] at hn
          have ex := f1.out (by first | (simp [hn]; done) | exact rc hc hn | exact rc hc hn.1 | exact rc hc hn.2 | exact rc hc hn.2.1 | exact rc hc hn.2.2)
          subst ex
          have ex := f3.out (by first | (simp [hn]; done) | exact rc hc hn | exact rc hc hn.1 | exact rc hc hn.2 | exact rc hc hn.2.1 | exact rc hc hn.2.2)
          subst ex
          subst ea
          simp only [puts, Act.put, lsA, lsZ, lsS]
          go_simp
          with_reducible refine (smul_c vhU.toNatAt vhU.toNatAt (by omega) (by omega)).mono ?_
          rintro e w1 ⟨ahX, nhX, chX, rfl, hX, h1⟩
          rw [ES1.out] at hX ⊢
          refine hK.out _ _ ?_
          exact ⟨y47, .agg #[.bool (neg P.num), .slice au nu cu], y49, .agg #[.bool (neg P.num), .slice au nu cu], .agg #[.bool (neg P2.num), .slice ahX nhX chX], y52, y53, y54, y55, by simp only [puts, Act.put, lsA, lsZ, lsS], below_later hb h1, Nat.le_trans hsz h1.size, vhU.past h1, vhD.past h1, vg1.past h1, vg2.past h1, cx.past h1 (Nat.lt_of_lt_of_le lx hsz), cr.past h1 (Nat.lt_of_lt_of_le lr hsz), xr.past h1 (Nat.lt_of_lt_of_le lr hsz), xo.past h1 (Nat.lt_of_lt_of_le lo hsz), fun h => (po.out (upd_off h)).past h1 (Nat.lt_of_lt_of_le lo hsz), uo f0 rfl, fun h => rfl, uo f2 rfl, fun h => rfl, fun _ => ⟨_, _, _, rfl, hX.mono hsz⟩, uo f5 rfl, uo f6 rfl, fun h => (f7.out (upd_of rfl h)).past h1, fun h => absurd (hc.reach (f := 8) (s := 8) (l := 4) (by kernel_rfl) (upd_of rfl h)) (by rw [hun]; decide), fun h => (f9.out (upd_of rfl h)).past h1 (Nat.lt_of_lt_of_le lo hsz), trivial⟩
        · intro dd aa ww K hc hun hn hI hK
          obtain ⟨y47, y48, y49, y50, y51, y52, y53, y54, y55, ea, hb, hsz, vhU, vhD, vg1, vg2, cx, cr, xr, xo, po, f0, f1, f2, f3, f4, f5, f6, f7, f8, f9, _⟩ := hI
          try simp [Region.binds] at hn
          subst ea
          simp only [puts, Act.put, lsA, lsZ, lsS]
          go_simp
          refine hK.out _ _ ?_
          exact ⟨y47, y48, y49, y50, y51, .pointer (some ⟨BO, 2, none⟩), y53, y54, y55, by simp only [puts, Act.put, lsA, lsZ, lsS], hb, hsz, vhU, vhD, vg1, vg2, cx, cr, xr, xo, fun h => (po.out (upd_off h)), uo f0 rfl, uo f1 rfl, uo f2 rfl, uo f3 rfl, uo f4 rfl, fun _ => rfl, uo f6 rfl, uo f7 rfl, uo f8 rfl, uo f9 rfl, trivial⟩
        · intro dd aa ww K hc hun hn hI hK
          obtain ⟨y47, y48, y49, y50, y51, y52, y53, y54, y55, ea, hb, hsz, vhU, vhD, vg1, vg2, cx, cr, xr, xo, po, f0, f1, f2, f3, f4, f5, f6, f7, f8, f9, _⟩ := hI
          try simp [Region.binds] at hn
          have ex := f5.out (by first | (simp [hn]; done) | exact rc hc hn | exact rc hc hn.1 | exact rc hc hn.2 | exact rc hc hn.2.1 | exact rc hc hn.2.2)
          subst ex
          have hs := hc.not (f := 8) (s := 9) (l := 6) (by kernel_rfl) hun
          have e2 := po.out hs 2 (by simp)
          simp only [lgZ, lgS] at e2
          subst ea
          simp only [puts, Act.put, lsA, lsZ, lsS]
          go_simp
          refine hK.out _ _ ?_
          exact ⟨y47, y48, y49, y50, y51, .pointer (some ⟨BO, 2, none⟩), .slice ad nd cd, y54, y55, by simp only [puts, Act.put, lsA, lsZ, lsS], hb, hsz, vhU, vhD, vg1, vg2, cx, cr, xr, xo, fun h => (po.out (upd_off h)), uo f0 rfl, uo f1 rfl, uo f2 rfl, uo f3 rfl, uo f4 rfl, fun h => rfl, fun _ => rfl, uo f7 rfl, uo f8 rfl, uo f9 rfl, trivial⟩
        · intro dd aa ww K hc hun hn hI hK
          obtain ⟨y47, y48, y49, y50, y51, y52, y53, y54, y55, ea, hb, hsz, vhU, vhD, vg1, vg2, cx, cr, xr, xo, po, f0, f1, f2, f3, f4, f5, f6, f7, f8, f9, _⟩ := hI
          try simp [Region.binds] at hn
          have ex := f6.out (by first | (simp [hn]; done) | exact rc hc hn | exact rc hc hn.1 | exact rc hc hn.2 | exact rc hc hn.2.1 | exact rc hc hn.2.2)
          subst ex
          subst ea
          simp only [puts, Act.put, lsA, lsZ, lsS]
          go_simp
          with_reducible refine (square_any _ _ _ (digs P.den) _ vhD.toNatAt (by omega)).mono ?_
          rintro e w1 ⟨ahY, nhY, chY, rfl, hY, h1⟩
          rw [ES2.out] at hY
          refine hK.out _ _ ?_
          exact ⟨y47, y48, y49, y50, y51, y52, .slice ad nd cd, .slice ahY nhY chY, y55, by simp only [puts, Act.put, lsA, lsZ, lsS], below_later hb h1, Nat.le_trans hsz h1.size, vhU.past h1, vhD.past h1, vg1.past h1, vg2.past h1, cx.past h1 (Nat.lt_of_lt_of_le lx hsz), cr.past h1 (Nat.lt_of_lt_of_le lr hsz), xr.past h1 (Nat.lt_of_lt_of_le lr hsz), xo.past h1 (Nat.lt_of_lt_of_le lo hsz), fun h => (po.out (upd_off h)).past h1 (Nat.lt_of_lt_of_le lo hsz), uo f0 rfl, uo f1 rfl, uo f2 rfl, uo f3 rfl, fun h => (f4.out (upd_of rfl h)).past h1, uo f5 rfl, fun h => rfl, fun _ => ⟨_, _, _, rfl, hY.mono hsz⟩, fun h => absurd (hc.reach (f := 8) (s := 8) (l := 7) (by kernel_rfl) (upd_of rfl h)) (by rw [hun]; decide), fun h => (f9.out (upd_of rfl h)).past h1 (Nat.lt_of_lt_of_le lo hsz), trivial⟩
        · intro dd aa ww K hc hun hn hI hK
          obtain ⟨y47, y48, y49, y50, y51, y52, y53, y54, y55, ea, hb, hsz, vhU, vhD, vg1, vg2, cx, cr, xr, xo, po, f0, f1, f2, f3, f4, f5, f6, f7, f8, f9, _⟩ := hI
          try simp [Region.binds] at hn
          obtain ⟨ahX, nhX, chX, ex, hX⟩ := f4.out (by first | (simp [hn]; done) | exact rc hc hn | exact rc hc hn.1 | exact rc hc hn.2 | exact rc hc hn.2.1 | exact rc hc hn.2.2)
          subst ex
          obtain ⟨ahY, nhY, chY, ex, hY⟩ := f7.out (by first | (simp [hn]; done) | exact rc hc hn | exact rc hc hn.1 | exact rc hc hn.2 | exact rc hc hn.2.1 | exact rc hc hn.2.2)
          subst ex
          subst ea
          simp only [puts, Act.put, lsA, lsZ, lsS]
          go_simp
          refine hK.out _ _ ?_
          exact ⟨y47, y48, y49, y50, .agg #[.bool (neg P2.num), .slice ahX nhX chX], y52, y53, .slice ahY nhY chY, .agg #[.bool (neg P2.num), .slice ahX nhX chX, .slice ahY nhY chY], by simp only [puts, Act.put, lsA, lsZ, lsS], hb, hsz, vhU, vhD, vg1, vg2, cx, cr, xr, xo, fun h => (po.out (upd_off h)), uo f0 rfl, uo f1 rfl, uo f2 rfl, uo f3 rfl, uo f4 rfl, uo f5 rfl, uo f6 rfl, uo f7 rfl, fun _ => rfl, fun h => absurd (hc.reach (f := 8) (s := 9) (l := 8) (by kernel_rfl) (upd_of rfl h)) (by rw [hun]; decide), trivial⟩
        · intro dd aa ww K hc hun hn hI hK
          obtain ⟨y47, y48, y49, y50, y51, y52, y53, y54, y55, ea, hb, hsz, vhU, vhD, vg1, vg2, cx, cr, xr, xo, po, f0, f1, f2, f3, f4, f5, f6, f7, f8, f9, _⟩ := hI
          try simp [Region.binds] at hn
          obtain ⟨ahX, nhX, chX, ex, hX⟩ := f4.out (by first | (simp [hn]; done) | exact rc hc hn | exact rc hc hn.1 | exact rc hc hn.2 | exact rc hc hn.2.1 | exact rc hc hn.2.2)
          subst ex
          obtain ⟨ahY, nhY, chY, ex, hY⟩ := f7.out (by first | (simp [hn]; done) | exact rc hc hn | exact rc hc hn.1 | exact rc hc hn.2 | exact rc hc hn.2.1 | exact rc hc hn.2.2)
          subst ex
          have ex : y55 = .agg #[.bool (neg P2.num), .slice ahX nhX chX, .slice ahY nhY chY] := f8.out (by first | (simp [hn]; done) | exact rc hc hn | exact rc hc hn.1 | exact rc hc hn.2 | exact rc hc hn.2.1 | exact rc hc hn.2.2)
          subst ex
          have x3 := xo
          obtain ⟨v0, v1, v2, z0, z1, z2, z3, z4, z5, _, _, _⟩ := x3.three
          have hv : ∀ v ∈ ([.bool (neg P2.num), .slice ahX nhX chX, .slice ahY nhY chY] : List Value), notU v := by simp [notU_bool, notU_slice, notU_i64]
          subst ea
          simp only [puts, Act.put, lsA, lsZ, lsS]
          go_simp
          refine hK.out _ _ ?_
          exact ⟨y47, y48, y49, y50, .agg #[.bool (neg P2.num), .slice ahX nhX chX], y52, y53, .slice ahY nhY chY, .agg #[.bool (neg P2.num), .slice ahX nhX chX, .slice ahY nhY chY], by simp only [puts, Act.put, lsA, lsZ, lsS], hb.trans (below_setCells _ _ (by omega) [.bool (neg P2.num), .slice ahX nhX chX, .slice ahY nhY chY] 0 _), (by simpa using hsz), OwnAt.sets [.bool (neg P2.num), .slice ahX nhX chX, .slice ahY nhY chY] 0 _ vhU x3 (by simp) hv, OwnAt.sets [.bool (neg P2.num), .slice ahX nhX chX, .slice ahY nhY chY] 0 _ vhD x3 (by simp) hv, NatAt.sets [.bool (neg P2.num), .slice ahX nhX chX, .slice ahY nhY chY] 0 _ vg1 x3 (by simp) hv, NatAt.sets [.bool (neg P2.num), .slice ahX nhX chX, .slice ahY nhY chY] 0 _ vg2 x3 (by simp) hv, Cells.sets (by omega) [.bool (neg P2.num), .slice ahX nhX chX, .slice ahY nhY chY] 0 _ cx, Cells.sets (by omega) [.bool (neg P2.num), .slice ahX nhX chX, .slice ahY nhY chY] 0 _ cr, BoxAt.sets [.bool (neg P2.num), .slice ahX nhX chX, .slice ahY nhY chY] _ 0 _ xr hv, BoxAt.sets [.bool (neg P2.num), .slice ahX nhX chX, .slice ahY nhY chY] _ 0 _ xo hv, fun h => absurd h (by simp [upd]), uo f0 rfl, uo f1 rfl, uo f2 rfl, uo f3 rfl, fun h => ((f4.out (upd_of rfl h)).setsOff lo [.bool (neg P2.num), .slice ahX nhX chX, .slice ahY nhY chY]), uo f5 rfl, uo f6 rfl, fun h => ((f7.out (upd_of rfl h)).setsOff lo [.bool (neg P2.num), .slice ahX nhX chX, .slice ahY nhY chY]), fun h => rfl, fun _ => ⟨[.bool (neg P2.num), .slice ahX nhX chX, .slice ahY nhY chY], rfl, Cells.new x3 [.bool (neg P2.num), .slice ahX nhX chX, .slice ahY nhY chY] (by simp)⟩, trivial⟩
      intro dd aa w1 hd hI
      obtain ⟨y47, y48, y49, y50, y51, y52, y53, y54, y55, ea, hb, hsz, vhU, vhD, vg1, vg2, cx, cr, xr, xo, po, f0, f1, f2, f3, f4, f5, f6, f7, f8, f9, _⟩ := hI
      have ex := f0.out (hd 0 (by simp))
      subst ex
      have ex := f1.out (hd 1 (by simp))
      subst ex
      have ex := f2.out (hd 2 (by simp))
      subst ex
      have ex := f3.out (hd 3 (by simp))
      subst ex
      obtain ⟨ahX, nhX, chX, ex, hX⟩ := f4.out (hd 4 (by simp))
      subst ex
      have ex := f5.out (hd 5 (by simp))
      subst ex
      have ex := f6.out (hd 6 (by simp))
      subst ex
      obtain ⟨ahY, nhY, chY, ex, hY⟩ := f7.out (hd 7 (by simp))
      subst ex
      have ex : y55 = .agg #[.bool (neg P2.num), .slice ahX nhX chX, .slice ahY nhY chY] := f8.out (hd 8 (by simp))
      subst ex
      obtain ⟨vs9, e, h9⟩ := f9.out (hd 9 (by simp))
      cases e
      have lo := Nat.lt_of_lt_of_le lo hsz
      have qo0 := h9 0 (by simp)
      simp only [lgZ, lgS] at qo0
      have qo1 := h9 1 (by simp)
      simp only [lgZ, lgS] at qo1
      have qo2 := h9 2 (by simp)
      simp only [lgZ, lgS] at qo2
      subst ea
      simp only [puts, Act.put, lsA, lsZ, lsS]
      have hX := hX.mono szW
      have hY := hY.mono szW
      have hU := vhU
      have hD := vhD
      have g1 := vg1
      have g2 := vg2
      have lx := Nat.lt_of_lt_of_le lx hsz
      have qx0 := cx 0 (by simp)
      simp only [lgZ, lgS] at qx0
      have qx1 := cx 1 (by simp)
      simp only [lgZ, lgS] at qx1
      have qx2 := cx 2 (by simp)
      simp only [lgZ, lgS] at qx2
      clear cx
      have lr := Nat.lt_of_lt_of_le lr hsz
      have qr0 := cr 0 (by simp)
      simp only [lgZ, lgS] at qr0
      have qr1 := cr 1 (by simp)
      simp only [lgZ, lgS] at qr1
      have qr2 := cr 2 (by simp)
      simp only [lgZ, lgS] at qr2
      clear cr
      have hB := hb
      clear po
      clear hb hd
      have bX : nhX ≤ 17179869184 := by have := hX.len; have := HN2.out; omega
      have bY : nhY ≤ 17179869184 := by have := hY.len; have := HN2.out; omega
      go_wp2_with fail
      have szW := hB.size
      refine wp_region_inv (by kernel_rfl) rfl (by kernel_rfl) (fun A0 V0 dd aa ww => ∃ (y60 y61 y62 y63 y64 y65 y66 y67 y68 y69 y70 : Value), aa = puts A0 [(60, y60), (61, y61), (62, y62), (63, y63), (64, y64), (65, y65), (66, y66), (67, y67), (68, y68), (69, y69), (70, y70)] ∧ Below (w).heap.size (w) ww ∧ V0.heap.size ≤ ww.heap.size ∧ OwnAt ww w.heap.size ahX nhX chX (digs P2.num.natAbs) ∧ OwnAt ww w.heap.size ahY nhY chY (digs P2.den) ∧ NatAt ww a1 n1 c1 (digs m.den) ∧ NatAt ww a2 n2 c2 (digs m.num.natAbs) ∧ Cells ww (w.heap.size) [.bool (neg m.num), .slice a2 n2 c2, .slice a1 n1 c1] ∧ Cells ww (w.heap.size + 1) [.bool false, .slice none 0 0, .slice none 0 0] ∧ BoxAt ww (w.heap.size + 1) 3 ∧ BoxAt ww (BO) 3 ∧ Shut (dd 11 = false → Cells ww (BO) [.bool (neg P2.num), .slice ahX nhX chX, .slice ahY nhY chY]) ∧ Shut (dd 0 = true → y60 = .pointer (some ⟨BO, 0, none⟩)) ∧ Shut (dd 1 = true → y61 = .agg #[.bool (neg P2.num), .slice ahX nhX chX]) ∧ Shut (dd 2 = true → y62 = .pointer (some ⟨w.heap.size, 0, none⟩)) ∧ Shut (dd 3 = true → y63 = .agg #[.bool (neg m.num), .slice a2 n2 c2]) ∧ Shut (dd 4 = true → CopyV V0.heap.size (neg P3.num) (digs P3.num.natAbs) y64 ww) ∧ Shut (dd 5 = true → y65 = .pointer (some ⟨BO, 2, none⟩)) ∧ Shut (dd 6 = true → y66 = .slice ahY nhY chY) ∧ Shut (dd 7 = true → y67 = .pointer (some ⟨w.heap.size, 2, none⟩)) ∧ Shut (dd 8 = true → y68 = .slice a1 n1 c1) ∧ Shut (dd 9 = true → NatV V0.heap.size (digs P3.den) y69 ww) ∧ Shut (dd 10 = true → y70 = bld [y64, y69]) ∧ Shut (dd 11 = true → CellsV (BO) y70 ww) ∧ True) ?_ ?_ ?_
      · exact ⟨_, _, _, _, _, _, _, _, _, _, _, puts_self _ [60, 61, 62, 63, 64, 65, 66, 67, 68, 69, 70], hB.drew, Nat.le_refl _, hX.drew, hY.drew, g1.drew, g2.drew, (by intro k hk; simp at hk; rcases (by omega : k = 0 ∨ k = 1 ∨ k = 2) with rfl | rfl | rfl <;> assumption), (by intro k hk; simp at hk; rcases (by omega : k = 0 ∨ k = 1 ∨ k = 2) with rfl | rfl | rfl <;> assumption), xr.drew, xo.drew, (fun _ => by intro k hk; simp at hk; rcases (by omega : k = 0 ∨ k = 1 ∨ k = 2) with rfl | rfl | rfl <;> assumption), fun h => (by cases h), fun h => (by cases h), fun h => (by cases h), fun h => (by cases h), fun h => (by cases h), fun h => (by cases h), fun h => (by cases h), fun h => (by cases h), fun h => (by cases h), fun h => (by cases h), fun h => (by cases h), fun h => (by cases h), trivial⟩
      · refine Steps.cons ?_ (Steps.cons ?_ (Steps.cons ?_ (Steps.cons ?_ (Steps.cons ?_ (Steps.cons ?_ (Steps.cons ?_ (Steps.cons ?_ (Steps.cons ?_ (Steps.cons ?_ (Steps.cons ?_ (Steps.cons ?_ (Steps.nil))))))))))))
        · intro dd aa ww K hc hun hn hI hK
          obtain ⟨y60, y61, y62, y63, y64, y65, y66, y67, y68, y69, y70, ea, hb, hsz, vhX, vhY, vg1, vg2, cx, cr, xr, xo, po, f0, f1, f2, f3, f4, f5, f6, f7, f8, f9, f10, f11, _⟩ := hI
          try simp [Region.binds] at hn
          subst ea
          simp only [puts, Act.put, lsA, lsZ, lsS]
          go_simp
          refine hK.out _ _ ?_
          exact ⟨.pointer (some ⟨BO, 0, none⟩), y61, y62, y63, y64, y65, y66, y67, y68, y69, y70, by simp only [puts, Act.put, lsA, lsZ, lsS], hb, hsz, vhX, vhY, vg1, vg2, cx, cr, xr, xo, fun h => (po.out (upd_off h)), fun _ => rfl, uo f1 rfl, uo f2 rfl, uo f3 rfl, uo f4 rfl, uo f5 rfl, uo f6 rfl, uo f7 rfl, uo f8 rfl, uo f9 rfl, uo f10 rfl, uo f11 rfl, trivial⟩
        · intro dd aa ww K hc hun hn hI hK
          obtain ⟨y60, y61, y62, y63, y64, y65, y66, y67, y68, y69, y70, ea, hb, hsz, vhX, vhY, vg1, vg2, cx, cr, xr, xo, po, f0, f1, f2, f3, f4, f5, f6, f7, f8, f9, f10, f11, _⟩ := hI
          try simp [Region.binds] at hn
          have ex := f0.out (by first | (simp [hn]; done) | exact rc hc hn | exact rc hc hn.1 | exact rc hc hn.2 | exact rc hc hn.2.1 | exact rc hc hn.2.2)
          subst ex
          have hs := hc.not (f := 8) (s := 11) (l := 1) (by kernel_rfl) hun
          have e0 := po.out hs 0 (by simp)
          simp only [lgZ, lgS] at e0
          have e1 := po.out hs 1 (by simp)
          simp only [lgZ, lgS] at e1
          subst ea
          simp only [puts, Act.put, lsA, lsZ, lsS]
          go_simp
          refine hK.out _ _ ?_
          exact ⟨.pointer (some ⟨BO, 0, none⟩), .agg #[.bool (neg P2.num), .slice ahX nhX chX], y62, y63, y64, y65, y66, y67, y68, y69, y70, by simp only [puts, Act.put, lsA, lsZ, lsS], hb, hsz, vhX, vhY, vg1, vg2, cx, cr, xr, xo, fun h => (po.out (upd_off h)), fun h => rfl, fun _ => rfl, uo f2 rfl, uo f3 rfl, uo f4 rfl, uo f5 rfl, uo f6 rfl, uo f7 rfl, uo f8 rfl, uo f9 rfl, uo f10 rfl, uo f11 rfl, trivial⟩
        · intro dd aa ww K hc hun hn hI hK
          obtain ⟨y60, y61, y62, y63, y64, y65, y66, y67, y68, y69, y70, ea, hb, hsz, vhX, vhY, vg1, vg2, cx, cr, xr, xo, po, f0, f1, f2, f3, f4, f5, f6, f7, f8, f9, f10, f11, _⟩ := hI
          try simp [Region.binds] at hn
          subst ea
          simp only [puts, Act.put, lsA, lsZ, lsS]
          go_simp
          refine hK.out _ _ ?_
          exact ⟨y60, y61, .pointer (some ⟨w.heap.size, 0, none⟩), y63, y64, y65, y66, y67, y68, y69, y70, by simp only [puts, Act.put, lsA, lsZ, lsS], hb, hsz, vhX, vhY, vg1, vg2, cx, cr, xr, xo, fun h => (po.out (upd_off h)), uo f0 rfl, uo f1 rfl, fun _ => rfl, uo f3 rfl, uo f4 rfl, uo f5 rfl, uo f6 rfl, uo f7 rfl, uo f8 rfl, uo f9 rfl, uo f10 rfl, uo f11 rfl, trivial⟩
        · intro dd aa ww K hc hun hn hI hK
          obtain ⟨y60, y61, y62, y63, y64, y65, y66, y67, y68, y69, y70, ea, hb, hsz, vhX, vhY, vg1, vg2, cx, cr, xr, xo, po, f0, f1, f2, f3, f4, f5, f6, f7, f8, f9, f10, f11, _⟩ := hI
          try simp [Region.binds] at hn
          have ex := f2.out (by first | (simp [hn]; done) | exact rc hc hn | exact rc hc hn.1 | exact rc hc hn.2 | exact rc hc hn.2.1 | exact rc hc hn.2.2)
          subst ex
          have e0 := cx 0 (by simp)
          simp only [lgZ, lgS] at e0
          have e1 := cx 1 (by simp)
          simp only [lgZ, lgS] at e1
          subst ea
          simp only [puts, Act.put, lsA, lsZ, lsS]
          go_simp
          refine hK.out _ _ ?_
          exact ⟨y60, y61, .pointer (some ⟨w.heap.size, 0, none⟩), .agg #[.bool (neg m.num), .slice a2 n2 c2], y64, y65, y66, y67, y68, y69, y70, by simp only [puts, Act.put, lsA, lsZ, lsS], hb, hsz, vhX, vhY, vg1, vg2, cx, cr, xr, xo, fun h => (po.out (upd_off h)), uo f0 rfl, uo f1 rfl, fun h => rfl, fun _ => rfl, uo f4 rfl, uo f5 rfl, uo f6 rfl, uo f7 rfl, uo f8 rfl, uo f9 rfl, uo f10 rfl, uo f11 rfl, trivial⟩
        · intro dd aa ww K hc hun hn hI hK
          obtain ⟨y60, y61, y62, y63, y64, y65, y66, y67, y68, y69, y70, ea, hb, hsz, vhX, vhY, vg1, vg2, cx, cr, xr, xo, po, f0, f1, f2, f3, f4, f5, f6, f7, f8, f9, f10, f11, _⟩ := hI
          try simp [Region.binds] at hn
          have ex := f1.out (by first | (simp [hn]; done) | exact rc hc hn | exact rc hc hn.1 | exact rc hc hn.2 | exact rc hc hn.2.1 | exact rc hc hn.2.2)
          subst ex
          have ex := f3.out (by first | (simp [hn]; done) | exact rc hc hn | exact rc hc hn.1 | exact rc hc hn.2 | exact rc hc hn.2.1 | exact rc hc hn.2.2)
          subst ex
          subst ea
          simp only [puts, Act.put, lsA, lsZ, lsS]
          go_simp
          with_reducible refine (smul_c vhX.toNatAt vg2 (by omega) (by omega)).mono ?_
          rintro e w1 ⟨ahS, nhS, chS, rfl, hS, h1⟩
          rw [ET1.out] at hS ⊢
          refine hK.out _ _ ?_
          exact ⟨y60, .agg #[.bool (neg P2.num), .slice ahX nhX chX], y62, .agg #[.bool (neg m.num), .slice a2 n2 c2], .agg #[.bool (neg P3.num), .slice ahS nhS chS], y65, y66, y67, y68, y69, y70, by simp only [puts, Act.put, lsA, lsZ, lsS], below_later hb h1, Nat.le_trans hsz h1.size, vhX.past h1, vhY.past h1, vg1.past h1, vg2.past h1, cx.past h1 (Nat.lt_of_lt_of_le lx hsz), cr.past h1 (Nat.lt_of_lt_of_le lr hsz), xr.past h1 (Nat.lt_of_lt_of_le lr hsz), xo.past h1 (Nat.lt_of_lt_of_le lo hsz), fun h => (po.out (upd_off h)).past h1 (Nat.lt_of_lt_of_le lo hsz), uo f0 rfl, fun h => rfl, uo f2 rfl, fun h => rfl, fun _ => ⟨_, _, _, rfl, hS.mono hsz⟩, uo f5 rfl, uo f6 rfl, uo f7 rfl, uo f8 rfl, fun h => (f9.out (upd_of rfl h)).past h1, fun h => absurd (hc.reach (f := 8) (s := 10) (l := 4) (by kernel_rfl) (upd_of rfl h)) (by rw [hun]; decide), fun h => (f11.out (upd_of rfl h)).past h1 (Nat.lt_of_lt_of_le lo hsz), trivial⟩
        · intro dd aa ww K hc hun hn hI hK
          obtain ⟨y60, y61, y62, y63, y64, y65, y66, y67, y68, y69, y70, ea, hb, hsz, vhX, vhY, vg1, vg2, cx, cr, xr, xo, po, f0, f1, f2, f3, f4, f5, f6, f7, f8, f9, f10, f11, _⟩ := hI
          try simp [Region.binds] at hn
          subst ea
          simp only [puts, Act.put, lsA, lsZ, lsS]
          go_simp
          refine hK.out _ _ ?_
          exact ⟨y60, y61, y62, y63, y64, .pointer (some ⟨BO, 2, none⟩), y66, y67, y68, y69, y70, by simp only [puts, Act.put, lsA, lsZ, lsS], hb, hsz, vhX, vhY, vg1, vg2, cx, cr, xr, xo, fun h => (po.out (upd_off h)), uo f0 rfl, uo f1 rfl, uo f2 rfl, uo f3 rfl, uo f4 rfl, fun _ => rfl, uo f6 rfl, uo f7 rfl, uo f8 rfl, uo f9 rfl, uo f10 rfl, uo f11 rfl, trivial⟩
        · intro dd aa ww K hc hun hn hI hK
          obtain ⟨y60, y61, y62, y63, y64, y65, y66, y67, y68, y69, y70, ea, hb, hsz, vhX, vhY, vg1, vg2, cx, cr, xr, xo, po, f0, f1, f2, f3, f4, f5, f6, f7, f8, f9, f10, f11, _⟩ := hI
          try simp [Region.binds] at hn
          have ex := f5.out (by first | (simp [hn]; done) | exact rc hc hn | exact rc hc hn.1 | exact rc hc hn.2 | exact rc hc hn.2.1 | exact rc hc hn.2.2)
          subst ex
          have hs := hc.not (f := 8) (s := 11) (l := 6) (by kernel_rfl) hun
          have e2 := po.out hs 2 (by simp)
          simp only [lgZ, lgS] at e2
          subst ea
          simp only [puts, Act.put, lsA, lsZ, lsS]
          go_simp
          refine hK.out _ _ ?_
          exact ⟨y60, y61, y62, y63, y64, .pointer (some ⟨BO, 2, none⟩), .slice ahY nhY chY, y67, y68, y69, y70, by simp only [puts, Act.put, lsA, lsZ, lsS], hb, hsz, vhX, vhY, vg1, vg2, cx, cr, xr, xo, fun h => (po.out (upd_off h)), uo f0 rfl, uo f1 rfl, uo f2 rfl, uo f3 rfl, uo f4 rfl, fun h => rfl, fun _ => rfl, uo f7 rfl, uo f8 rfl, uo f9 rfl, uo f10 rfl, uo f11 rfl, trivial⟩
        · intro dd aa ww K hc hun hn hI hK
          obtain ⟨y60, y61, y62, y63, y64, y65, y66, y67, y68, y69, y70, ea, hb, hsz, vhX, vhY, vg1, vg2, cx, cr, xr, xo, po, f0, f1, f2, f3, f4, f5, f6, f7, f8, f9, f10, f11, _⟩ := hI
          try simp [Region.binds] at hn
          subst ea
          simp only [puts, Act.put, lsA, lsZ, lsS]
          go_simp
          refine hK.out _ _ ?_
          exact ⟨y60, y61, y62, y63, y64, y65, y66, .pointer (some ⟨w.heap.size, 2, none⟩), y68, y69, y70, by simp only [puts, Act.put, lsA, lsZ, lsS], hb, hsz, vhX, vhY, vg1, vg2, cx, cr, xr, xo, fun h => (po.out (upd_off h)), uo f0 rfl, uo f1 rfl, uo f2 rfl, uo f3 rfl, uo f4 rfl, uo f5 rfl, uo f6 rfl, fun _ => rfl, uo f8 rfl, uo f9 rfl, uo f10 rfl, uo f11 rfl, trivial⟩
        · intro dd aa ww K hc hun hn hI hK
          obtain ⟨y60, y61, y62, y63, y64, y65, y66, y67, y68, y69, y70, ea, hb, hsz, vhX, vhY, vg1, vg2, cx, cr, xr, xo, po, f0, f1, f2, f3, f4, f5, f6, f7, f8, f9, f10, f11, _⟩ := hI
          try simp [Region.binds] at hn
          have ex := f7.out (by first | (simp [hn]; done) | exact rc hc hn | exact rc hc hn.1 | exact rc hc hn.2 | exact rc hc hn.2.1 | exact rc hc hn.2.2)
          subst ex
          have e2 := cx 2 (by simp)
          simp only [lgZ, lgS] at e2
          subst ea
          simp only [puts, Act.put, lsA, lsZ, lsS]
          go_simp
          refine hK.out _ _ ?_
          exact ⟨y60, y61, y62, y63, y64, y65, y66, .pointer (some ⟨w.heap.size, 2, none⟩), .slice a1 n1 c1, y69, y70, by simp only [puts, Act.put, lsA, lsZ, lsS], hb, hsz, vhX, vhY, vg1, vg2, cx, cr, xr, xo, fun h => (po.out (upd_off h)), uo f0 rfl, uo f1 rfl, uo f2 rfl, uo f3 rfl, uo f4 rfl, uo f5 rfl, uo f6 rfl, fun h => rfl, fun _ => rfl, uo f9 rfl, uo f10 rfl, uo f11 rfl, trivial⟩
        · intro dd aa ww K hc hun hn hI hK
          obtain ⟨y60, y61, y62, y63, y64, y65, y66, y67, y68, y69, y70, ea, hb, hsz, vhX, vhY, vg1, vg2, cx, cr, xr, xo, po, f0, f1, f2, f3, f4, f5, f6, f7, f8, f9, f10, f11, _⟩ := hI
          try simp [Region.binds] at hn
          have ex := f6.out (by first | (simp [hn]; done) | exact rc hc hn | exact rc hc hn.1 | exact rc hc hn.2 | exact rc hc hn.2.1 | exact rc hc hn.2.2)
          subst ex
          have ex := f8.out (by first | (simp [hn]; done) | exact rc hc hn | exact rc hc hn.1 | exact rc hc hn.2 | exact rc hc hn.2.1 | exact rc hc hn.2.2)
          subst ex
          subst ea
          simp only [puts, Act.put, lsA, lsZ, lsS]
          go_simp
          with_reducible refine (tmul_any _ _ _ (digs P2.den) _ _ _ (digs m.den) _ vhY.toNatAt vg1 (by omega) (by omega)).mono ?_
          rintro e w1 ⟨ahT, nhT, chT, rfl, hT, h1⟩
          rw [ET2.out] at hT
          refine hK.out _ _ ?_
          exact ⟨y60, y61, y62, y63, y64, y65, .slice ahY nhY chY, y67, .slice a1 n1 c1, .slice ahT nhT chT, y70, by simp only [puts, Act.put, lsA, lsZ, lsS], below_later hb h1, Nat.le_trans hsz h1.size, vhX.past h1, vhY.past h1, vg1.past h1, vg2.past h1, cx.past h1 (Nat.lt_of_lt_of_le lx hsz), cr.past h1 (Nat.lt_of_lt_of_le lr hsz), xr.past h1 (Nat.lt_of_lt_of_le lr hsz), xo.past h1 (Nat.lt_of_lt_of_le lo hsz), fun h => (po.out (upd_off h)).past h1 (Nat.lt_of_lt_of_le lo hsz), uo f0 rfl, uo f1 rfl, uo f2 rfl, uo f3 rfl, fun h => (f4.out (upd_of rfl h)).past h1, uo f5 rfl, fun h => rfl, uo f7 rfl, fun h => rfl, fun _ => ⟨_, _, _, rfl, hT.mono hsz⟩, fun h => absurd (hc.reach (f := 8) (s := 10) (l := 9) (by kernel_rfl) (upd_of rfl h)) (by rw [hun]; decide), fun h => (f11.out (upd_of rfl h)).past h1 (Nat.lt_of_lt_of_le lo hsz), trivial⟩
        · intro dd aa ww K hc hun hn hI hK
          obtain ⟨y60, y61, y62, y63, y64, y65, y66, y67, y68, y69, y70, ea, hb, hsz, vhX, vhY, vg1, vg2, cx, cr, xr, xo, po, f0, f1, f2, f3, f4, f5, f6, f7, f8, f9, f10, f11, _⟩ := hI
          try simp [Region.binds] at hn
          obtain ⟨ahS, nhS, chS, ex, hS⟩ := f4.out (by first | (simp [hn]; done) | exact rc hc hn | exact rc hc hn.1 | exact rc hc hn.2 | exact rc hc hn.2.1 | exact rc hc hn.2.2)
          subst ex
          obtain ⟨ahT, nhT, chT, ex, hT⟩ := f9.out (by first | (simp [hn]; done) | exact rc hc hn | exact rc hc hn.1 | exact rc hc hn.2 | exact rc hc hn.2.1 | exact rc hc hn.2.2)
          subst ex
          subst ea
          simp only [puts, Act.put, lsA, lsZ, lsS]
          go_simp
          refine hK.out _ _ ?_
          exact ⟨y60, y61, y62, y63, .agg #[.bool (neg P3.num), .slice ahS nhS chS], y65, y66, y67, y68, .slice ahT nhT chT, .agg #[.bool (neg P3.num), .slice ahS nhS chS, .slice ahT nhT chT], by simp only [puts, Act.put, lsA, lsZ, lsS], hb, hsz, vhX, vhY, vg1, vg2, cx, cr, xr, xo, fun h => (po.out (upd_off h)), uo f0 rfl, uo f1 rfl, uo f2 rfl, uo f3 rfl, uo f4 rfl, uo f5 rfl, uo f6 rfl, uo f7 rfl, uo f8 rfl, uo f9 rfl, fun _ => rfl, fun h => absurd (hc.reach (f := 8) (s := 11) (l := 10) (by kernel_rfl) (upd_of rfl h)) (by rw [hun]; decide), trivial⟩
        · intro dd aa ww K hc hun hn hI hK
          obtain ⟨y60, y61, y62, y63, y64, y65, y66, y67, y68, y69, y70, ea, hb, hsz, vhX, vhY, vg1, vg2, cx, cr, xr, xo, po, f0, f1, f2, f3, f4, f5, f6, f7, f8, f9, f10, f11, _⟩ := hI
          try simp [Region.binds] at hn
          obtain ⟨ahS, nhS, chS, ex, hS⟩ := f4.out (by first | (simp [hn]; done) | exact rc hc hn | exact rc hc hn.1 | exact rc hc hn.2 | exact rc hc hn.2.1 | exact rc hc hn.2.2)
          subst ex
          obtain ⟨ahT, nhT, chT, ex, hT⟩ := f9.out (by first | (simp [hn]; done) | exact rc hc hn | exact rc hc hn.1 | exact rc hc hn.2 | exact rc hc hn.2.1 | exact rc hc hn.2.2)
          subst ex
          have ex : y70 = .agg #[.bool (neg P3.num), .slice ahS nhS chS, .slice ahT nhT chT] := f10.out (by first | (simp [hn]; done) | exact rc hc hn | exact rc hc hn.1 | exact rc hc hn.2 | exact rc hc hn.2.1 | exact rc hc hn.2.2)
          subst ex
          have x3 := xo
          obtain ⟨v0, v1, v2, z0, z1, z2, z3, z4, z5, _, _, _⟩ := x3.three
          have hv : ∀ v ∈ ([.bool (neg P3.num), .slice ahS nhS chS, .slice ahT nhT chT] : List Value), notU v := by simp [notU_bool, notU_slice, notU_i64]
          subst ea
          simp only [puts, Act.put, lsA, lsZ, lsS]
          go_simp
          refine hK.out _ _ ?_
          exact ⟨y60, y61, y62, y63, .agg #[.bool (neg P3.num), .slice ahS nhS chS], y65, y66, y67, y68, .slice ahT nhT chT, .agg #[.bool (neg P3.num), .slice ahS nhS chS, .slice ahT nhT chT], by simp only [puts, Act.put, lsA, lsZ, lsS], hb.trans (below_setCells _ _ (by omega) [.bool (neg P3.num), .slice ahS nhS chS, .slice ahT nhT chT] 0 _), (by simpa using hsz), OwnAt.sets [.bool (neg P3.num), .slice ahS nhS chS, .slice ahT nhT chT] 0 _ vhX x3 (by simp) hv, OwnAt.sets [.bool (neg P3.num), .slice ahS nhS chS, .slice ahT nhT chT] 0 _ vhY x3 (by simp) hv, NatAt.sets [.bool (neg P3.num), .slice ahS nhS chS, .slice ahT nhT chT] 0 _ vg1 x3 (by simp) hv, NatAt.sets [.bool (neg P3.num), .slice ahS nhS chS, .slice ahT nhT chT] 0 _ vg2 x3 (by simp) hv, Cells.sets (by omega) [.bool (neg P3.num), .slice ahS nhS chS, .slice ahT nhT chT] 0 _ cx, Cells.sets (by omega) [.bool (neg P3.num), .slice ahS nhS chS, .slice ahT nhT chT] 0 _ cr, BoxAt.sets [.bool (neg P3.num), .slice ahS nhS chS, .slice ahT nhT chT] _ 0 _ xr hv, BoxAt.sets [.bool (neg P3.num), .slice ahS nhS chS, .slice ahT nhT chT] _ 0 _ xo hv, fun h => absurd h (by simp [upd]), uo f0 rfl, uo f1 rfl, uo f2 rfl, uo f3 rfl, fun h => ((f4.out (upd_of rfl h)).setsOff lo [.bool (neg P3.num), .slice ahS nhS chS, .slice ahT nhT chT]), uo f5 rfl, uo f6 rfl, uo f7 rfl, uo f8 rfl, fun h => ((f9.out (upd_of rfl h)).setsOff lo [.bool (neg P3.num), .slice ahS nhS chS, .slice ahT nhT chT]), fun h => rfl, fun _ => ⟨[.bool (neg P3.num), .slice ahS nhS chS, .slice ahT nhT chT], rfl, Cells.new x3 [.bool (neg P3.num), .slice ahS nhS chS, .slice ahT nhT chT] (by simp)⟩, trivial⟩
      intro dd aa w2 hd hI
      obtain ⟨y60, y61, y62, y63, y64, y65, y66, y67, y68, y69, y70, ea, hb, hsz, vhX, vhY, vg1, vg2, cx, cr, xr, xo, po, f0, f1, f2, f3, f4, f5, f6, f7, f8, f9, f10, f11, _⟩ := hI
      have ex := f0.out (hd 0 (by simp))
      subst ex
      have ex := f1.out (hd 1 (by simp))
      subst ex
      have ex := f2.out (hd 2 (by simp))
      subst ex
      have ex := f3.out (hd 3 (by simp))
      subst ex
      obtain ⟨ahS, nhS, chS, ex, hS⟩ := f4.out (hd 4 (by simp))
      subst ex
      have ex := f5.out (hd 5 (by simp))
      subst ex
      have ex := f6.out (hd 6 (by simp))
      subst ex
      have ex := f7.out (hd 7 (by simp))
      subst ex
      have ex := f8.out (hd 8 (by simp))
      subst ex
      obtain ⟨ahT, nhT, chT, ex, hT⟩ := f9.out (hd 9 (by simp))
      subst ex
      have ex : y70 = .agg #[.bool (neg P3.num), .slice ahS nhS chS, .slice ahT nhT chT] := f10.out (hd 10 (by simp))
      subst ex
      obtain ⟨vs11, e, h11⟩ := f11.out (hd 11 (by simp))
      cases e
      have lo := Nat.lt_of_lt_of_le lo hsz
      have qo0 := h11 0 (by simp)
      simp only [lgZ, lgS] at qo0
      have qo1 := h11 1 (by simp)
      simp only [lgZ, lgS] at qo1
      have qo2 := h11 2 (by simp)
      simp only [lgZ, lgS] at qo2
      subst ea
      simp only [puts, Act.put, lsA, lsZ, lsS]
      have hS := hS.mono szW
      have hT := hT.mono szW
      have g1 := vg1
      have g2 := vg2
      have hX := vhX
      have hY := vhY
      have lx := Nat.lt_of_lt_of_le lx hsz
      have qx0 := cx 0 (by simp)
      simp only [lgZ, lgS] at qx0
      have qx1 := cx 1 (by simp)
      simp only [lgZ, lgS] at qx1
      have qx2 := cx 2 (by simp)
      simp only [lgZ, lgS] at qx2
      clear cx
      have lr := Nat.lt_of_lt_of_le lr hsz
      have qr0 := cr 0 (by simp)
      simp only [lgZ, lgS] at qr0
      have qr1 := cr 1 (by simp)
      simp only [lgZ, lgS] at qr1
      have qr2 := cr 2 (by simp)
      simp only [lgZ, lgS] at qr2
      clear cr
      have hB := hb
      clear po
      clear hb hd
      rw [← HP3.out] at hS hT qo0
      go_wp2
      go_roundw
      case rel => exact ⟨i, b / 2, _, _, _, _, _, _, hi15, HNX.out, by go_num, hS, hT, hB, lo, qx0, qx1, qx2, qr0, qr1, qr2, qo0, qo1, qo2, xr, xo⟩
      case measure => simp [intOf]; omega
    · have hbit0 : N / 2 ^ i % 2 = 0 := by omega
      have va2 : bits .and .i64 (N : Int) (b : Int) = 0 := by rw [va, hb2, hbit0, Nat.zero_mul]; rfl
      have hexp : 2 * (N / 2 ^ (i + 1)) = N / 2 ^ i := by rw [hq]; omega
      rw [hexp] at hP2
      have HP2 := Lib.hid hP2
      clear va hbit hbit0 hexp hq hle hle2 hn1 hn2 es1 es2 et1 et2 hnext hbj hb2 hj hj0 hP hP2
      go_wp2_with fail
      have szW := hB.size
      refine wp_region_inv (by kernel_rfl) rfl (by kernel_rfl) (fun A0 V0 dd aa ww => ∃ (y47 y48 y49 y50 y51 y52 y53 y54 y55 : Value), aa = puts A0 [(47, y47), (48, y48), (49, y49), (50, y50), (51, y51), (52, y52), (53, y53), (54, y54), (55, y55)] ∧ Below (w).heap.size (w) ww ∧ V0.heap.size ≤ ww.heap.size ∧ OwnAt ww w.heap.size au nu cu (digs P.num.natAbs) ∧ OwnAt ww w.heap.size ad nd cd (digs P.den) ∧ NatAt ww a1 n1 c1 (digs m.den) ∧ NatAt ww a2 n2 c2 (digs m.num.natAbs) ∧ Cells ww (w.heap.size) [.bool (neg m.num), .slice a2 n2 c2, .slice a1 n1 c1] ∧ Cells ww (w.heap.size + 1) [.bool false, .slice none 0 0, .slice none 0 0] ∧ BoxAt ww (w.heap.size + 1) 3 ∧ BoxAt ww (BO) 3 ∧ Shut (dd 9 = false → Cells ww (BO) [.bool (neg P.num), .slice au nu cu, .slice ad nd cd]) ∧ Shut (dd 0 = true → y47 = .pointer (some ⟨BO, 0, none⟩)) ∧ Shut (dd 1 = true → y48 = .agg #[.bool (neg P.num), .slice au nu cu]) ∧ Shut (dd 2 = true → y49 = .pointer (some ⟨BO, 0, none⟩)) ∧ Shut (dd 3 = true → y50 = .agg #[.bool (neg P.num), .slice au nu cu]) ∧ Shut (dd 4 = true → CopyV V0.heap.size (neg P2.num) (digs P2.num.natAbs) y51 ww) ∧ Shut (dd 5 = true → y52 = .pointer (some ⟨BO, 2, none⟩)) ∧ Shut (dd 6 = true → y53 = .slice ad nd cd) ∧ Shut (dd 7 = true → NatV V0.heap.size (digs P2.den) y54 ww) ∧ Shut (dd 8 = true → y55 = bld [y51, y54]) ∧ Shut (dd 9 = true → CellsV (BO) y55 ww) ∧ True) ?_ ?_ ?_
      · exact ⟨_, _, _, _, _, _, _, _, _, puts_self _ [47, 48, 49, 50, 51, 52, 53, 54, 55], hB.drew, Nat.le_refl _, hU.drew, hD.drew, g1.drew, g2.drew, (by intro k hk; simp at hk; rcases (by omega : k = 0 ∨ k = 1 ∨ k = 2) with rfl | rfl | rfl <;> assumption), (by intro k hk; simp at hk; rcases (by omega : k = 0 ∨ k = 1 ∨ k = 2) with rfl | rfl | rfl <;> assumption), xr.drew, xo.drew, (fun _ => by intro k hk; simp at hk; rcases (by omega : k = 0 ∨ k = 1 ∨ k = 2) with rfl | rfl | rfl <;> assumption), fun h => (by cases h), fun h => (by cases h), fun h => (by cases h), fun h => (by cases h), fun h => (by cases h), fun h => (by cases h), fun h => (by cases h), fun h => (by cases h), fun h => (by cases h), fun h => (by cases h), trivial⟩
      · refine Steps.cons ?_ (Steps.cons ?_ (Steps.cons ?_ (Steps.cons ?_ (Steps.cons ?_ (Steps.cons ?_ (Steps.cons ?_ (Steps.cons ?_ (Steps.cons ?_ (Steps.cons ?_ (Steps.nil))))))))))
        · intro dd aa ww K hc hun hn hI hK
          obtain ⟨y47, y48, y49, y50, y51, y52, y53, y54, y55, ea, hb, hsz, vhU, vhD, vg1, vg2, cx, cr, xr, xo, po, f0, f1, f2, f3, f4, f5, f6, f7, f8, f9, _⟩ := hI
          try simp [Region.binds] at hn
          subst ea
          simp only [puts, Act.put, lsA, lsZ, lsS]
          go_simp
          refine hK.out _ _ ?_
          exact ⟨.pointer (some ⟨BO, 0, none⟩), y48, y49, y50, y51, y52, y53, y54, y55, by simp only [puts, Act.put, lsA, lsZ, lsS], hb, hsz, vhU, vhD, vg1, vg2, cx, cr, xr, xo, fun h => (po.out (upd_off h)), fun _ => rfl, uo f1 rfl, uo f2 rfl, uo f3 rfl, uo f4 rfl, uo f5 rfl, uo f6 rfl, uo f7 rfl, uo f8 rfl, uo f9 rfl, trivial⟩
        · intro dd aa ww K hc hun hn hI hK
          obtain ⟨y47, y48, y49, y50, y51, y52, y53, y54, y55, ea, hb, hsz, vhU, vhD, vg1, vg2, cx, cr, xr, xo, po, f0, f1, f2, f3, f4, f5, f6, f7, f8, f9, _⟩ := hI
          try simp [Region.binds] at hn
          have ex := f0.out (by first | (simp [hn]; done) | exact rc hc hn | exact rc hc hn.1 | exact rc hc hn.2 | exact rc hc hn.2.1 | exact rc hc hn.2.2)
          subst ex
          have hs := hc.not (f := 8) (s := 9) (l := 1) (by kernel_rfl) hun
          have e0 := po.out hs 0 (by simp)
          simp only [lgZ, lgS] at e0
          have e1 := po.out hs 1 (by simp)
          simp only [lgZ, lgS] at e1
          subst ea
          simp only [puts, Act.put, lsA, lsZ, lsS]
          go_simp
          refine hK.out _ _ ?_
          exact ⟨.pointer (some ⟨BO, 0, none⟩), .agg #[.bool (neg P.num), .slice au nu cu], y49, y50, y51, y52, y53, y54, y55, by simp only [puts, Act.put, lsA, lsZ, lsS], hb, hsz, vhU, vhD, vg1, vg2, cx, cr, xr, xo, fun h => (po.out (upd_off h)), fun h => rfl, fun _ => rfl, uo f2 rfl, uo f3 rfl, uo f4 rfl, uo f5 rfl, uo f6 rfl, uo f7 rfl, uo f8 rfl, uo f9 rfl, trivial⟩
        · intro dd aa ww K hc hun hn hI hK
          obtain ⟨y47, y48, y49, y50, y51, y52, y53, y54, y55, ea, hb, hsz, vhU, vhD, vg1, vg2, cx, cr, xr, xo, po, f0, f1, f2, f3, f4, f5, f6, f7, f8, f9, _⟩ := hI
          try simp [Region.binds] at hn
          subst ea
          simp only [puts, Act.put, lsA, lsZ, lsS]
          go_simp
          refine hK.out _ _ ?_
          exact ⟨y47, y48, .pointer (some ⟨BO, 0, none⟩), y50, y51, y52, y53, y54, y55, by simp only [puts, Act.put, lsA, lsZ, lsS], hb, hsz, vhU, vhD, vg1, vg2, cx, cr, xr, xo, fun h => (po.out (upd_off h)), uo f0 rfl, uo f1 rfl, fun _ => rfl, uo f3 rfl, uo f4 rfl, uo f5 rfl, uo f6 rfl, uo f7 rfl, uo f8 rfl, uo f9 rfl, trivial⟩
        · intro dd aa ww K hc hun hn hI hK
          obtain ⟨y47, y48, y49, y50, y51, y52, y53, y54, y55, ea, hb, hsz, vhU, vhD, vg1, vg2, cx, cr, xr, xo, po, f0, f1, f2, f3, f4, f5, f6, f7, f8, f9, _⟩ := hI
          try simp [Region.binds] at hn
          have ex := f2.out (by first | (simp [hn]; done) | exact rc hc hn | exact rc hc hn.1 | exact rc hc hn.2 | exact rc hc hn.2.1 | exact rc hc hn.2.2)
          subst ex
          have hs := hc.not (f := 8) (s := 9) (l := 3) (by kernel_rfl) hun
          have e0 := po.out hs 0 (by simp)
          simp only [lgZ, lgS] at e0
          have e1 := po.out hs 1 (by simp)
          simp only [lgZ, lgS] at e1
          subst ea
          simp only [puts, Act.put, lsA, lsZ, lsS]
          go_simp
          refine hK.out _ _ ?_
          exact ⟨y47, y48, .pointer (some ⟨BO, 0, none⟩), .agg #[.bool (neg P.num), .slice au nu cu], y51, y52, y53, y54, y55, by simp only [puts, Act.put, lsA, lsZ, lsS], hb, hsz, vhU, vhD, vg1, vg2, cx, cr, xr, xo, fun h => (po.out (upd_off h)), uo f0 rfl, uo f1 rfl, fun h => rfl, fun _ => rfl, uo f4 rfl, uo f5 rfl, uo f6 rfl, uo f7 rfl, uo f8 rfl, uo f9 rfl, trivial⟩
        · intro dd aa ww K hc hun hn hI hK
          obtain ⟨y47, y48, y49, y50, y51, y52, y53, y54, y55, ea, hb, hsz, vhU, vhD, vg1, vg2, cx, cr, xr, xo, po, f0, f1, f2, f3, f4, f5, f6, f7, f8, f9, _⟩ := hI
          try simp [Region.binds] at hn
          have ex := f1.out (by first | (simp [hn]; done) | exact rc hc hn | exact rc hc hn.1 | exact rc hc hn.2 | exact rc hc hn.2.1 | exact rc hc hn.2.2)
          subst ex
          have ex := f3.out (by first | (simp [hn]; done) | exact rc hc hn | exact rc hc hn.1 | exact rc hc hn.2 | exact rc hc hn.2.1 | exact rc hc hn.2.2)
          subst ex
          subst ea
          simp only [puts, Act.put, lsA, lsZ, lsS]
          go_simp
          with_reducible refine (smul_c vhU.toNatAt vhU.toNatAt (by omega) (by omega)).mono ?_
          rintro e w1 ⟨ahX, nhX, chX, rfl, hX, h1⟩
          rw [ES1.out] at hX ⊢
          refine hK.out _ _ ?_
          exact ⟨y47, .agg #[.bool (neg P.num), .slice au nu cu], y49, .agg #[.bool (neg P.num), .slice au nu cu], .agg #[.bool (neg P2.num), .slice ahX nhX chX], y52, y53, y54, y55, by simp only [puts, Act.put, lsA, lsZ, lsS], below_later hb h1, Nat.le_trans hsz h1.size, vhU.past h1, vhD.past h1, vg1.past h1, vg2.past h1, cx.past h1 (Nat.lt_of_lt_of_le lx hsz), cr.past h1 (Nat.lt_of_lt_of_le lr hsz), xr.past h1 (Nat.lt_of_lt_of_le lr hsz), xo.past h1 (Nat.lt_of_lt_of_le lo hsz), fun h => (po.out (upd_off h)).past h1 (Nat.lt_of_lt_of_le lo hsz), uo f0 rfl, fun h => rfl, uo f2 rfl, fun h => rfl, fun _ => ⟨_, _, _, rfl, hX.mono hsz⟩, uo f5 rfl, uo f6 rfl, fun h => (f7.out (upd_of rfl h)).past h1, fun h => absurd (hc.reach (f := 8) (s := 8) (l := 4) (by kernel_rfl) (upd_of rfl h)) (by rw [hun]; decide), fun h => (f9.out (upd_of rfl h)).past h1 (Nat.lt_of_lt_of_le lo hsz), trivial⟩
        · intro dd aa ww K hc hun hn hI hK
          obtain ⟨y47, y48, y49, y50, y51, y52, y53, y54, y55, ea, hb, hsz, vhU, vhD, vg1, vg2, cx, cr, xr, xo, po, f0, f1, f2, f3, f4, f5, f6, f7, f8, f9, _⟩ := hI
          try simp [Region.binds] at hn
          subst ea
          simp only [puts, Act.put, lsA, lsZ, lsS]
          go_simp
          refine hK.out _ _ ?_
          exact ⟨y47, y48, y49, y50, y51, .pointer (some ⟨BO, 2, none⟩), y53, y54, y55, by simp only [puts, Act.put, lsA, lsZ, lsS], hb, hsz, vhU, vhD, vg1, vg2, cx, cr, xr, xo, fun h => (po.out (upd_off h)), uo f0 rfl, uo f1 rfl, uo f2 rfl, uo f3 rfl, uo f4 rfl, fun _ => rfl, uo f6 rfl, uo f7 rfl, uo f8 rfl, uo f9 rfl, trivial⟩
        · intro dd aa ww K hc hun hn hI hK
          obtain ⟨y47, y48, y49, y50, y51, y52, y53, y54, y55, ea, hb, hsz, vhU, vhD, vg1, vg2, cx, cr, xr, xo, po, f0, f1, f2, f3, f4, f5, f6, f7, f8, f9, _⟩ := hI
          try simp [Region.binds] at hn
          have ex := f5.out (by first | (simp [hn]; done) | exact rc hc hn | exact rc hc hn.1 | exact rc hc hn.2 | exact rc hc hn.2.1 | exact rc hc hn.2.2)
          subst ex
          have hs := hc.not (f := 8) (s := 9) (l := 6) (by kernel_rfl) hun
          have e2 := po.out hs 2 (by simp)
          simp only [lgZ, lgS] at e2
          subst ea
          simp only [puts, Act.put, lsA, lsZ, lsS]
          go_simp
          refine hK.out _ _ ?_
          exact ⟨y47, y48, y49, y50, y51, .pointer (some ⟨BO, 2, none⟩), .slice ad nd cd, y54, y55, by simp only [puts, Act.put, lsA, lsZ, lsS], hb, hsz, vhU, vhD, vg1, vg2, cx, cr, xr, xo, fun h => (po.out (upd_off h)), uo f0 rfl, uo f1 rfl, uo f2 rfl, uo f3 rfl, uo f4 rfl, fun h => rfl, fun _ => rfl, uo f7 rfl, uo f8 rfl, uo f9 rfl, trivial⟩
        · intro dd aa ww K hc hun hn hI hK
          obtain ⟨y47, y48, y49, y50, y51, y52, y53, y54, y55, ea, hb, hsz, vhU, vhD, vg1, vg2, cx, cr, xr, xo, po, f0, f1, f2, f3, f4, f5, f6, f7, f8, f9, _⟩ := hI
          try simp [Region.binds] at hn
          have ex := f6.out (by first | (simp [hn]; done) | exact rc hc hn | exact rc hc hn.1 | exact rc hc hn.2 | exact rc hc hn.2.1 | exact rc hc hn.2.2)
          subst ex
          subst ea
          simp only [puts, Act.put, lsA, lsZ, lsS]
          go_simp
          with_reducible refine (square_any _ _ _ (digs P.den) _ vhD.toNatAt (by omega)).mono ?_
          rintro e w1 ⟨ahY, nhY, chY, rfl, hY, h1⟩
          rw [ES2.out] at hY
          refine hK.out _ _ ?_
          exact ⟨y47, y48, y49, y50, y51, y52, .slice ad nd cd, .slice ahY nhY chY, y55, by simp only [puts, Act.put, lsA, lsZ, lsS], below_later hb h1, Nat.le_trans hsz h1.size, vhU.past h1, vhD.past h1, vg1.past h1, vg2.past h1, cx.past h1 (Nat.lt_of_lt_of_le lx hsz), cr.past h1 (Nat.lt_of_lt_of_le lr hsz), xr.past h1 (Nat.lt_of_lt_of_le lr hsz), xo.past h1 (Nat.lt_of_lt_of_le lo hsz), fun h => (po.out (upd_off h)).past h1 (Nat.lt_of_lt_of_le lo hsz), uo f0 rfl, uo f1 rfl, uo f2 rfl, uo f3 rfl, fun h => (f4.out (upd_of rfl h)).past h1, uo f5 rfl, fun h => rfl, fun _ => ⟨_, _, _, rfl, hY.mono hsz⟩, fun h => absurd (hc.reach (f := 8) (s := 8) (l := 7) (by kernel_rfl) (upd_of rfl h)) (by rw [hun]; decide), fun h => (f9.out (upd_of rfl h)).past h1 (Nat.lt_of_lt_of_le lo hsz), trivial⟩
        · intro dd aa ww K hc hun hn hI hK
          obtain ⟨y47, y48, y49, y50, y51, y52, y53, y54, y55, ea, hb, hsz, vhU, vhD, vg1, vg2, cx, cr, xr, xo, po, f0, f1, f2, f3, f4, f5, f6, f7, f8, f9, _⟩ := hI
          try simp [Region.binds] at hn
          obtain ⟨ahX, nhX, chX, ex, hX⟩ := f4.out (by first | (simp [hn]; done) | exact rc hc hn | exact rc hc hn.1 | exact rc hc hn.2 | exact rc hc hn.2.1 | exact rc hc hn.2.2)
          subst ex
          obtain ⟨ahY, nhY, chY, ex, hY⟩ := f7.out (by first | (simp [hn]; done) | exact rc hc hn | exact rc hc hn.1 | exact rc hc hn.2 | exact rc hc hn.2.1 | exact rc hc hn.2.2)
          subst ex
          subst ea
          simp only [puts, Act.put, lsA, lsZ, lsS]
          go_simp
          refine hK.out _ _ ?_
          exact ⟨y47, y48, y49, y50, .agg #[.bool (neg P2.num), .slice ahX nhX chX], y52, y53, .slice ahY nhY chY, .agg #[.bool (neg P2.num), .slice ahX nhX chX, .slice ahY nhY chY], by simp only [puts, Act.put, lsA, lsZ, lsS], hb, hsz, vhU, vhD, vg1, vg2, cx, cr, xr, xo, fun h => (po.out (upd_off h)), uo f0 rfl, uo f1 rfl, uo f2 rfl, uo f3 rfl, uo f4 rfl, uo f5 rfl, uo f6 rfl, uo f7 rfl, fun _ => rfl, fun h => absurd (hc.reach (f := 8) (s := 9) (l := 8) (by kernel_rfl) (upd_of rfl h)) (by rw [hun]; decide), trivial⟩
        · intro dd aa ww K hc hun hn hI hK
          obtain ⟨y47, y48, y49, y50, y51, y52, y53, y54, y55, ea, hb, hsz, vhU, vhD, vg1, vg2, cx, cr, xr, xo, po, f0, f1, f2, f3, f4, f5, f6, f7, f8, f9, _⟩ := hI
          try simp [Region.binds] at hn
          obtain ⟨ahX, nhX, chX, ex, hX⟩ := f4.out (by first | (simp [hn]; done) | exact rc hc hn | exact rc hc hn.1 | exact rc hc hn.2 | exact rc hc hn.2.1 | exact rc hc hn.2.2)
          subst ex
          obtain ⟨ahY, nhY, chY, ex, hY⟩ := f7.out (by first | (simp [hn]; done) | exact rc hc hn | exact rc hc hn.1 | exact rc hc hn.2 | exact rc hc hn.2.1 | exact rc hc hn.2.2)
          subst ex
          have ex : y55 = .agg #[.bool (neg P2.num), .slice ahX nhX chX, .slice ahY nhY chY] := f8.out (by first | (simp [hn]; done) | exact rc hc hn | exact rc hc hn.1 | exact rc hc hn.2 | exact rc hc hn.2.1 | exact rc hc hn.2.2)
          subst ex
          have x3 := xo
          obtain ⟨v0, v1, v2, z0, z1, z2, z3, z4, z5, _, _, _⟩ := x3.three
          have hv : ∀ v ∈ ([.bool (neg P2.num), .slice ahX nhX chX, .slice ahY nhY chY] : List Value), notU v := by simp [notU_bool, notU_slice, notU_i64]
          subst ea
          simp only [puts, Act.put, lsA, lsZ, lsS]
          go_simp
          refine hK.out _ _ ?_
          exact ⟨y47, y48, y49, y50, .agg #[.bool (neg P2.num), .slice ahX nhX chX], y52, y53, .slice ahY nhY chY, .agg #[.bool (neg P2.num), .slice ahX nhX chX, .slice ahY nhY chY], by simp only [puts, Act.put, lsA, lsZ, lsS], hb.trans (below_setCells _ _ (by omega) [.bool (neg P2.num), .slice ahX nhX chX, .slice ahY nhY chY] 0 _), (by simpa using hsz), OwnAt.sets [.bool (neg P2.num), .slice ahX nhX chX, .slice ahY nhY chY] 0 _ vhU x3 (by simp) hv, OwnAt.sets [.bool (neg P2.num), .slice ahX nhX chX, .slice ahY nhY chY] 0 _ vhD x3 (by simp) hv, NatAt.sets [.bool (neg P2.num), .slice ahX nhX chX, .slice ahY nhY chY] 0 _ vg1 x3 (by simp) hv, NatAt.sets [.bool (neg P2.num), .slice ahX nhX chX, .slice ahY nhY chY] 0 _ vg2 x3 (by simp) hv, Cells.sets (by omega) [.bool (neg P2.num), .slice ahX nhX chX, .slice ahY nhY chY] 0 _ cx, Cells.sets (by omega) [.bool (neg P2.num), .slice ahX nhX chX, .slice ahY nhY chY] 0 _ cr, BoxAt.sets [.bool (neg P2.num), .slice ahX nhX chX, .slice ahY nhY chY] _ 0 _ xr hv, BoxAt.sets [.bool (neg P2.num), .slice ahX nhX chX, .slice ahY nhY chY] _ 0 _ xo hv, fun h => absurd h (by simp [upd]), uo f0 rfl, uo f1 rfl, uo f2 rfl, uo f3 rfl, fun h => ((f4.out (upd_of rfl h)).setsOff lo [.bool (neg P2.num), .slice ahX nhX chX, .slice ahY nhY chY]), uo f5 rfl, uo f6 rfl, fun h => ((f7.out (upd_of rfl h)).setsOff lo [.bool (neg P2.num), .slice ahX nhX chX, .slice ahY nhY chY]), fun h => rfl, fun _ => ⟨[.bool (neg P2.num), .slice ahX nhX chX, .slice ahY nhY chY], rfl, Cells.new x3 [.bool (neg P2.num), .slice ahX nhX chX, .slice ahY nhY chY] (by simp)⟩, trivial⟩
      intro dd aa w1 hd hI
      obtain ⟨y47, y48, y49, y50, y51, y52, y53, y54, y55, ea, hb, hsz, vhU, vhD, vg1, vg2, cx, cr, xr, xo, po, f0, f1, f2, f3, f4, f5, f6, f7, f8, f9, _⟩ := hI
      have ex := f0.out (hd 0 (by simp))
      subst ex
      have ex := f1.out (hd 1 (by simp))
      subst ex
      have ex := f2.out (hd 2 (by simp))
      subst ex
      have ex := f3.out (hd 3 (by simp))
      subst ex
      obtain ⟨ahX, nhX, chX, ex, hX⟩ := f4.out (hd 4 (by simp))
      subst ex
      have ex := f5.out (hd 5 (by simp))
      subst ex
      have ex := f6.out (hd 6 (by simp))
      subst ex
      obtain ⟨ahY, nhY, chY, ex, hY⟩ := f7.out (hd 7 (by simp))
      subst ex
      have ex : y55 = .agg #[.bool (neg P2.num), .slice ahX nhX chX, .slice ahY nhY chY] := f8.out (hd 8 (by simp))
      subst ex
      obtain ⟨vs9, e, h9⟩ := f9.out (hd 9 (by simp))
      cases e
      have lo := Nat.lt_of_lt_of_le lo hsz
      have qo0 := h9 0 (by simp)
      simp only [lgZ, lgS] at qo0
      have qo1 := h9 1 (by simp)
      simp only [lgZ, lgS] at qo1
      have qo2 := h9 2 (by simp)
      simp only [lgZ, lgS] at qo2
      subst ea
      simp only [puts, Act.put, lsA, lsZ, lsS]
      have hX := hX.mono szW
      have hY := hY.mono szW
      have hU := vhU
      have hD := vhD
      have g1 := vg1
      have g2 := vg2
      have lx := Nat.lt_of_lt_of_le lx hsz
      have qx0 := cx 0 (by simp)
      simp only [lgZ, lgS] at qx0
      have qx1 := cx 1 (by simp)
      simp only [lgZ, lgS] at qx1
      have qx2 := cx 2 (by simp)
      simp only [lgZ, lgS] at qx2
      clear cx
      have lr := Nat.lt_of_lt_of_le lr hsz
      have qr0 := cr 0 (by simp)
      simp only [lgZ, lgS] at qr0
      have qr1 := cr 1 (by simp)
      simp only [lgZ, lgS] at qr1
      have qr2 := cr 2 (by simp)
      simp only [lgZ, lgS] at qr2
      clear cr
      have hB := hb
      clear po
      clear hb hd
      have bX : nhX ≤ 17179869184 := by have := hX.len; have := HN2.out; omega
      have bY : nhY ≤ 17179869184 := by have := hY.len; have := HN2.out; omega
      rw [← HP2.out] at hX hY qo0
      go_wp2
      go_roundw
      case rel => exact ⟨i, b / 2, _, _, _, _, _, _, hi15, HNX.out, by go_num, hX, hY, hB, lo, qx0, qx1, qx2, qr0, qr1, qr2, qo0, qo1, qo2, xr, xo⟩
      case measure => simp [intOf]; omega
theorem pow05_rat (q : Rat) (a1 : Option Addr) (n1 c1 : Nat) (a2 : Option Addr) (n2 c2 : Nat) (n : Int) (w : World) (g1 : NatAt w a1 n1 c1 (digs q.num.natAbs)) (g2 : NatAt w a2 n2 c2 (digs q.den)) (hs : rlen q ≤ 1048576) (hn : -10000 ≤ n) (hn2 : n ≤ 10000) (hq : 0 ≤ n ∨ q ≠ 0) :
 Calls Tryz.prog 20 #[.agg #[.bool (neg q.num), .slice a1 n1 c1, .slice a2 n2 c2], .int .i64 n] w (RetOk w (q ^ n)) := by
 have b1 : n1 ≤ 17179869184 := by have := g1.len; unfold rlen at hs; omega
 have b2 : n2 ≤ 17179869184 := by have := g2.len; unfold rlen at hs; omega
 by_cases h0 : 0 ≤ n
 · obtain ⟨N, rfl⟩ := Int.eq_ofNat_of_zero_le h0
   rw [Rat.zpow_natCast]
   exact pow05_pos q N _ _ _ _ _ _ w g1 g2 b1 b2 (by omega) hs
 · obtain ⟨N, rfl⟩ : ∃ N : Nat, n = -(N : Int) := ⟨n.natAbs, by omega⟩
   have hq : q ≠ 0 := hq.resolve_left h0
   have e : q ^ (-(N : Int)) = q⁻¹ ^ N := by rw [Rat.zpow_neg, Rat.zpow_natCast, inv_pow]
   rw [e]
   exact pow05_neg q N _ _ _ _ _ _ w g1 g2 b1 b2 (by omega) (by omega) hq hs
theorem pow05_any (b1 : Bool) (a1 : Option Addr) (n1 c1 : Nat) (a2 : Option Addr) (n2 c2 : Nat) (l1 l2 : List Nat) (n : Int) (w : World) (g1 : NatAt w a1 n1 c1 l1) (g2 : NatAt w a2 n2 c2 l2) (hs1 : n1 ≤ 1048576) (hs2 : n2 ≤ 1048576) :
 Calls Tryz.prog 20 #[.agg #[.bool b1, .slice a1 n1 c1, .slice a2 n2 c2], .int .i64 n] w (RetAns w (powA (b1, l1, l2) n)) := by
 by_cases h : chkR b1 l1 l2 = 0
 · obtain ⟨q, rfl, rfl, rfl⟩ := chkR_rat g1.dig g2.dig h
   have e1 : chk3 (neg q.num, digs q.num.natAbs, digs q.den) = 0 := h
   have e2 : ratOf (neg q.num, digs q.num.natAbs, digs q.den) = q := ratOf_parts q
   unfold powA
   rw [if_neg (by rw [e1]; simp), e2]
   by_cases h1 : n < -10000
   · rw [if_pos (.inl h1)]
     exact pow05_low q _ _ _ _ _ _ n w g1 g2 (by omega) (by omega) h1
   by_cases h2 : 10000 < n
   · rw [if_pos (.inr h2)]
     exact pow05_high q _ _ _ _ _ _ n w g1 g2 (by omega) (by omega) h2
   rw [if_neg (by omega)]
   by_cases h3 : n < 0 ∧ q = 0
   · rw [if_pos h3]
     exact pow05_zero q _ _ _ _ _ _ n w g1 g2 (by omega) (by omega) h3.1 (by omega) h3.2
   · rw [if_neg h3]
     refine pow05_rat q _ _ _ _ _ _ n w g1 g2 (by unfold rlen; have := g1.len; have := g2.len; omega) (by omega) (by omega) ?_
     by_cases h4 : 0 ≤ n
     · exact .inl h4
     · exact .inr fun h5 => h3 ⟨by omega, h5⟩
 · have e : powA (b1, l1, l2) n = .error 6 := if_pos h
   rw [e]
   exact pow05_bad b1 l1 l2 _ _ _ _ _ _ n w g1 g2 (by omega) (by omega) h
end Go.Proofs.YtmhjhhcdjecdbaaGreat
