import Derived.Test.YtlkoenpdmlbhlaaGreatS0Sm
import Derived.Test.YtlkoenpdmlbhlaaGreatSoli2Sm
import Derived.Test.YtlkoenpdmlbhlaaGreatRatio7Sm
import Derived.Test.YtlkoenpdmlbhlaaGreatRatio13Sm
import Derived.Test.YtlkoenpdmlbhlaaGreatRatio15Sm
import Derived.Test.YtlkoenpdmlbhlaaGreatRatio17Sm
set_option linter.unusedVariables false
set_option linter.unusedSimpArgs false
namespace Go.Proofs.YtlkoenpdmlbhlaaGreat
open Go.RowKit
theorem rpair_ok {x y : Int} {q : Rat} (hy : y ≠ 0) (hq : mkRat (sg (neg x != neg y) x.natAbs) y.natAbs = q) (w : World) (hx : -9223372036854775808 ≤ x ∧ x ≤ 9223372036854775807) (hy2 : -9223372036854775808 ≤ y ∧ y ≤ 9223372036854775807) :
 Calls Tryz.prog 61 #[.int .i64 x, .int .i64 y] w (RetOk w q) := by
 have h := rpair05_any x y w hx hy2
 rw [pairR_ok hy, hq] at h
 exact h
theorem rpair_q (x : Int) (y : Nat) (w : World) (hx : -9223372036854775808 ≤ x ∧ x ≤ 9223372036854775807) (hy : 0 < y) (hy2 : y ≤ 9223372036854775807) :
 Calls Tryz.prog 61 #[.int .i64 x, .int .i64 (y : Int)] w (RetOk w (mkRat x y)) := rpair_ok (by omega) (pr_pos hy) w hx (by omega)
theorem rpair_one (x : Int) (w : World) (hx : -9223372036854775808 ≤ x ∧ x ≤ 9223372036854775807) : Calls Tryz.prog 61 #[.int .i64 x, .int .i64 1] w (RetOk w (mkRat x 1)) := rpair_q x 1 w hx (by decide) (by decide)
theorem rpair_zero (w : World) : Calls Tryz.prog 61 #[.int .i64 0, .int .i64 1] w (RetOk w 0) := by
 have h := rpair_one 0 w (by decide)
 rwa [show mkRat 0 1 = 0 by simp] at h
theorem radd_two {w : World} {a : Option Addr} {p q : Rat} (gr : RatsAt w a 2 2 (ratsF [p, q])) (h1 : rlen p ≤ 10000) (h2 : rlen q ≤ 10000) : Calls Tryz.prog 45 #[.slice a 2 2] w (RetOk w (p + q)) := by
 have h := radd05_any a 2 2 (ratsF [p, q]) 10000 w gr (by decide) (fun i hi => by
  match i, hi with
  | 0, _ => exact rlen_parts _ h1
  | 1, _ => exact rlen_parts _ h2) (by decide)
 rw [foldA_two, show (0 : Rat) + p = p from Rat.zero_add p] at h
 exact h.mono fun e w' h => h.ok
theorem rmul_two {w : World} {a : Option Addr} {p q : Rat} (gr : RatsAt w a 2 2 (ratsF [p, q])) (h1 : rlen p ≤ 10000) (h2 : rlen q ≤ 10000) : Calls Tryz.prog 62 #[.slice a 2 2] w (RetOk w (p * q)) := by
 have h := rmul05_any a 2 2 (ratsF [p, q]) 10000 w gr (by decide) (fun i hi => by
  match i, hi with
  | 0, _ => exact rlen_parts _ h1
  | 1, _ => exact rlen_parts _ h2) (by decide)
 rw [foldA_two, show (1 : Rat) * p = p from Rat.one_mul p] at h
 exact h.mono fun e w' h => h.ok
theorem rround_wh {q : Rat} {a1 : Option Addr} {n1 c1 : Nat} {a2 : Option Addr} {n2 c2 : Nat} {w : World} (g1 : NatAt w a1 n1 c1 (digs q.num.natAbs)) (g2 : NatAt w a2 n2 c2 (digs q.den)) (hs : rlen q ≤ 10000) :
 Calls Tryz.prog 76 #[.agg #[.bool (neg q.num), .slice a1 n1 c1, .slice a2 n2 c2]] w (RetWh w (rndR q)) := by
 have h := rround05_any (neg q.num) _ _ _ _ _ _ _ _ w g1 g2 (by unfold rlen at hs; have := g1.len; omega) (by unfold rlen at hs; have := g2.len; omega)
 have e := roundA_rat q
 unfold partsOf at e
 rw [e] at h
 exact h
theorem rsone_c {x : Int} {a : Option Addr} {n c : Nat} {w : World} (h : NatAt w a n c (digs x.natAbs)) (hs : n ≤ 1099511627776) : Calls Tryz.prog 77 #[.agg #[.bool (neg x), .slice a n c]] w (RetVal w (.tuple #[.int .i64 (oneI x), .bool (isI x)])) := by
 have := rsone_any (neg x) a n c _ w h hs
 rwa [sg_canon] at this
set_option maxRecDepth 100000 in
theorem within13_yes (k s : Int) (w : World) (h : inR k s) : Calls Tryz.prog 37 #[.int .i64 k, .int .i64 s] w (RetVal w (.bool true)) := by
 unfold inR at h
 obtain ⟨h1, h2, h3, h4⟩ := h
 go_enter Tryz.func37, Tryz.ntmps37
 go_wp2
 go_ret
 exact ⟨rfl, Below.refl _ _⟩
set_option maxRecDepth 100000 in
theorem within13_no (k s : Int) (w : World) (h : ¬ inR k s) : Calls Tryz.prog 37 #[.int .i64 k, .int .i64 s] w (RetVal w (.bool false)) := by
 have hc : ¬ 1 ≤ k ∨ (1 ≤ k ∧ ¬ k ≤ 65536) ∨ (1 ≤ k ∧ k ≤ 65536 ∧ ¬ 1 ≤ s) ∨ (1 ≤ k ∧ k ≤ 65536 ∧ 1 ≤ s ∧ ¬ s ≤ 16777215) := by unfold inR at h; omega
 clear h
 rcases hc with h1 | ⟨h1, h2⟩ | ⟨h1, h2, h3⟩ | ⟨h1, h2, h3, h4⟩
 all_goals
  go_enter Tryz.func37, Tryz.ntmps37
  go_wp2
  go_ret
  exact ⟨rfl, Below.refl _ _⟩
theorem within13 (k s : Int) (w : World) : Calls Tryz.prog 37 #[.int .i64 k, .int .i64 s] w (RetVal w (.bool (decide (inR k s)))) := by
 by_cases h : inR k s
 · rw [decide_eq_true h]
   exact within13_yes k s w h
 · rw [decide_eq_false h]
   exact within13_no k s w h
set_option maxRecDepth 100000 in
set_option maxHeartbeats 4000000 in
theorem rpart13 (y : Nat) (w : World) (hy : 0 < y) (hy2 : y ≤ 9223372036854775807) :
 Calls Tryz.prog 78 #[.int .i64 (y : Int)] w (RetRat w (mkRat 1 y)) := by
 have hp := fun w => rpair_q 1 y w (by decide) hy hy2
 have HP := Lib.hid hp
 obtain ⟨Q, hQ⟩ : ∃ Q, mkRat 1 y = Q := ⟨_, rfl⟩
 rw [hQ] at HP ⊢
 clear hp hQ
 go_enter Tryz.func78, Tryz.ntmps78
 have hB := Below.refl w.heap.size w
 go_wp2_with fail
 obtain ⟨w1, hW, hz0, hb, q, f⟩ := box1g w (w.heap.size) (by omega) #[.bool false, .slice none 0 0, .slice none 0 0] 27
 rw [hW]
 clear hW
 have hB := below_later hB hb
 clear hb
 have lr : w.heap.size < w1.heap.size := by omega
 have qr0 := q 0; have qr1 := q 1; have qr2 := q 2
 simp only [lgA, lgZ, lgS] at qr0 qr1 qr2
 have xr : BoxAt w1 (w.heap.size) 3 := BoxAt.of q f rfl (by simp [notU_bool, notU_slice, notU_i64])
 clear q f
 clear hz0
 with_reducible refine (HP.out _).mono ?_
 rintro e w2 ⟨ahAU, nhAU, chAU, ahAD, nhAD, chAD, rfl, hAU, hAD, hb⟩
 have hAU := hAU.mono hB.size
 have hAD := hAD.mono hB.size
 have xr := xr.past hb lr
 obtain ⟨qr0, qr1, qr2, lr⟩ := bq3 hb lr qr0 qr1 qr2
 have hB := below_later hB hb
 clear hb
 have zf0 := xr.f 0 (by decide)
 have zf1 := xr.f 1 (by decide)
 have zf2 := xr.f 2 (by decide)
 go_wp2
 have zf0 := xr.f 0 (by decide)
 have zf1 := xr.f 1 (by decide)
 have zf2 := xr.f 2 (by decide)
 obtain ⟨w3, hW, hO, qN0, qN1, qN2, xN⟩ := store3 xr (.bool (neg (Q).num)) (.slice ahAU nhAU chAU) (.slice ahAD nhAD chAD) (nu rfl) (nu rfl) (nu rfl)
 try rw [hW]
 clear hW
 have hAU := hO.own hAU
 have hAD := hO.own hAD
 have lr : w.heap.size < w3.heap.size := by rw [hO.size]; exact lr
 have qr0 := qN0
 have qr1 := qN1
 have qr2 := qN2
 have xr := xN
 have hB := hO.below (by omega) hB
 clear hO qN0 qN1 qN2 xN zf0 zf1 zf2
 obtain ⟨w4, hW, hz0, hb, q, f⟩ := box1g w3 (w3.heap.size) (by omega) #[.bool (neg (Q).num), .slice ahAU nhAU chAU, .slice ahAD nhAD chAD] 27
 rw [hW]
 clear hW
 have hAU := hAU.past hb
 have hAD := hAD.past hb
 have xr := xr.past hb lr
 obtain ⟨qr0, qr1, qr2, lr⟩ := bq3 hb lr qr0 qr1 qr2
 have hB := below_later hB hb
 clear hb
 have lx : w3.heap.size < w4.heap.size := by omega
 have qx0 := q 0; have qx1 := q 1; have qx2 := q 2
 simp only [lgA, lgZ, lgS] at qx0 qx1 qx2
 clear q f
 clear hz0
 refine bodyPost_ret (v := .agg #[.bool (neg Q.num), .slice ahAU nhAU chAU, .slice ahAD nhAD chAD]) ?_ rfl ⟨_, _, _, _, _, _, rfl, hAU, hAD, hB⟩
 simp [results, Tryz.f78, go_sem, qr0, qr1, qr2]
set_option maxRecDepth 100000 in
set_option maxHeartbeats 4000000 in
theorem rideal_one (k : Nat) (w : World) (hk : 0 < k) (hk2 : k ≤ 65536) :
 Calls Tryz.prog 39 #[.int .i64 (k : Int), .int .i64 1] w (RetRat w (mkRat 1 k)) := by
 go_enter Tryz.func39, Tryz.ntmps39
 have hB := Below.refl w.heap.size w
 go_wp2_with fail
 obtain ⟨w1, hW, hz0, hb, q, f⟩ := box1g w (w.heap.size) (by omega) #[.bool false, .slice none 0 0, .slice none 0 0] 27
 rw [hW]
 clear hW
 have hB := below_later hB hb
 clear hb
 have lr : w.heap.size < w1.heap.size := by omega
 have qr0 := q 0; have qr1 := q 1; have qr2 := q 2
 simp only [lgA, lgZ, lgS] at qr0 qr1 qr2
 have xr : BoxAt w1 (w.heap.size) 3 := BoxAt.of q f rfl (by simp [notU_bool, notU_slice, notU_i64])
 clear q f
 clear hz0
 with_reducible refine (rpart13 k _ (by omega) (by omega)).mono ?_
 rintro e w2 ⟨ahAU, nhAU, chAU, ahAD, nhAD, chAD, rfl, hAU, hAD, hb⟩
 have hAU := hAU.mono hB.size
 have hAD := hAD.mono hB.size
 have xr := xr.past hb lr
 obtain ⟨qr0, qr1, qr2, lr⟩ := bq3 hb lr qr0 qr1 qr2
 have hB := below_later hB hb
 clear hb
 obtain ⟨Q, hQ⟩ : ∃ Q, mkRat 1 k = Q := ⟨_, rfl⟩
 rw [hQ] at hAU hAD ⊢
 have HQ := Lib.hid hQ
 clear hQ
 have zf0 := xr.f 0 (by decide)
 have zf1 := xr.f 1 (by decide)
 have zf2 := xr.f 2 (by decide)
 go_wp2
 obtain ⟨w3, hW, hO, qN0, qN1, qN2, xN⟩ := store3 xr (.bool (neg (Q).num)) (.slice ahAU nhAU chAU) (.slice ahAD nhAD chAD) (nu rfl) (nu rfl) (nu rfl)
 try rw [hW]
 clear hW
 have hAU := hO.own hAU
 have hAD := hO.own hAD
 have lr : w.heap.size < w3.heap.size := by rw [hO.size]; exact lr
 have qr0 := qN0
 have qr1 := qN1
 have qr2 := qN2
 have xr := xN
 have hB := hO.below (by omega) hB
 clear hO qN0 qN1 qN2 xN zf0 zf1 zf2
 obtain rfl := HQ.out
 refine bodyPost_ret (v := .agg #[.bool (neg (mkRat 1 k).num), .slice ahAU nhAU chAU, .slice ahAD nhAD chAD]) ?_ rfl ⟨_, _, _, _, _, _, rfl, hAU, hAD, hB⟩
 simp [results, Tryz.f39, go_sem, qr0, qr1, qr2]
set_option maxRecDepth 100000 in
set_option maxHeartbeats 4000000 in
theorem rideal_more (k : Nat) (d : Nat) (hd : 2 ≤ d) (hd2 : d ≤ 65536) (w : World) (hk : 0 < k) (hk2 : k ≤ 65536) :
 Calls Tryz.prog 39 #[.int .i64 (k : Int), .int .i64 (d : Int)] w (RetRat w (mkRat 1 (d * (d - 1)))) := by
 obtain ⟨i, rfl⟩ : ∃ i, d = i + 1 := ⟨d - 1, by omega⟩
 have t0 : (((i + 1 : Nat) : Int) == 1) = false := by rw [beq_eq_false_iff_ne]; omega
 have hm : (i + 1) * i ≤ 65536 * 65536 := Nat.mul_le_mul (by omega) (by omega)
 have hm0 : 0 < (i + 1) * i := Nat.mul_pos (by omega) (by omega)
 have t1 : wrap64 (((i + 1 : Nat) : Int) - 1) = (i : Int) := by unfold wrap64; omega
 have t2 : wrap64 (((i + 1 : Nat) : Int) * (i : Int)) = (((i + 1) * i : Nat) : Int) := by rw [Int.natCast_mul]; unfold wrap64; omega
 rw [Nat.add_sub_cancel]
 obtain ⟨M, hM⟩ : ∃ M, (i + 1) * i = M := ⟨_, rfl⟩
 rw [hM] at hm hm0 t2 ⊢
 obtain ⟨D, hD⟩ : ∃ D : Int, ((i + 1 : Nat) : Int) = D := ⟨_, rfl⟩
 rw [hD] at t0 t1 t2 ⊢
 clear hM hD
 go_enter Tryz.func39, Tryz.ntmps39
 have hB := Below.refl w.heap.size w
 go_wp2_with fail
 obtain ⟨w1, hW, hz0, hb, q, f⟩ := box1g w (w.heap.size) (by omega) #[.bool false, .slice none 0 0, .slice none 0 0] 27
 rw [hW]
 clear hW
 have hB := below_later hB hb
 clear hb
 have lr : w.heap.size < w1.heap.size := by omega
 have qr0 := q 0; have qr1 := q 1; have qr2 := q 2
 simp only [lgA, lgZ, lgS] at qr0 qr1 qr2
 have xr : BoxAt w1 (w.heap.size) 3 := BoxAt.of q f rfl (by simp [notU_bool, notU_slice, notU_i64])
 clear q f
 clear hz0
 with_reducible refine (rpart13 M _ (by omega) (by omega)).mono ?_
 rintro e w2 ⟨ahAU, nhAU, chAU, ahAD, nhAD, chAD, rfl, hAU, hAD, hb⟩
 have hAU := hAU.mono hB.size
 have hAD := hAD.mono hB.size
 have xr := xr.past hb lr
 obtain ⟨qr0, qr1, qr2, lr⟩ := bq3 hb lr qr0 qr1 qr2
 have hB := below_later hB hb
 clear hb
 obtain ⟨Q, hQ⟩ : ∃ Q, mkRat 1 M = Q := ⟨_, rfl⟩
 rw [hQ] at hAU hAD ⊢
 have HQ := Lib.hid hQ
 clear hQ
 have zf0 := xr.f 0 (by decide)
 have zf1 := xr.f 1 (by decide)
 have zf2 := xr.f 2 (by decide)
 go_wp2
 obtain ⟨w3, hW, hO, qN0, qN1, qN2, xN⟩ := store3 xr (.bool (neg (Q).num)) (.slice ahAU nhAU chAU) (.slice ahAD nhAD chAD) (nu rfl) (nu rfl) (nu rfl)
 try rw [hW]
 clear hW
 have hAU := hO.own hAU
 have hAD := hO.own hAD
 have lr : w.heap.size < w3.heap.size := by rw [hO.size]; exact lr
 have qr0 := qN0
 have qr1 := qN1
 have qr2 := qN2
 have xr := xN
 have hB := hO.below (by omega) hB
 clear hO qN0 qN1 qN2 xN zf0 zf1 zf2
 obtain rfl := HQ.out
 refine bodyPost_ret (v := .agg #[.bool (neg (mkRat 1 M).num), .slice ahAU nhAU chAU, .slice ahAD nhAD chAD]) ?_ rfl ⟨_, _, _, _, _, _, rfl, hAU, hAD, hB⟩
 simp [results, Tryz.f39, go_sem, qr0, qr1, qr2]
theorem rideal_any (k d : Nat) (w : World) (hk : 0 < k) (hk2 : k ≤ 65536) (hd : 1 ≤ d) (hd2 : d ≤ 65536) :
 Calls Tryz.prog 39 #[.int .i64 (k : Int), .int .i64 (d : Int)] w (RetRat w (idealR k d)) := by
 unfold idealR
 by_cases h1 : d = 1
 · subst h1
   rw [if_pos rfl]
   exact rideal_one k w hk hk2
 · rw [if_neg h1]
   exact rideal_more k d (by omega) hd2 w hk hk2
set_option maxRecDepth 100000 in
set_option maxHeartbeats 4000000 in
theorem rshare_lt (s d : Nat) (m : Rat) (a1 : Option Addr) (n1 c1 : Nat) (a2 : Option Addr) (n2 c2 : Nat) (w : World) (hs : 1 ≤ s) (hs2 : s ≤ 65536) (hd : 1 ≤ d) (hd2 : d ≤ 65536) (g1 : NatAt w a1 n1 c1 (digs m.num.natAbs)) (g2 : NatAt w a2 n2 c2 (digs m.den)) (h : d < s) :
 Calls Tryz.prog 46 #[.int .i64 (d : Int), .int .i64 (s : Int), .agg #[.bool (neg m.num), .slice a1 n1 c1, .slice a2 n2 c2]] w (RetRatN w (mkRat 1 (d * s))) := by
 have hm : d * s ≤ 65536 * 65536 := Nat.mul_le_mul (by omega) (by omega)
 have hm0 : 0 < d * s := Nat.mul_pos (by omega) (by omega)
 have t2 : wrap64 ((d : Int) * (s : Int)) = ((d * s : Nat) : Int) := by rw [Int.natCast_mul]; unfold wrap64; omega
 obtain ⟨M, hM⟩ : ∃ M, d * s = M := ⟨_, rfl⟩
 rw [hM] at hm hm0 t2 ⊢
 clear hM
 go_enter Tryz.func46, Tryz.ntmps46
 have hB := Below.refl w.heap.size w
 go_wp2_with fail
 obtain ⟨w1, hW, hz0, hb, q, f⟩ := box1g w (w.heap.size) (by omega) #[.bool (neg m.num), .slice a1 n1 c1, .slice a2 n2 c2] 27
 rw [hW]
 clear hW
 have g1 := g1.past hb
 have g2 := g2.past hb
 have hB := below_later hB hb
 clear hb
 have lm : w.heap.size < w1.heap.size := by omega
 have qm0 := q 0; have qm1 := q 1; have qm2 := q 2
 simp only [lgA, lgZ, lgS] at qm0 qm1 qm2
 clear q f
 obtain ⟨w2, hW, hz1, hb, q, f⟩ := box1g w1 (w.heap.size + 1) (by omega) #[.bool false, .slice none 0 0, .slice none 0 0] 27
 rw [hW]
 clear hW
 have g1 := g1.past hb
 have g2 := g2.past hb
 obtain ⟨qm0, qm1, qm2, lm⟩ := bq3 hb lm qm0 qm1 qm2
 have hB := below_later hB hb
 clear hb
 have lr : w.heap.size + 1 < w2.heap.size := by omega
 have qr0 := q 0; have qr1 := q 1; have qr2 := q 2
 simp only [lgA, lgZ, lgS] at qr0 qr1 qr2
 have xr : BoxAt w2 (w.heap.size + 1) 3 := BoxAt.of q f rfl (by simp [notU_bool, notU_slice, notU_i64])
 clear q f
 clear hz0
 clear hz1
 with_reducible refine (rpart13 M _ (by omega) (by omega)).mono ?_
 rintro e w3 ⟨ahAU, nhAU, chAU, ahAD, nhAD, chAD, rfl, hAU, hAD, hb⟩
 have hAU := hAU.mono hB.size
 have hAD := hAD.mono hB.size
 have g1 := g1.past hb
 have g2 := g2.past hb
 obtain ⟨qm0, qm1, qm2, lm⟩ := bq3 hb lm qm0 qm1 qm2
 have xr := xr.past hb lr
 obtain ⟨qr0, qr1, qr2, lr⟩ := bq3 hb lr qr0 qr1 qr2
 have hB := below_later hB hb
 clear hb
 obtain ⟨Q, hQ⟩ : ∃ Q, mkRat 1 M = Q := ⟨_, rfl⟩
 rw [hQ] at hAU hAD ⊢
 have HQ := Lib.hid hQ
 clear hQ
 have zf0 := xr.f 0 (by decide)
 have zf1 := xr.f 1 (by decide)
 have zf2 := xr.f 2 (by decide)
 go_wp2
 obtain ⟨w4, hW, hO, qN0, qN1, qN2, xN⟩ := store3 xr (.bool (neg (Q).num)) (.slice ahAU nhAU chAU) (.slice ahAD nhAD chAD) (nu rfl) (nu rfl) (nu rfl)
 try rw [hW]
 clear hW
 have g1 := hO.nat g1
 have g2 := hO.nat g2
 have hAU := hO.own hAU
 have hAD := hO.own hAD
 have qm0 := (hO.cell (b2 := w.heap.size) (k := 0) (by omega)).trans qm0
 have qm1 := (hO.cell (b2 := w.heap.size) (k := 1) (by omega)).trans qm1
 have qm2 := (hO.cell (b2 := w.heap.size) (k := 2) (by omega)).trans qm2
 have lm : w.heap.size < w4.heap.size := by rw [hO.size]; exact lm
 have lr : w.heap.size + 1 < w4.heap.size := by rw [hO.size]; exact lr
 have qr0 := qN0
 have qr1 := qN1
 have qr2 := qN2
 have xr := xN
 have hB := hO.below (by omega) hB
 clear hO qN0 qN1 qN2 xN zf0 zf1 zf2
 obtain rfl := HQ.out
 refine bodyPost_ret (v := .agg #[.bool (neg (mkRat 1 M).num), .slice ahAU nhAU chAU, .slice ahAD nhAD chAD]) ?_ rfl ⟨_, _, _, _, _, _, rfl, hAU.toNatAt, hAD.toNatAt, hB⟩
 simp [results, Tryz.f46, go_sem, qr0, qr1, qr2]
set_option maxRecDepth 100000 in
set_option maxHeartbeats 4000000 in
theorem rshare_eq (s d : Nat) (m : Rat) (a1 : Option Addr) (n1 c1 : Nat) (a2 : Option Addr) (n2 c2 : Nat) (w : World) (hs : 1 ≤ s) (hs2 : s ≤ 65536) (hd : 1 ≤ d) (hd2 : d ≤ 65536) (g1 : NatAt w a1 n1 c1 (digs m.num.natAbs)) (g2 : NatAt w a2 n2 c2 (digs m.den)) (h : d = s) :
 Calls Tryz.prog 46 #[.int .i64 (d : Int), .int .i64 (s : Int), .agg #[.bool (neg m.num), .slice a1 n1 c1, .slice a2 n2 c2]] w (RetRatN w (m)) := by
 subst h
 go_enter Tryz.func46, Tryz.ntmps46
 have hB := Below.refl w.heap.size w
 go_wp2
 obtain ⟨w1, hW, hz0, hb, q, f⟩ := box1g w (w.heap.size) (by omega) #[.bool (neg m.num), .slice a1 n1 c1, .slice a2 n2 c2] 27
 rw [hW]
 clear hW
 have g1 := g1.past hb
 have g2 := g2.past hb
 have hB := below_later hB hb
 clear hb
 have lm : w.heap.size < w1.heap.size := by omega
 have qm0 := q 0; have qm1 := q 1; have qm2 := q 2
 simp only [lgA, lgZ, lgS] at qm0 qm1 qm2
 clear q f
 obtain ⟨w2, hW, hz1, hb, q, f⟩ := box1g w1 (w.heap.size + 1) (by omega) #[.bool (neg m.num), .slice a1 n1 c1, .slice a2 n2 c2] 27
 rw [hW]
 clear hW
 have g1 := g1.past hb
 have g2 := g2.past hb
 obtain ⟨qm0, qm1, qm2, lm⟩ := bq3 hb lm qm0 qm1 qm2
 have hB := below_later hB hb
 clear hb
 have lr : w.heap.size + 1 < w2.heap.size := by omega
 have qr0 := q 0; have qr1 := q 1; have qr2 := q 2
 simp only [lgA, lgZ, lgS] at qr0 qr1 qr2
 have xr : BoxAt w2 (w.heap.size + 1) 3 := BoxAt.of q f rfl (by simp [notU_bool, notU_slice, notU_i64])
 clear q f
 clear hz0
 clear hz1
 refine bodyPost_ret (v := .agg #[.bool (neg m.num), .slice a1 n1 c1, .slice a2 n2 c2]) ?_ rfl ⟨_, _, _, _, _, _, rfl, g1, g2, hB⟩
 simp [results, Tryz.f46, go_sem, qr0, qr1, qr2]
set_option maxRecDepth 100000 in
set_option maxHeartbeats 4000000 in
theorem rshare_gt (s d : Nat) (m : Rat) (a1 : Option Addr) (n1 c1 : Nat) (a2 : Option Addr) (n2 c2 : Nat) (w : World) (hs : 1 ≤ s) (hs2 : s ≤ 65536) (hd : 1 ≤ d) (hd2 : d ≤ 65536) (g1 : NatAt w a1 n1 c1 (digs m.num.natAbs)) (g2 : NatAt w a2 n2 c2 (digs m.den)) (h : s < d) :
 Calls Tryz.prog 46 #[.int .i64 (d : Int), .int .i64 (s : Int), .agg #[.bool (neg m.num), .slice a1 n1 c1, .slice a2 n2 c2]] w (RetRatN w ((0 : Rat))) := by
 go_enter Tryz.func46, Tryz.ntmps46
 have hB := Below.refl w.heap.size w
 go_wp2_with fail
 obtain ⟨w1, hW, hz0, hb, q, f⟩ := box1g w (w.heap.size) (by omega) #[.bool (neg m.num), .slice a1 n1 c1, .slice a2 n2 c2] 27
 rw [hW]
 clear hW
 have g1 := g1.past hb
 have g2 := g2.past hb
 have hB := below_later hB hb
 clear hb
 have lm : w.heap.size < w1.heap.size := by omega
 have qm0 := q 0; have qm1 := q 1; have qm2 := q 2
 simp only [lgA, lgZ, lgS] at qm0 qm1 qm2
 clear q f
 obtain ⟨w2, hW, hz1, hb, q, f⟩ := box1g w1 (w.heap.size + 1) (by omega) #[.bool false, .slice none 0 0, .slice none 0 0] 27
 rw [hW]
 clear hW
 have g1 := g1.past hb
 have g2 := g2.past hb
 obtain ⟨qm0, qm1, qm2, lm⟩ := bq3 hb lm qm0 qm1 qm2
 have hB := below_later hB hb
 clear hb
 have lr : w.heap.size + 1 < w2.heap.size := by omega
 have qr0 := q 0; have qr1 := q 1; have qr2 := q 2
 simp only [lgA, lgZ, lgS] at qr0 qr1 qr2
 have xr : BoxAt w2 (w.heap.size + 1) 3 := BoxAt.of q f rfl (by simp [notU_bool, notU_slice, notU_i64])
 clear q f
 clear hz0
 clear hz1
 with_reducible refine (rpair_zero _).mono ?_
 rintro e w3 ⟨ahAU, nhAU, chAU, ahAD, nhAD, chAD, rfl, hAU, hAD, hb⟩
 have hAU := hAU.mono hB.size
 have hAD := hAD.mono hB.size
 have g1 := g1.past hb
 have g2 := g2.past hb
 obtain ⟨qm0, qm1, qm2, lm⟩ := bq3 hb lm qm0 qm1 qm2
 have xr := xr.past hb lr
 obtain ⟨qr0, qr1, qr2, lr⟩ := bq3 hb lr qr0 qr1 qr2
 have hB := below_later hB hb
 clear hb
 obtain ⟨Q, hQ⟩ : ∃ Q, (0 : Rat) = Q := ⟨_, rfl⟩
 rw [hQ] at hAU hAD ⊢
 have HQ := Lib.hid hQ
 clear hQ
 have zf0 := xr.f 0 (by decide)
 have zf1 := xr.f 1 (by decide)
 have zf2 := xr.f 2 (by decide)
 go_wp2
 have zf0 := xr.f 0 (by decide)
 have zf1 := xr.f 1 (by decide)
 have zf2 := xr.f 2 (by decide)
 obtain ⟨w4, hW, hO, qN0, qN1, qN2, xN⟩ := store3 xr (.bool (neg (Q).num)) (.slice ahAU nhAU chAU) (.slice ahAD nhAD chAD) (nu rfl) (nu rfl) (nu rfl)
 try rw [hW]
 clear hW
 have g1 := hO.nat g1
 have g2 := hO.nat g2
 have hAU := hO.own hAU
 have hAD := hO.own hAD
 have qm0 := (hO.cell (b2 := w.heap.size) (k := 0) (by omega)).trans qm0
 have qm1 := (hO.cell (b2 := w.heap.size) (k := 1) (by omega)).trans qm1
 have qm2 := (hO.cell (b2 := w.heap.size) (k := 2) (by omega)).trans qm2
 have lm : w.heap.size < w4.heap.size := by rw [hO.size]; exact lm
 have lr : w.heap.size + 1 < w4.heap.size := by rw [hO.size]; exact lr
 have qr0 := qN0
 have qr1 := qN1
 have qr2 := qN2
 have xr := xN
 have hB := hO.below (by omega) hB
 clear hO qN0 qN1 qN2 xN zf0 zf1 zf2
 obtain ⟨w5, hW, hz0, hb, q, f⟩ := box1g w4 (w4.heap.size) (by omega) #[.bool (neg (Q).num), .slice ahAU nhAU chAU, .slice ahAD nhAD chAD] 27
 rw [hW]
 clear hW
 have g1 := g1.past hb
 have g2 := g2.past hb
 have hAU := hAU.past hb
 have hAD := hAD.past hb
 obtain ⟨qm0, qm1, qm2, lm⟩ := bq3 hb lm qm0 qm1 qm2
 have xr := xr.past hb lr
 obtain ⟨qr0, qr1, qr2, lr⟩ := bq3 hb lr qr0 qr1 qr2
 have hB := below_later hB hb
 clear hb
 have lx : w4.heap.size < w5.heap.size := by omega
 have qx0 := q 0; have qx1 := q 1; have qx2 := q 2
 simp only [lgA, lgZ, lgS] at qx0 qx1 qx2
 clear q f
 clear hz0
 obtain rfl := HQ.out
 refine bodyPost_ret (v := .agg #[.bool (neg (0 : Rat).num), .slice ahAU nhAU chAU, .slice ahAD nhAD chAD]) ?_ rfl ⟨_, _, _, _, _, _, rfl, hAU.toNatAt, hAD.toNatAt, hB⟩
 simp [results, Tryz.f46, go_sem, qr0, qr1, qr2]
theorem rshare_any (s d : Nat) (m : Rat) (a1 : Option Addr) (n1 c1 : Nat) (a2 : Option Addr) (n2 c2 : Nat) (w : World) (hs : 1 ≤ s) (hs2 : s ≤ 65536) (hd : 1 ≤ d) (hd2 : d ≤ 65536) (g1 : NatAt w a1 n1 c1 (digs m.num.natAbs)) (g2 : NatAt w a2 n2 c2 (digs m.den)) :
 Calls Tryz.prog 46 #[.int .i64 (d : Int), .int .i64 (s : Int), .agg #[.bool (neg m.num), .slice a1 n1 c1, .slice a2 n2 c2]] w (RetRatN w (spikeR s m d)) := by
 unfold spikeR
 by_cases h : d < s
 · rw [if_pos h]
   exact rshare_lt s d m _ _ _ _ _ _ w hs hs2 hd hd2 g1 g2 h
 · rw [if_neg h]
   by_cases h2 : d = s
   · rw [if_pos h2]
     exact rshare_eq s d m _ _ _ _ _ _ w hs hs2 hd hd2 g1 g2 h2
   · rw [if_neg h2]
     exact rshare_gt s d m _ _ _ _ _ _ w hs hs2 hd hd2 g1 g2 (by omega)
def wtI (z : Int) : Int := if isI z then z else -1
set_option maxRecDepth 100000 in
set_option maxHeartbeats 8000000 in
theorem rweight13 (sc : Nat) {q : Rat} {a1 : Option Addr} {n1 c1 : Nat} {a2 : Option Addr} {n2 c2 : Nat} {w : World} (g1 : NatAt w a1 n1 c1 (digs q.num.natAbs)) (g2 : NatAt w a2 n2 c2 (digs q.den)) (hl : rlen q ≤ 1100) (hs : sc ≤ 16777215) :
 Calls Tryz.prog 38 #[.int .i64 (sc : Int), .agg #[.bool (neg q.num), .slice a1 n1 c1, .slice a2 n2 c2]] w (RetVal w (.int .i64 (wtI (rndR (q * mkRat (sc : Int) 1))))) := by
 have ls : rlen (mkRat (sc : Int) 1) ≤ 1 := rlen_small (by decide) (by omega) (by decide)
 rw [Rat.mul_comm q]
 obtain ⟨Sc, hSc⟩ : ∃ Sc, mkRat (sc : Int) 1 = Sc := ⟨_, rfl⟩
 rw [hSc] at ls ⊢
 have lx : rlen (Sc * q) ≤ rlen Sc + rlen q + 1 := product_short Sc q
 obtain ⟨X, hX⟩ : ∃ X, Sc * q = X := ⟨_, rfl⟩
 rw [hX] at lx ⊢
 obtain ⟨Z, hZ⟩ : ∃ Z, rndR X = Z := ⟨_, rfl⟩
 rw [hZ]
 have HSC := Lib.hid hSc
 have HX := Lib.hid hX
 have HZ := Lib.hid hZ
 have LS := Lib.hid (show rlen Sc ≤ 10000 by omega)
 have LQ := Lib.hid (show rlen q ≤ 10000 by omega)
 have LX := Lib.hid (show rlen X ≤ 10000 by omega)
 have lz : (digs Z.natAbs).length ≤ 20000 := by
  rw [← hZ, natAbs_rnd]
  have h1 : rndN X.num.natAbs X.den ≤ X.num.natAbs + 1 := by
   have := Nat.div_le_self X.num.natAbs X.den
   unfold rndN
   split <;> omega
  have h2 := digs_len_mono h1
  have h3 := digs_len_add X.num.natAbs 1
  have h4 : (digs 1).length = 1 := rfl
  have h5 : (digs X.num.natAbs).length ≤ rlen X := Nat.le_max_left _ _
  omega
 have LZ := Lib.hid lz
 have HSS := Lib.hid (show -9223372036854775808 ≤ (sc : Int) ∧ (sc : Int) ≤ 9223372036854775807 by omega)
 clear hSc hX hZ ls lx hl hs lz
 go_enter Tryz.func38, Tryz.ntmps38
 have hB := Below.refl w.heap.size w
 go_wp2_with fail
 obtain ⟨w1, hW, hz0, hb, q, f⟩ := box1g w (w.heap.size) (by omega) #[.bool (neg q.num), .slice a1 n1 c1, .slice a2 n2 c2] 27
 rw [hW]
 clear hW
 have g1 := g1.past hb
 have g2 := g2.past hb
 have hB := below_later hB hb
 clear hb
 have ls : w.heap.size < w1.heap.size := by omega
 have qs0 := q 0; have qs1 := q 1; have qs2 := q 2
 simp only [lgA, lgZ, lgS] at qs0 qs1 qs2
 clear q f
 clear hz0
 with_reducible refine (rpair_one (sc : Int) _ HSS.out).mono ?_
 rintro e w2 ⟨ahCU, nhCU, chCU, ahCD, nhCD, chCD, rfl, hCU, hCD, hb⟩
 have g1 := g1.past hb
 have g2 := g2.past hb
 obtain ⟨qs0, qs1, qs2, ls⟩ := bq3 hb ls qs0 qs1 qs2
 have hB := below_later hB hb
 clear hb
 rw [HSC.out] at hCU hCD ⊢
 go_wp2_with fail
 obtain ⟨w3, hW, hz0, hb, q, f⟩ := box1g w2 (w2.heap.size) (by omega) #[.bool (neg (Sc).num), .slice ahCU nhCU chCU, .slice ahCD nhCD chCD] 27
 rw [hW]
 clear hW
 have g1 := g1.past hb
 have g2 := g2.past hb
 have hCU := hCU.past hb
 have hCD := hCD.past hb
 obtain ⟨qs0, qs1, qs2, ls⟩ := bq3 hb ls qs0 qs1 qs2
 have hB := below_later hB hb
 clear hb
 have lc : w2.heap.size < w3.heap.size := by omega
 have qc0 := q 0; have qc1 := q 1; have qc2 := q 2
 simp only [lgA, lgZ, lgS] at qc0 qc1 qc2
 clear q f
 obtain ⟨w4, hW, hz1, hb, q, f⟩ := box1g w3 (w2.heap.size + 1) (by omega) #[.bool (neg (Sc).num), .slice ahCU nhCU chCU, .slice ahCD nhCD chCD, .bool (neg q.num), .slice a1 n1 c1, .slice a2 n2 c2] 27
 rw [hW]
 clear hW
 have g1 := g1.past hb
 have g2 := g2.past hb
 have hCU := hCU.past hb
 have hCD := hCD.past hb
 obtain ⟨qs0, qs1, qs2, ls⟩ := bq3 hb ls qs0 qs1 qs2
 obtain ⟨qc0, qc1, qc2, lc⟩ := bq3 hb lc qc0 qc1 qc2
 have hB := below_later hB hb
 clear hb
 have ll : w2.heap.size + 1 < w4.heap.size := by omega
 have ql0 := q 0; have ql1 := q 1; have ql2 := q 2; have ql3 := q 3; have ql4 := q 4; have ql5 := q 5
 simp only [lgA, lgZ, lgS] at ql0 ql1 ql2 ql3 ql4 ql5
 clear q f
 clear hz0
 clear hz1
 with_reducible refine (rmul_two (RatsAt.two ll ql0 ql1 ql2 ql3 ql4 ql5 hCU.toNatAt hCD.toNatAt g1 g2) LS.out LQ.out).mono ?_
 rintro e w5 ⟨ahXU, nhXU, chXU, ahXD, nhXD, chXD, rfl, hXU, hXD, hb⟩
 have g1 := g1.past hb
 have g2 := g2.past hb
 have hCU := hCU.past hb
 have hCD := hCD.past hb
 obtain ⟨qs0, qs1, qs2, ls⟩ := bq3 hb ls qs0 qs1 qs2
 obtain ⟨qc0, qc1, qc2, lc⟩ := bq3 hb lc qc0 qc1 qc2
 have ql0 := bq hb ll ql0; have ql1 := bq hb ll ql1; have ql2 := bq hb ll ql2; have ql3 := bq hb ll ql3; have ql4 := bq hb ll ql4; have ql5 := bq hb ll ql5
 have ll := bl hb ll
 have hB := below_later hB hb
 clear hb
 rw [HX.out] at hXU hXD ⊢
 go_wp2_with fail
 obtain ⟨w6, hW, hz0, hb, q, f⟩ := box1g w5 (w5.heap.size) (by omega) #[.bool (neg (X).num), .slice ahXU nhXU chXU, .slice ahXD nhXD chXD] 27
 rw [hW]
 clear hW
 have hXU := hXU.past hb
 have hXD := hXD.past hb
 have hB := below_later hB hb
 clear hb
 have lx : w5.heap.size < w6.heap.size := by omega
 have qx0 := q 0; have qx1 := q 1; have qx2 := q 2
 simp only [lgA, lgZ, lgS] at qx0 qx1 qx2
 clear q f
 clear hz0
 with_reducible refine (rround_wh hXU.toNatAt hXD.toNatAt LX.out).mono ?_
 rintro e w7 ⟨ahZ, nhZ, chZ, rfl, hZ, hb⟩
 have hXU := hXU.past hb
 have hXD := hXD.past hb
 obtain ⟨qx0, qx1, qx2, lx⟩ := bq3 hb lx qx0 qx1 qx2
 have hB := below_later hB hb
 clear hb
 rw [HZ.out] at hZ ⊢
 go_wp2_with fail
 obtain ⟨w8, hW, hz0, hb, q, f⟩ := box1g w7 (w7.heap.size) (by omega) #[.bool (neg Z), .slice ahZ nhZ chZ] 25
 rw [hW]
 clear hW
 have hZ := hZ.past hb
 have hB := below_later hB hb
 clear hb
 have ln : w7.heap.size < w8.heap.size := by omega
 have qn0 := q 0; have qn1 := q 1
 simp only [lgA, lgZ, lgS] at qn0 qn1
 clear q f
 clear hz0
 by_cases hz : -9223372036854775808 ≤ Z ∧ Z ≤ 9223372036854775807
 · obtain ⟨y1, y2⟩ := one_yes hz
   have e : wtI Z = Z := by unfold wtI; rw [y1]; rfl
   have Y1 := Lib.hid y1
   have Y2 := Lib.hid y2
   have E := Lib.hid e
   clear y1 y2 e hz
   go_wp2_with fail
   with_reducible refine (rsone_c hZ.toNatAt (by have := hZ.len; have := LZ.out; omega)).mono ?_
   rintro e w9 ⟨rfl, hb⟩
   have hZ := hZ.past hb
   obtain ⟨qn0, qn1, ln⟩ := bq2 hb ln qn0 qn1
   have hB := below_later hB hb
   clear hb
   rw [Y1.out, Y2.out]
   go_wp2
   go_ret
   exact ⟨by rw [E.out]; rfl, hB⟩
 · obtain ⟨y1, y2⟩ := one_no hz
   have e : wtI Z = -1 := by unfold wtI; rw [y1]; rfl
   have Y1 := Lib.hid y1
   have Y2 := Lib.hid y2
   have E := Lib.hid e
   clear y1 y2 e hz
   go_wp2_with fail
   with_reducible refine (rsone_c hZ.toNatAt (by have := hZ.len; have := LZ.out; omega)).mono ?_
   rintro e w9 ⟨rfl, hb⟩
   have hZ := hZ.past hb
   obtain ⟨qn0, qn1, ln⟩ := bq2 hb ln qn0 qn1
   have hB := below_later hB hb
   clear hb
   rw [Y1.out, Y2.out]
   go_wp2
   go_ret
   exact ⟨by rw [E.out]; rfl, hB⟩
set_option maxRecDepth 100000 in
set_option maxHeartbeats 4000000 in
theorem rCheck13 (a : Option Addr) (n c : Nat) (zs : List Int) (k : Int) (w : World) (g : IntsAt w a n c zs) :
 Calls Tryz.prog 79 #[.slice a n c, .int .i64 k] w (RetVal w (.int .i64 (chkT zs k))) := by
 have hcle := g.cle
 have hle := g.le
 have hlen := g.len
 have hm : n ≤ 9223372036854775807 := by unfold maxLen at hcle; omega
 by_cases hb : 1 ≤ k ∧ k ≤ 65536 ∧ 1 ≤ n ∧ (n : Int) ≤ k
 · obtain ⟨h1, h2, h3, h4⟩ := hb
   have hgo : ∀ j, j < n → (0 ≤ zs.getD j 0 ∧ zs.getD j 0 ≤ 16777215) ∨ chkT zs k = 13 := fun j hj => by
    by_cases hz : 0 ≤ zs.getD j 0 ∧ zs.getD j 0 ≤ 16777215
    · exact .inl hz
    · exact .inr (chkT_no fun h => hz (h.2.2.2.2.1 _ (getD_mem' (by omega))))
   have hend : (∀ j, j < n → 0 ≤ zs.getD j 0 ∧ zs.getD j 0 ≤ 16777215) → chkT zs k = if someT zs n = true then 0 else 13 := fun hall => by
    have hiff : okT zs k ↔ someT zs n = true := by
     constructor
     · intro h
       unfold someT
       rw [← hlen, List.take_length, List.any_eq_true]
       obtain ⟨z, hz, h0⟩ := h.2.2.2.2.2
       exact ⟨z, hz, decide_eq_true h0⟩
     · intro h
       refine ⟨h1, h2, by omega, by omega, fun z hz => ?_, ?_⟩
       · obtain ⟨i, hi, rfl⟩ := List.getElem_of_mem hz
         have := hall i (by omega)
         rwa [List.getD_eq_getElem?_getD, List.getElem?_eq_getElem hi] at this
       · unfold someT at h
         rw [← hlen, List.take_length, List.any_eq_true] at h
         obtain ⟨z, hz, h0⟩ := h
         exact ⟨z, hz, of_decide_eq_true h0⟩
    unfold chkT
    simp only [hiff]
   have hs := fun j (hj : j < n) => someT_succ (zs := zs) (j := j) (by omega)
   obtain ⟨R, hR⟩ : ∃ R, chkT zs k = R := ⟨_, rfl⟩
   rw [hR] at hend ⊢
   have HGO := Lib.hid hgo
   have HEND := Lib.hid hend
   have HS := Lib.hid hs
   have HR := Lib.hid hR
   have g0 := g
   clear hgo hend hs hR g
   go_enter Tryz.func79, Tryz.ntmps79
   go_wp2
   go_loopw [5, 6] (fun s i wr => ∃ (j : Nat), j ≤ n ∧ s = .bool (someT zs j) ∧ i = .int .i64 (j : Int) ∧ wr = w ∧ Hid (∀ i, i < j → 0 ≤ zs.getD i 0 ∧ zs.getD i 0 ≤ 16777215)) (fun s i _ => n - (intOf i).toNat)
   case atStart => exact ⟨0, Nat.zero_le _, rfl, rfl, rfl, Lib.hid fun i hi => absurd hi (Nat.not_lt_zero i)⟩
   case round =>
    obtain ⟨j, hj, rfl, rfl, rfl, HALL⟩ := hrel
    by_cases hlt : j < n
    · rcases g0.cell with h0 | ⟨b, o, rfl, hbl, hc⟩
      · omega
      have q := hc j hlt
      have hs1 := HS.out j hlt
      have hg := HGO.out j hlt
      have hall := HALL.out
      obtain ⟨z, hz⟩ : ∃ z, zs.getD j 0 = z := ⟨_, rfl⟩
      rw [hz] at q hs1 hg
      obtain ⟨s, hs⟩ : ∃ s, someT zs j = s := ⟨_, rfl⟩
      rw [hs] at hs1 ⊢
      have HS1 := Lib.hid hs1
      have HZ := Lib.hid hz
      clear hc hs1 hz hs
      by_cases hz1 : z < 0
      · have e : R = 13 := (hg.resolve_left (by omega)) ▸ HR.out.symm
        subst e
        clear hg
        go_wp2
        go_ret
        exact ⟨rfl, Below.refl _ _⟩
      by_cases hz2 : 16777215 < z
      · have e : R = 13 := (hg.resolve_left (by omega)) ▸ HR.out.symm
        subst e
        clear hg
        go_wp2
        go_ret
        exact ⟨rfl, Below.refl _ _⟩
      clear hg
      have HN := Lib.hid (show ∀ i, i < j + 1 → 0 ≤ zs.getD i 0 ∧ zs.getD i 0 ≤ 16777215 from fun i hi => by
       by_cases e : i = j
       · subst e; rw [HZ.out]; omega
       · exact hall i (by omega))
      clear hall
      cases s
      · go_wp2
        go_roundw
        case rel => exact ⟨j + 1, by omega, by rw [HS1.out]; rfl, by go_num, trivial, HN⟩
        case measure => simp [intOf]; omega
      · go_wp2
        go_roundw
        case rel => exact ⟨j + 1, by omega, by rw [HS1.out]; rfl, by go_num, trivial, HN⟩
        case measure => simp [intOf]; omega
    · obtain rfl : j = n := by omega
      have he := HEND.out HALL.out
      obtain ⟨s, hs⟩ : ∃ s, someT zs j = s := ⟨_, rfl⟩
      rw [hs] at he ⊢
      have HE := Lib.hid he
      clear he hs
      cases s
      · go_wp2
        go_ret
        exact ⟨by rw [HE.out]; rfl, Below.refl _ _⟩
      · go_wp2
        go_ret
        exact ⟨by rw [HE.out]; rfl, Below.refl _ _⟩
 · have e : chkT zs k = 13 := chkT_no fun h => hb ⟨h.1, h.2.1, by have := h.2.2.1; omega, by have := h.2.2.2.1; omega⟩
   rw [e]
   clear e
   by_cases h1 : k < 1
   · go_enter Tryz.func79, Tryz.ntmps79
     go_wp2
     go_ret
     exact ⟨rfl, Below.refl _ _⟩
   by_cases h2 : 65536 < k
   · go_enter Tryz.func79, Tryz.ntmps79
     go_wp2
     go_ret
     exact ⟨rfl, Below.refl _ _⟩
   by_cases h3 : n < 1
   · obtain rfl : n = 0 := by omega
     go_enter Tryz.func79, Tryz.ntmps79
     go_wp2
     go_ret
     exact ⟨rfl, Below.refl _ _⟩
   have h4 : k < (n : Int) := by omega
   clear hb
   go_enter Tryz.func79, Tryz.ntmps79
   go_wp2
   go_ret
   exact ⟨rfl, Below.refl _ _⟩
set_option maxRecDepth 100000 in
theorem told13_yes (a : Option Addr) (n c : Nat) (zs : List Int) (k : Int) (w : World) (g : IntsAt w a n c zs) (h : okT zs k) :
 Calls Tryz.prog 40 #[.int .i64 k, .slice a n c] w fun e w' => e = .returned (.tuple #[.slice a n c, .int .i64 0]) ∧ Below w.heap.size w w' := by
 have hc := chkT_yes h
 have HC := Lib.hid hc
 clear hc h
 go_enter Tryz.func40, Tryz.ntmps40
 have hB := Below.refl w.heap.size w
 go_wp2_with fail
 with_reducible refine (rCheck13 _ _ _ zs k _ g).mono ?_
 rintro e w1 ⟨rfl, hb⟩
 have g := g.past hb
 have hB := below_later hB hb
 clear hb
 rw [HC.out]
 go_wp2
 go_ret2
 exact ⟨rfl, hB⟩
set_option maxRecDepth 100000 in
theorem told13_no (a : Option Addr) (n c : Nat) (zs : List Int) (k : Int) (w : World) (g : IntsAt w a n c zs) (h : ¬ okT zs k) :
 Calls Tryz.prog 40 #[.int .i64 k, .slice a n c] w fun e w' => e = .returned (.tuple #[.slice none 0 0, .int .i64 13]) ∧ Below w.heap.size w w' := by
 have hc := chkT_no h
 have HC := Lib.hid hc
 clear hc h
 go_enter Tryz.func40, Tryz.ntmps40
 have hB := Below.refl w.heap.size w
 go_wp2_with fail
 with_reducible refine (rCheck13 _ _ _ zs k _ g).mono ?_
 rintro e w1 ⟨rfl, hb⟩
 have g := g.past hb
 have hB := below_later hB hb
 clear hb
 rw [HC.out]
 go_wp2
 go_ret2
 exact ⟨rfl, hB⟩
end Go.Proofs.YtlkoenpdmlbhlaaGreat
