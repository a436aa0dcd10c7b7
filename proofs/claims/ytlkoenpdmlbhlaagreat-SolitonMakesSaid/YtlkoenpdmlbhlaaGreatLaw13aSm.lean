import Derived.Test.YtlkoenpdmlbhlaaGreatS0Sm
import Derived.Test.YtlkoenpdmlbhlaaGreatSoli4Sm
import Derived.Test.YtlkoenpdmlbhlaaGreatSoli3Sm
import Derived.Test.YtlkoenpdmlbhlaaGreatReg6Sm
set_option linter.unusedVariables false
set_option linter.unusedSimpArgs false
namespace Go.Proofs.YtlkoenpdmlbhlaaGreat
open Go.RowKit
def RetTabOk (w : World) (l : List Int) (e : Ending) (w' : World) : Prop :=
 ∃ a n c, e = .returned (.tuple #[.slice a n c, .int .i64 0]) ∧ IntsAt w' a n c l ∧ Below w.heap.size w w'
theorem RetTab.yes {w : World} {l : List Int} {e : Ending} {w' : World} (h : RetTab w (.ok l) e w') : RetTabOk w l e w' := by
 obtain ⟨a, n, c, h1, h2, _, h4⟩ := h
 exact ⟨a, n, c, h1, h2, h4⟩
theorem ideal_ok {k s : Int} {l : List Int} (h : idealT k s = .ok l) (w : World) : Calls Tryz.prog 10 #[.int .i64 k, .int .i64 s] w (RetTabOk w l) :=
 (ideal_any k s w).mono fun _ _ h2 => by rw [h] at h2; exact h2.yes
theorem robust_ok {k s sp : Int} {m : Rat} {l : List Int} (h : robustT k s sp m = .ok l) {a1 : Option Addr} {n1 c1 : Nat} {a2 : Option Addr} {n2 c2 : Nat} {w : World} (g1 : NatAt w a1 n1 c1 (digs m.num.natAbs)) (g2 : NatAt w a2 n2 c2 (digs m.den)) (hl : rlen m ≤ 1000) :
 Calls Tryz.prog 12 #[.int .i64 k, .int .i64 s, .int .i64 sp, .agg #[.bool (neg m.num), .slice a1 n1 c1, .slice a2 n2 c2]] w (RetTabOk w l) :=
 (robust_any k s sp m _ _ _ _ _ _ w g1 g2 hl).mono fun _ _ h2 => by rw [h] at h2; exact h2.yes
set_option maxRecDepth 100000 in
set_option maxHeartbeats 4000000 in
theorem part13_any (x : Int) (y : Nat) (w : World) (hx : -9223372036854775808 ≤ x ∧ x ≤ 9223372036854775807) (hy : 0 < y) (hy2 : y ≤ 9223372036854775807) :
 Calls Tryz.prog 29 #[.int .i64 x, .int .i64 (y : Int)] w (RetRat w (mkRat x y)) := by
 have hp := fun w => pair_ok (x := x) (y := (y : Int)) (q := mkRat x y) (by omega) (pr_pos hy) w hx (by omega)
 have HP := Lib.hid hp
 obtain ⟨Q, hQ⟩ : ∃ Q, mkRat x y = Q := ⟨_, rfl⟩
 rw [hQ] at HP ⊢
 clear hp hQ
 go_enter Tryz.func29, Tryz.ntmps29
 have hB := Below.refl w.heap.size w
 go_wp2_with fail
 obtain ⟨w1, hW, hz0, hb, q, f⟩ := box1g w (w.heap.size) (by omega) #[.bool false, .slice none 0 0, .slice none 0 0] 27
 rw [hW]
 clear hW
 have hB := below_later hB hb
 clear hb
 have lr : w.heap.size < w1.heap.size := by omega
 have qr0 := q 0; have qr1 := q 1; have qr2 := q 2
 simp only [lgA, lgZ, lgS] at qr0 qr1 qr2
 have xr : BoxAt w1 (w.heap.size) 3 := BoxAt.of q f rfl (by simp [notU_bool, notU_slice, notU_i64])
 clear q f
 clear hz0
 with_reducible refine (HP.out _).mono ?_
 rintro e w2 ⟨ahAU, nhAU, chAU, ahAD, nhAD, chAD, rfl, hAU, hAD, hb⟩
 have hAU := hAU.mono hB.size
 have hAD := hAD.mono hB.size
 have xr := xr.past hb lr
 obtain ⟨qr0, qr1, qr2, lr⟩ := bq3 hb lr qr0 qr1 qr2
 have hB := below_later hB hb
 clear hb
 have zf0 := xr.f 0 (by decide)
 have zf1 := xr.f 1 (by decide)
 have zf2 := xr.f 2 (by decide)
 go_wp2
 have zf0 := xr.f 0 (by decide)
 have zf1 := xr.f 1 (by decide)
 have zf2 := xr.f 2 (by decide)
 obtain ⟨w3, hW, hO, qN0, qN1, qN2, xN⟩ := store3 xr (.bool (neg (Q).num)) (.slice ahAU nhAU chAU) (.slice ahAD nhAD chAD) (nu rfl) (nu rfl) (nu rfl)
 try rw [hW]
 clear hW
 have hAU := hO.own hAU
 have hAD := hO.own hAD
 have lr : w.heap.size < w3.heap.size := by rw [hO.size]; exact lr
 have qr0 := qN0
 have qr1 := qN1
 have qr2 := qN2
 have xr := xN
 have hB := hO.below (by omega) hB
 clear hO qN0 qN1 qN2 xN zf0 zf1 zf2
 obtain ⟨w4, hW, hz0, hb, q, f⟩ := box1g w3 (w3.heap.size) (by omega) #[.bool (neg (Q).num), .slice ahAU nhAU chAU, .slice ahAD nhAD chAD] 27
 rw [hW]
 clear hW
 have hAU := hAU.past hb
 have hAD := hAD.past hb
 have xr := xr.past hb lr
 obtain ⟨qr0, qr1, qr2, lr⟩ := bq3 hb lr qr0 qr1 qr2
 have hB := below_later hB hb
 clear hb
 have lx : w3.heap.size < w4.heap.size := by omega
 have qx0 := q 0; have qx1 := q 1; have qx2 := q 2
 simp only [lgA, lgZ, lgS] at qx0 qx1 qx2
 clear q f
 clear hz0
 refine bodyPost_ret (v := .agg #[.bool (neg Q.num), .slice ahAU nhAU chAU, .slice ahAD nhAD chAD]) ?_ rfl ⟨_, _, _, _, _, _, rfl, hAU, hAD, hB⟩
 simp [results, Tryz.f29, go_sem, qr0, qr1, qr2]
theorem part13_q {x : Int} {y : Nat} {q : Rat} (hq : mkRat x y = q) (w : World) (hx : -9223372036854775808 ≤ x ∧ x ≤ 9223372036854775807) (hy : 0 < y) (hy2 : y ≤ 9223372036854775807) :
 Calls Tryz.prog 29 #[.int .i64 x, .int .i64 (y : Int)] w (RetRat w q) := by
 rw [← hq]
 exact part13_any x y w hx hy hy2
set_option maxRecDepth 100000 in
set_option maxHeartbeats 4000000 in
theorem is13_yes {a : Option Addr} {n c : Nat} {zs : List Int} {a2 : Option Addr} {n2 c2 : Nat} {w : World} (h : IntsAt w a n c zs) (h2 : IntsAt w a2 n2 c2 zs) :
 Calls Tryz.prog 30 #[.slice a n c, .int .i64 0, .slice a2 n2 c2] w (RetVal w (.bool true)) := by
 go_enter Tryz.func30, Tryz.ntmps30
 have hB := Below.refl w.heap.size w
 go_wp2_with fail
 with_reducible refine (sameInts_yes h h2).mono ?_
 rintro e w1 ⟨rfl, hb⟩
 have h := h.past hb
 have h2 := h2.past hb
 have hB := below_later hB hb
 clear hb
 go_wp2
 go_ret
 exact ⟨rfl, hB⟩
theorem awake_e1 : idealT 3 60 = .ok [20, 30, 10] := by kernel_rfl
theorem awake_e2 : robustT 3 60 2 (fr 1 4) = .ok [50, 45, 10] := by kernel_rfl
set_option maxRecDepth 100000 in
set_option maxHeartbeats 4000000 in
theorem awake13 (w : World) : Calls Tryz.prog 8 #[] w (RetVal w (.bool true)) := by
 go_enter Tryz.func8, Tryz.ntmps8
 have hB := Below.refl w.heap.size w
 go_wp2_with fail
 with_reducible refine (ideal_ok (k := 3) (s := 60) awake_e1 _).mono ?_
 rintro e w1 ⟨a1, n1, c1, rfl, h1, hb⟩
 have hB := below_later hB hb
 clear hb
 go_wp2_with fail
 refine (part13_q (x := 1) (y := 4) (q := fr 1 4) rfl _ (by decide) (by decide) (by decide)).mono ?_
 rintro e w2 ⟨ahMU, nhMU, chMU, ahMD, nhMD, chMD, rfl, hMU, hMD, hb⟩
 have h1 := h1.past hb
 have hB := below_later hB hb
 clear hb
 go_wp2_with fail
 with_reducible refine (robust_ok (k := 3) (s := 60) (sp := 2) awake_e2 hMU.toNatAt hMD.toNatAt (by decide)).mono ?_
 rintro e w3 ⟨a2, n2, c2, rfl, h2, hb⟩
 have h1 := h1.past hb
 have hMU := hMU.past hb
 have hMD := hMD.past hb
 have hB := below_later hB hb
 clear hb
 go_wp2_with fail
 have h0z1 := litI (E := 3) w3 #[.int .i64 20, .int .i64 30, .int .i64 10] [20, 30, 10] 3 rfl rfl (by decide) (by decide)
 obtain ⟨w4, hW⟩ : ∃ W, w3.alloc (.cells #[.int .i64 20, .int .i64 30, .int .i64 10] 3) = W := ⟨_, rfl⟩
 have hb : Below w3.heap.size w3 w4 := by rw [← hW]; exact (Below.refl _ _).alloc (Nat.le_refl _) _
 rw [hW] at h0z1 ⊢
 clear hW
 have h1 := h1.past hb
 have h2 := h2.past hb
 have hB := below_later hB hb
 clear hb
 have z1 := h0z1
 clear h0z1
 go_wp2_with fail
 with_reducible refine (is13_yes h1 z1).mono ?_
 rintro e w5 ⟨rfl, hb⟩
 have h1 := h1.past hb
 have h2 := h2.past hb
 have z1 := z1.past hb
 have hB := below_later hB hb
 clear hb
 go_wp2_with fail
 have h0z2 := litI (E := 3) w5 #[.int .i64 50, .int .i64 45, .int .i64 10] [50, 45, 10] 3 rfl rfl (by decide) (by decide)
 obtain ⟨w6, hW⟩ : ∃ W, w5.alloc (.cells #[.int .i64 50, .int .i64 45, .int .i64 10] 3) = W := ⟨_, rfl⟩
 have hb : Below w5.heap.size w5 w6 := by rw [← hW]; exact (Below.refl _ _).alloc (Nat.le_refl _) _
 rw [hW] at h0z2 ⊢
 clear hW
 have h2 := h2.past hb
 have hB := below_later hB hb
 clear hb
 have z2 := h0z2
 clear h0z2
 go_wp2_with fail
 with_reducible refine (is13_yes h2 z2).mono ?_
 rintro e w7 ⟨rfl, hb⟩
 have h2 := h2.past hb
 have z2 := z2.past hb
 have hB := below_later hB hb
 clear hb
 go_wp2_with fail
 have h0z3 := litI (E := 3) w7 #[.int .i64 1, .int .i64 2, .int .i64 4] [1, 2, 4] 3 rfl rfl (by decide) (by decide)
 obtain ⟨w8, hW⟩ : ∃ W, w7.alloc (.cells #[.int .i64 1, .int .i64 2, .int .i64 4] 3) = W := ⟨_, rfl⟩
 have hb : Below w7.heap.size w7 w8 := by rw [← hW]; exact (Below.refl _ _).alloc (Nat.le_refl _) _
 rw [hW] at h0z3 ⊢
 clear hW
 have hB := below_later hB hb
 clear hb
 have z3 := h0z3
 clear h0z3
 go_wp2_with fail
 with_reducible refine (total_any _ _ _ [1, 2, 4] _ z3).mono ?_
 rintro e w9 ⟨rfl, hb⟩
 have z3 := z3.past hb
 have hB := below_later hB hb
 clear hb
 rw [show sumW [1, 2, 4] 3 = 7 from by decide +kernel]
 go_wp2_with fail
 have h0z4 := litI (E := 3) w9 #[.int .i64 5] [5] 1 rfl rfl (by decide) (by decide)
 obtain ⟨w10, hW⟩ : ∃ W, w9.alloc (.cells #[.int .i64 5] 3) = W := ⟨_, rfl⟩
 have hb : Below w9.heap.size w9 w10 := by rw [← hW]; exact (Below.refl _ _).alloc (Nat.le_refl _) _
 rw [hW] at h0z4 ⊢
 clear hW
 have hB := below_later hB hb
 clear hb
 have z4 := h0z4
 clear h0z4
 go_wp2_with fail
 with_reducible refine (soliCheck_any _ _ _ [5] 1 _ z4).mono ?_
 rintro e w11 ⟨rfl, hb⟩
 have z4 := z4.past hb
 have hB := below_later hB hb
 clear hb
 rw [show chkT [5] 1 = 0 from by decide +kernel]
 go_wp2
 go_ret
 exact ⟨rfl, hB⟩
end Go.Proofs.YtlkoenpdmlbhlaaGreat
