/- chance, fourth part: In. -/
import Derived.Test.YtlkoenpdmlbhlaaChance3
set_option linter.unusedVariables false
set_option linter.unusedSimpArgs false
namespace Go.Proofs.Ytlkoenpdmlbhlaa
open Go.RowKit Go.Shelf

/-- none is told, and why -/
def RetNone (w : World) (x : Int) (e : Ending) (w' : World) : Prop := e = .returned (.tuple #[.agg #[.bool false, .slice none 0 0, .slice none 0 0], .int .i64 x]) ∧ Below w.heap.size w w'
theorem refA_ok {zs : List Int} {k u : Nat} (h : okT zs (k : Int)) (hk : 1 ≤ k) (hk2 : k ≤ 1024) (hu : u ≤ k) : refA zs (k : Int) (u : Int) = 0 := by
  unfold refA
  rw [if_pos (by omega), chkT_yes h]

set_option maxRecDepth 100000 in
set_option maxHeartbeats 4000000 in
theorem In_ref (a : Option Addr) (n c : Nat) (zs : List Int) (k u j : Int) (w : World) (g : IntsAt w a n c zs) (X : Int) (h : refA zs k u = X) (hX : X ≠ 0) :
    Calls Try.prog 24 #[.slice a n c, .int .i64 k, .int .i64 u, .int .i64 j] w (RetNone w X) := by
  have H := Lib.hid h
  clear h
  have t0 : (X == 0) = false := by rw [beq_eq_false_iff_ne]; exact hX
  have t1 : (X != 0) = true := by simp [hX]
  go_enter Try.func24, Try.ntmps24
  have hB := Below.refl w.heap.size w
  go_wp2_with fail
  obtain ⟨w1, hW, hz0, hb, q, f⟩ := box1g w (w.heap.size) (by omega) #[.bool false, .slice none 0 0, .slice none 0 0] 36
  rw [hW]
  clear hW
  have g := g.past hb
  have hB := below_later hB hb
  clear hb
  have lr : w.heap.size < w1.heap.size := by omega
  have qr0 := q 0; have qr1 := q 1; have qr2 := q 2
  simp only [List.getElem?_toArray, List.getElem?_cons_zero, List.getElem?_cons_succ] at qr0 qr1 qr2
  have xr : BoxAt w1 (w.heap.size) 3 := BoxAt.of q f rfl (by simp [notU_bool, notU_slice, notU_i64])
  clear q f
  clear hz0
  with_reducible refine (refuses_any _ _ _ zs k u _ g).mono ?_
  rintro e w2 ⟨rfl, hb⟩
  have g := g.past hb
  have qr0 := bq hb lr qr0; have qr1 := bq hb lr qr1; have qr2 := bq hb lr qr2
  have xr := xr.past hb lr
  have lr := bl hb lr
  have hB := below_later hB hb
  clear hb
  rw [H.out]
  have zf0 := xr.f 0 (by decide)
  have zf1 := xr.f 1 (by decide)
  have zf2 := xr.f 2 (by decide)
  go_wp2
  obtain ⟨w3, hW, hO, qN0, qN1, qN2, xN⟩ := store3 xr (.bool false) (.slice none 0 0) (.slice none 0 0) (nu rfl) (nu rfl) (nu rfl)
  try rw [hW]
  clear hW
  have lr : w.heap.size < w3.heap.size := by rw [hO.size]; exact lr
  have qr0 := qN0
  have qr1 := qN1
  have qr2 := qN2
  have xr := xN
  have hB := hO.below (by omega) hB
  clear hO qN0 qN1 qN2 xN zf0 zf1 zf2
  refine bodyPost_ret (v := .tuple #[.agg #[.bool false, .slice none 0 0, .slice none 0 0], .int .i64 X]) ?_ rfl ⟨rfl, hB⟩
  simp [results, Try.f24, go_sem, qr0, qr1, qr2]

set_option maxRecDepth 100000 in
set_option maxHeartbeats 4000000 in
theorem In_low (a : Option Addr) (n c : Nat) (zs : List Int) (k u j : Int) (w : World) (g : IntsAt w a n c zs) (h : refA zs k u = 0) (hj : j < 0) :
    Calls Try.prog 24 #[.slice a n c, .int .i64 k, .int .i64 u, .int .i64 j] w (RetNone w 3) := by
  have H := Lib.hid h
  clear h
  go_enter Try.func24, Try.ntmps24
  have hB := Below.refl w.heap.size w
  go_wp2_with fail
  obtain ⟨w1, hW, hz0, hb, q, f⟩ := box1g w (w.heap.size) (by omega) #[.bool false, .slice none 0 0, .slice none 0 0] 36
  rw [hW]
  clear hW
  have g := g.past hb
  have hB := below_later hB hb
  clear hb
  have lr : w.heap.size < w1.heap.size := by omega
  have qr0 := q 0; have qr1 := q 1; have qr2 := q 2
  simp only [List.getElem?_toArray, List.getElem?_cons_zero, List.getElem?_cons_succ] at qr0 qr1 qr2
  have xr : BoxAt w1 (w.heap.size) 3 := BoxAt.of q f rfl (by simp [notU_bool, notU_slice, notU_i64])
  clear q f
  clear hz0
  with_reducible refine (refuses_any _ _ _ zs k u _ g).mono ?_
  rintro e w2 ⟨rfl, hb⟩
  have g := g.past hb
  have qr0 := bq hb lr qr0; have qr1 := bq hb lr qr1; have qr2 := bq hb lr qr2
  have xr := xr.past hb lr
  have lr := bl hb lr
  have hB := below_later hB hb
  clear hb
  rw [H.out]
  have zf0 := xr.f 0 (by decide)
  have zf1 := xr.f 1 (by decide)
  have zf2 := xr.f 2 (by decide)
  go_wp2
  obtain ⟨w3, hW, hO, qN0, qN1, qN2, xN⟩ := store3 xr (.bool false) (.slice none 0 0) (.slice none 0 0) (nu rfl) (nu rfl) (nu rfl)
  try rw [hW]
  clear hW
  have lr : w.heap.size < w3.heap.size := by rw [hO.size]; exact lr
  have qr0 := qN0
  have qr1 := qN1
  have qr2 := qN2
  have xr := xN
  have hB := hO.below (by omega) hB
  clear hO qN0 qN1 qN2 xN zf0 zf1 zf2
  refine bodyPost_ret (v := .tuple #[.agg #[.bool false, .slice none 0 0, .slice none 0 0], .int .i64 3]) ?_ rfl ⟨rfl, hB⟩
  simp [results, Try.f24, go_sem, qr0, qr1, qr2]

set_option maxRecDepth 100000 in
set_option maxHeartbeats 4000000 in
theorem In_high (a : Option Addr) (n c : Nat) (zs : List Int) (k u j : Int) (w : World) (g : IntsAt w a n c zs) (h : refA zs k u = 0) (hj : ¬ j < 0) (hj2 : u < j) :
    Calls Try.prog 24 #[.slice a n c, .int .i64 k, .int .i64 u, .int .i64 j] w (RetNone w 3) := by
  have H := Lib.hid h
  clear h
  go_enter Try.func24, Try.ntmps24
  have hB := Below.refl w.heap.size w
  go_wp2_with fail
  obtain ⟨w1, hW, hz0, hb, q, f⟩ := box1g w (w.heap.size) (by omega) #[.bool false, .slice none 0 0, .slice none 0 0] 36
  rw [hW]
  clear hW
  have g := g.past hb
  have hB := below_later hB hb
  clear hb
  have lr : w.heap.size < w1.heap.size := by omega
  have qr0 := q 0; have qr1 := q 1; have qr2 := q 2
  simp only [List.getElem?_toArray, List.getElem?_cons_zero, List.getElem?_cons_succ] at qr0 qr1 qr2
  have xr : BoxAt w1 (w.heap.size) 3 := BoxAt.of q f rfl (by simp [notU_bool, notU_slice, notU_i64])
  clear q f
  clear hz0
  with_reducible refine (refuses_any _ _ _ zs k u _ g).mono ?_
  rintro e w2 ⟨rfl, hb⟩
  have g := g.past hb
  have qr0 := bq hb lr qr0; have qr1 := bq hb lr qr1; have qr2 := bq hb lr qr2
  have xr := xr.past hb lr
  have lr := bl hb lr
  have hB := below_later hB hb
  clear hb
  rw [H.out]
  have zf0 := xr.f 0 (by decide)
  have zf1 := xr.f 1 (by decide)
  have zf2 := xr.f 2 (by decide)
  go_wp2
  obtain ⟨w3, hW, hO, qN0, qN1, qN2, xN⟩ := store3 xr (.bool false) (.slice none 0 0) (.slice none 0 0) (nu rfl) (nu rfl) (nu rfl)
  try rw [hW]
  clear hW
  have lr : w.heap.size < w3.heap.size := by rw [hO.size]; exact lr
  have qr0 := qN0
  have qr1 := qN1
  have qr2 := qN2
  have xr := xN
  have hB := hO.below (by omega) hB
  clear hO qN0 qN1 qN2 xN zf0 zf1 zf2
  refine bodyPost_ret (v := .tuple #[.agg #[.bool false, .slice none 0 0, .slice none 0 0], .int .i64 3]) ?_ rfl ⟨rfl, hB⟩
  simp [results, Try.f24, go_sem, qr0, qr1, qr2]

set_option maxRecDepth 100000 in
set_option maxHeartbeats 4000000 in
theorem In_ok (a : Option Addr) (n c : Nat) (zs : List Int) (k u j : Nat) (w : World) (g : IntsAt w a n c zs) (hok : okT zs (k : Int)) (hk1 : 1 ≤ k) (hk : k ≤ 20) (hu : u ≤ k) (hj : j ≤ u) :
    Calls Try.prog 24 #[.slice a n c, .int .i64 (k : Int), .int .i64 (u : Int), .int .i64 (j : Int)] w (RetOk w (inR24 zs k u j)) := by
  have h := refA_ok hok hk1 (by omega) hu
  have H := Lib.hid h
  have HOK := Lib.hid hok
  have tj : decide (u < j) = false := decide_eq_false (by omega)
  obtain ⟨R, hR⟩ : ∃ R, inR24 zs k u j = R := ⟨_, rfl⟩
  rw [hR]
  have HR := Lib.hid hR
  clear h hok hR
  go_enter Try.func24, Try.ntmps24
  have hB := Below.refl w.heap.size w
  go_wp2_with fail
  obtain ⟨w1, hW, hz0, hb, q, f⟩ := box1g w (w.heap.size) (by omega) #[.bool false, .slice none 0 0, .slice none 0 0] 36
  rw [hW]
  clear hW
  have g := g.past hb
  have hB := below_later hB hb
  clear hb
  have lr : w.heap.size < w1.heap.size := by omega
  have qr0 := q 0; have qr1 := q 1; have qr2 := q 2
  simp only [List.getElem?_toArray, List.getElem?_cons_zero, List.getElem?_cons_succ] at qr0 qr1 qr2
  have xr : BoxAt w1 (w.heap.size) 3 := BoxAt.of q f rfl (by simp [notU_bool, notU_slice, notU_i64])
  clear q f
  clear hz0
  with_reducible refine (refuses_any _ _ _ zs (k : Int) (u : Int) _ g).mono ?_
  rintro e w2 ⟨rfl, hb⟩
  have g := g.past hb
  have qr0 := bq hb lr qr0; have qr1 := bq hb lr qr1; have qr2 := bq hb lr qr2
  have xr := xr.past hb lr
  have lr := bl hb lr
  have hB := below_later hB hb
  clear hb
  rw [H.out]
  go_wp2_with fail
  with_reducible refine (in_any _ _ _ zs k u j _ g HOK.out hk hu hj).mono ?_
  rintro e w3 ⟨ahAU, nhAU, chAU, ahAD, nhAD, chAD, rfl, hAU, hAD, hb⟩
  have hAU := hAU.mono hB.size
  have hAD := hAD.mono hB.size
  have g := g.past hb
  have qr0 := bq hb lr qr0; have qr1 := bq hb lr qr1; have qr2 := bq hb lr qr2
  have xr := xr.past hb lr
  have lr := bl hb lr
  have hB := below_later hB hb
  clear hb
  rw [HR.out] at hAU hAD ⊢
  have zf0 := xr.f 0 (by decide)
  have zf1 := xr.f 1 (by decide)
  have zf2 := xr.f 2 (by decide)
  go_wp2
  obtain ⟨w4, hW, hO, qN0, qN1, qN2, xN⟩ := store3 xr (.bool (neg (R).num)) (.slice ahAU nhAU chAU) (.slice ahAD nhAD chAD) (nu rfl) (nu rfl) (nu rfl)
  try rw [hW]
  clear hW
  have hAU := hO.own hAU
  have hAD := hO.own hAD
  have lr : w.heap.size < w4.heap.size := by rw [hO.size]; exact lr
  have qr0 := qN0
  have qr1 := qN1
  have qr2 := qN2
  have xr := xN
  have hB := hO.below (by omega) hB
  clear hO qN0 qN1 qN2 xN zf0 zf1 zf2
  refine bodyPost_ret (v := .tuple #[.agg #[.bool (neg R.num), .slice ahAU nhAU chAU, .slice ahAD nhAD chAD], .int .i64 0]) ?_ rfl ⟨_, _, _, _, _, _, rfl, hAU, hAD, hB⟩
  simp [results, Try.f24, go_sem, qr0, qr1, qr2]

end Go.Proofs.Ytlkoenpdmlbhlaa
