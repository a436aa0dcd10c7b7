/- chance, seventh part: row, Row, Cloud. -/
import Derived.Test.YtlkoenpdmlbhlaaChance4
import Derived.Test.YtlkoenpdmlbhlaaChance5
import Derived.Test.YtlkoenpdmlbhlaaChance6
set_option linter.unusedVariables false
set_option linter.unusedSimpArgs false
namespace Go.Proofs.Ytlkoenpdmlbhlaa
open Go.RowKit Go.Shelf

theorem in_len {zs : List Int} {k u j : Nat} (hok : okT zs (k : Int)) (hk : k ≤ 20) (hu : u ≤ k) (hj : j ≤ u) : rlen (inR24 zs k u j) ≤ 501 := by
  have hin := okT_in hok
  have hnk : zs.length ≤ k := by have := hok.2.2.2.1; omega
  have hpos := okT_pos hok
  have htin := totS_in (g := fun i => zs.getD i 0) zs.length hin
  obtain ⟨T, hT⟩ : ∃ T : Nat, totS (fun i => zs.getD i 0) zs.length = (T : Int) := ⟨(totS (fun i => zs.getD i 0) zs.length).toNat, by omega⟩
  have hT0 : 0 < T := by omega
  have hT1 : T < 9223372036854775808 := by omega
  have hql := fun i (hi : i < zs.length) => inE_len (g := fun i => zs.getD i 0) (T := T) (k := k) (u := u) (j := j) (i := i) (hin i hi) hT0 hT1 (by omega) hu hj (by omega)
  have hsl := sumQ_len hql zs.length (Nat.le_refl _)
  have hres : inR24 zs k u j = sumQ 0 (inE (fun i => zs.getD i 0) T k u j) zs.length := by unfold inR24; rw [hT, Int.toNat_natCast]
  rw [hres]
  have : zs.length * (k + 4 + 1) ≤ 20 * 25 := Nat.mul_le_mul (by omega) (by omega)
  omega
/-- the chance of two or more -/
def cloudR (zs : List Int) (k u : Nat) : Rat := sumQ 0 (fun i => inR24 zs k u (2 + i)) (u + 1 - 2)
theorem cloud_len {zs : List Int} {k u : Nat} (hok : okT zs (k : Int)) (hk : k ≤ 20) (hu : u ≤ k) : ∀ i, i ≤ u + 1 - 2 → rlen (sumQ 0 (fun i => inR24 zs k u (2 + i)) i) ≤ 20000 := fun i hi => by
  have h := sumQ_len (q := fun i => inR24 zs k u (2 + i)) (L := 501) (N := u + 1 - 2) (fun i hi => in_len hok hk hu (by omega)) i hi
  omega
/-- rows' fractions, and no fault -/
def RetRow (w : World) (N : Nat) (q : Nat → Rat) (e : Ending) (w' : World) : Prop := ∃ v B U, e = .returned (.tuple #[v, .int .i64 0]) ∧ w.heap.size ≤ B ∧ RatsSep w' B U v N q ∧ Below w.heap.size w w'

set_option maxRecDepth 100000 in
set_option maxHeartbeats 4000000 in
theorem row_any (a : Option Addr) (n c : Nat) (k u j : Nat) (w : World) :
    Calls Try.prog 61 #[.slice a n c, .int .i64 (k : Int), .int .i64 (u : Int), .int .i64 (j : Int)] w fun e w' => e = .returned (.func (.func 90) #[] #[.pointer (some ⟨w.heap.size + 1 + 1 + 1, 0, none⟩), .pointer (some ⟨w.heap.size + 1 + 1, 0, none⟩), .pointer (some ⟨w.heap.size, 0, none⟩), .pointer (some ⟨w.heap.size + 1, 0, none⟩)]) ∧
      w'.heap.size = w.heap.size + 1 + 1 + 1 + 1 ∧ w'.cell? ⟨w.heap.size, 0, none⟩ = some (.slice a n c) ∧ w'.cell? ⟨w.heap.size + 1, 0, none⟩ = some (.int .i64 (k : Int)) ∧ w'.cell? ⟨w.heap.size + 1 + 1, 0, none⟩ = some (.int .i64 (u : Int)) ∧ w'.cell? ⟨w.heap.size + 1 + 1 + 1, 0, none⟩ = some (.int .i64 (j : Int)) ∧ BoxAt w' (w.heap.size + 1 + 1 + 1) 1 ∧ Below w.heap.size w w' := by
  go_enter Try.func61, Try.ntmps61
  have hB := Below.refl w.heap.size w
  go_wp2_with fail
  obtain ⟨w1, hW, hz0, hb, q, f⟩ := box1g w (w.heap.size) (by omega) #[.slice a n c] 24
  rw [hW]
  clear hW
  have hB := below_later hB hb
  clear hb
  have lt : w.heap.size < w1.heap.size := by omega
  have qt0 := q 0
  simp only [List.getElem?_toArray, List.getElem?_cons_zero, List.getElem?_cons_succ] at qt0
  clear q f
  obtain ⟨w2, hW, hz1, hb, q, f⟩ := box1g w1 (w.heap.size + 1) (by omega) #[.int .i64 (k : Int)] 3
  rw [hW]
  clear hW
  have qt0 := bq hb lt qt0
  have lt := bl hb lt
  have hB := below_later hB hb
  clear hb
  have lk : w.heap.size + 1 < w2.heap.size := by omega
  have qk0 := q 0
  simp only [List.getElem?_toArray, List.getElem?_cons_zero, List.getElem?_cons_succ] at qk0
  clear q f
  obtain ⟨w3, hW, hz2, hb, q, f⟩ := box1g w2 (w.heap.size + 1 + 1) (by omega) #[.int .i64 (u : Int)] 3
  rw [hW]
  clear hW
  have qt0 := bq hb lt qt0
  have lt := bl hb lt
  have qk0 := bq hb lk qk0
  have lk := bl hb lk
  have hB := below_later hB hb
  clear hb
  have lu : w.heap.size + 1 + 1 < w3.heap.size := by omega
  have qu0 := q 0
  simp only [List.getElem?_toArray, List.getElem?_cons_zero, List.getElem?_cons_succ] at qu0
  clear q f
  obtain ⟨w4, hW, hz3, hb, q, f⟩ := box1g w3 (w.heap.size + 1 + 1 + 1) (by omega) #[.int .i64 (j : Int)] 3
  rw [hW]
  clear hW
  have qt0 := bq hb lt qt0
  have lt := bl hb lt
  have qk0 := bq hb lk qk0
  have lk := bl hb lk
  have qu0 := bq hb lu qu0
  have lu := bl hb lu
  have hB := below_later hB hb
  clear hb
  have lj : w.heap.size + 1 + 1 + 1 < w4.heap.size := by omega
  have qj0 := q 0
  simp only [List.getElem?_toArray, List.getElem?_cons_zero, List.getElem?_cons_succ] at qj0
  have xj : BoxAt w4 (w.heap.size + 1 + 1 + 1) 1 := BoxAt.of q f rfl (by simp [notU_bool, notU_slice, notU_i64])
  clear q f
  go_ret
  exact ⟨rfl, by omega, qt0, qk0, qu0, qj0, xj, hB⟩

theorem row1_hands (bJ bU bT bK n0 : Nat) (a : Option Addr) (n c : Nat) (zs : List Int) (k u j0 N : Nat) (w0 : World) (g : IntsAt w0 a n c zs) (hna : n = 0 ∨ ∀ x, a = some x → x.block < n0) (hok : okT zs (k : Int)) (hk : k ≤ 20) (hu : u ≤ k) (hj0 : j0 ≤ 2) (hN : N = u + 1 - j0)
    (lJ : bJ < w0.heap.size) (hn0 : n0 ≤ bJ) (lU : bU < n0) (lT : bT < n0) (lK : bK < n0)
    (qJ : w0.cell? ⟨bJ, 0, none⟩ = some (.int .i64 (j0 : Int))) (fJ : w0.frozen? ⟨bJ, 0, none⟩ = false) (qU : w0.cell? ⟨bU, 0, none⟩ = some (.int .i64 (u : Int))) (qT : w0.cell? ⟨bT, 0, none⟩ = some (.slice a n c)) (qK : w0.cell? ⟨bK, 0, none⟩ = some (.int .i64 (k : Int))) :
    Hands 2 Try.prog 90 #[.pointer (some ⟨bJ, 0, none⟩), .pointer (some ⟨bU, 0, none⟩), .pointer (some ⟨bT, 0, none⟩), .pointer (some ⟨bK, 0, none⟩)] w0 n0 (some bJ) N (RatNew (fun i => inR24 zs k u (j0 + i))) := fun l J W hb hJ hJ2 hY h0 =>
  row1_in 2 (by decide) l bJ bU bT bK n0 a n c zs k u j0 N w0 g hna hok hk hu hj0 hN lJ hn0 lU lT lK qJ fJ qU qT qK J (fun i a1 n1 c1 a2 n2 c2 W0 W hi h1 h2 h3 h4 h5 h6 => hY i _ W0 W hi h1 h2 h3 h4 ⟨a1, n1, c1, a2, n2, c2, rfl, h5, h6⟩) hJ (fun i W x y h hc => hJ2 bJ rfl i W x y h hc) W hb h0

set_option maxRecDepth 100000 in
set_option maxHeartbeats 4000000 in
theorem Cloud_ref (a : Option Addr) (n c : Nat) (zs : List Int) (k u : Int) (w : World) (g : IntsAt w a n c zs) (X : Int) (h : refA zs k u = X) (hX : X ≠ 0) :
    Calls Try.prog 26 #[.slice a n c, .int .i64 k, .int .i64 u] w (RetNone w X) := by
  have H := Lib.hid h
  clear h
  have t0 : (X == 0) = false := by rw [beq_eq_false_iff_ne]; exact hX
  have t1 : (X != 0) = true := by simp [hX]
  go_enter Try.func26, Try.ntmps26
  have hB := Below.refl w.heap.size w
  go_wp2_with fail
  obtain ⟨w1, hW, hz0, hb, q, f⟩ := box1g w (w.heap.size) (by omega) #[.bool false, .slice none 0 0, .slice none 0 0] 36
  rw [hW]
  clear hW
  have g := g.past hb
  have hB := below_later hB hb
  clear hb
  have lr : w.heap.size < w1.heap.size := by omega
  have qr0 := q 0; have qr1 := q 1; have qr2 := q 2
  simp only [List.getElem?_toArray, List.getElem?_cons_zero, List.getElem?_cons_succ] at qr0 qr1 qr2
  have xr : BoxAt w1 (w.heap.size) 3 := BoxAt.of q f rfl (by simp [notU_bool, notU_slice, notU_i64])
  clear q f
  clear hz0
  with_reducible refine (refuses_any _ _ _ zs k u _ g).mono ?_
  rintro e w2 ⟨rfl, hb⟩
  have g := g.past hb
  have qr0 := bq hb lr qr0; have qr1 := bq hb lr qr1; have qr2 := bq hb lr qr2
  have xr := xr.past hb lr
  have lr := bl hb lr
  have hB := below_later hB hb
  clear hb
  rw [H.out]
  have zf0 := xr.f 0 (by decide)
  have zf1 := xr.f 1 (by decide)
  have zf2 := xr.f 2 (by decide)
  go_wp2
  obtain ⟨w3, hW, hO, qN0, qN1, qN2, xN⟩ := store3 xr (.bool false) (.slice none 0 0) (.slice none 0 0) (nu rfl) (nu rfl) (nu rfl)
  try rw [hW]
  clear hW
  have lr : w.heap.size < w3.heap.size := by rw [hO.size]; exact lr
  have qr0 := qN0
  have qr1 := qN1
  have qr2 := qN2
  have xr := xN
  have hB := hO.below (by omega) hB
  clear hO qN0 qN1 qN2 xN zf0 zf1 zf2
  refine bodyPost_ret (v := .tuple #[.agg #[.bool false, .slice none 0 0, .slice none 0 0], .int .i64 X]) ?_ rfl ⟨rfl, hB⟩
  simp [results, Try.f26, go_sem, qr0, qr1, qr2]

set_option maxRecDepth 100000 in
set_option maxHeartbeats 4000000 in
theorem Row_ref (a : Option Addr) (n c : Nat) (zs : List Int) (k u : Int) (w : World) (g : IntsAt w a n c zs) (X : Int) (h : refA zs k u = X) (hX : X ≠ 0) :
    Calls Try.prog 36 #[.slice a n c, .int .i64 k, .int .i64 u] w (RetVal w (.tuple #[.slice none 0 0, .int .i64 X])) := by
  have H := Lib.hid h
  clear h
  have t0 : (X == 0) = false := by rw [beq_eq_false_iff_ne]; exact hX
  have t1 : (X != 0) = true := by simp [hX]
  go_enter Try.func36, Try.ntmps36
  have hB := Below.refl w.heap.size w
  go_wp2_with fail
  with_reducible refine (refuses_any _ _ _ zs k u _ g).mono ?_
  rintro e w1 ⟨rfl, hb⟩
  have g := g.past hb
  have hB := below_later hB hb
  clear hb
  rw [H.out]
  go_wp2
  go_ret2
  exact ⟨rfl, hB⟩

set_option maxRecDepth 100000 in
set_option maxHeartbeats 4000000 in
theorem Row_ok (a : Option Addr) (n c : Nat) (zs : List Int) (k u : Nat) (w : World) (g : IntsAt w a n c zs) (hok : okT zs (k : Int)) (hk1 : 1 ≤ k) (hk : k ≤ 20) (hu : u ≤ k) :
    Calls Try.prog 36 #[.slice a n c, .int .i64 (k : Int), .int .i64 (u : Int)] w (RetRow w (u + 1) (fun i => inR24 zs k u (0 + i))) := by
  have h := refA_ok hok hk1 (by omega) hu
  have H := Lib.hid h
  have HOK := Lib.hid hok
  clear h hok
  go_enter Try.func36, Try.ntmps36
  have hB := Below.refl w.heap.size w
  go_wp2_with fail
  with_reducible refine (refuses_any _ _ _ zs (k : Int) (u : Int) _ g).mono ?_
  rintro e w1 ⟨rfl, hb⟩
  have g := g.past hb
  have hB := below_later hB hb
  clear hb
  rw [H.out]
  go_wp2_with fail
  have HUN := Lib.hid g.under
  have hs1 := hB.size
  go_wp2_with fail
  refine (row_any _ _ _ k u 0 _).mono ?_
  rintro e w2 ⟨rfl, hzR, qt0, qk0, qu0, qj0, xj, hb⟩
  have g := g.past hb
  have hB := below_later hB hb
  clear hb
  have lt : w1.heap.size < w2.heap.size := by omega
  have lk : w1.heap.size + 1 < w2.heap.size := by omega
  have lu : w1.heap.size + 1 + 1 < w2.heap.size := by omega
  have lj : w1.heap.size + 1 + 1 + 1 < w2.heap.size := by omega
  go_wp2_with fail
  have hsz := hB.size
  refine (collect_any 90 _ (u + 1) (fun i => inR24 zs k u (0 + i)) _ (w1.heap.size + 1 + 1 + 1) (some (w1.heap.size + 1 + 1 + 1)) (by omega) (fun b e => by cases e; exact lj) (row1_hands (w1.heap.size + 1 + 1 + 1) (w1.heap.size + 1 + 1) w1.heap.size (w1.heap.size + 1) (w1.heap.size + 1 + 1 + 1) _ _ _ zs k u 0 _ _ g (HUN.out.imp id fun h x hx => by have := h x hx; omega) HOK.out hk hu (by decide) rfl lj (Nat.le_refl _) (by omega) (by omega) (by omega) qj0 (xj.f 0 (by decide)) qu0 qt0 qk0) (enters_of Try.func90 (by kernel_rfl) rfl) (by omega)).mono ?_
  rintro e wz ⟨⟨v, U, rfl, hR⟩, hb⟩
  go_wp2
  go_ret2
  exact ⟨v, _, U, rfl, hsz, hR, hB.trans (hb.mono (by omega))⟩

set_option maxRecDepth 100000 in
set_option maxHeartbeats 4000000 in
theorem Cloud_ok (a : Option Addr) (n c : Nat) (zs : List Int) (k u : Nat) (w : World) (g : IntsAt w a n c zs) (hok : okT zs (k : Int)) (hk1 : 1 ≤ k) (hk : k ≤ 20) (hu : u ≤ k) :
    Calls Try.prog 26 #[.slice a n c, .int .i64 (k : Int), .int .i64 (u : Int)] w (RetOk w (cloudR zs k u)) := by
  have h := refA_ok hok hk1 (by omega) hu
  have H := Lib.hid h
  have HOK := Lib.hid hok
  have hq : ∀ i, i < u + 1 - 2 → rlen (inR24 zs k u (2 + i)) ≤ 1000000 := fun i hi => Nat.le_trans (in_len hok hk hu (by omega)) (by decide)
  have hs : ∀ i, i ≤ u + 1 - 2 → rlen (sumQ 0 (fun i => inR24 zs k u (2 + i)) i) ≤ 1000000 := fun i hi => Nat.le_trans (cloud_len hok hk hu i hi) (by decide)
  have HQ := Lib.hid hq
  have HS := Lib.hid hs
  obtain ⟨R, hR⟩ : ∃ R, cloudR zs k u = R := ⟨_, rfl⟩
  rw [hR]
  have HR := Lib.hid (show sumQ 0 (fun i => inR24 zs k u (2 + i)) (u + 1 - 2) = R from hR)
  clear h hok hq hs hR
  go_enter Try.func26, Try.ntmps26
  have hB := Below.refl w.heap.size w
  go_wp2_with fail
  obtain ⟨w1, hW, hz0, hb, q, f⟩ := box1g w (w.heap.size) (by omega) #[.bool false, .slice none 0 0, .slice none 0 0] 36
  rw [hW]
  clear hW
  have g := g.past hb
  have hB := below_later hB hb
  clear hb
  have lr : w.heap.size < w1.heap.size := by omega
  have qr0 := q 0; have qr1 := q 1; have qr2 := q 2
  simp only [List.getElem?_toArray, List.getElem?_cons_zero, List.getElem?_cons_succ] at qr0 qr1 qr2
  have xr : BoxAt w1 (w.heap.size) 3 := BoxAt.of q f rfl (by simp [notU_bool, notU_slice, notU_i64])
  clear q f
  clear hz0
  with_reducible refine (refuses_any _ _ _ zs (k : Int) (u : Int) _ g).mono ?_
  rintro e w2 ⟨rfl, hb⟩
  have g := g.past hb
  have qr0 := bq hb lr qr0; have qr1 := bq hb lr qr1; have qr2 := bq hb lr qr2
  have xr := xr.past hb lr
  have lr := bl hb lr
  have hB := below_later hB hb
  clear hb
  rw [H.out]
  go_wp2_with fail
  have HUN := Lib.hid g.under
  have hs1 := hB.size
  go_wp2_with fail
  refine (row_any _ _ _ k u 2 _).mono ?_
  rintro e w3 ⟨rfl, hzR, qt0, qk0, qu0, qj0, xj, hb⟩
  have g := g.past hb
  have qr0 := bq hb lr qr0; have qr1 := bq hb lr qr1; have qr2 := bq hb lr qr2
  have xr := xr.past hb lr
  have lr := bl hb lr
  have hB := below_later hB hb
  clear hb
  have lt : w2.heap.size < w3.heap.size := by omega
  have lk : w2.heap.size + 1 < w3.heap.size := by omega
  have lu : w2.heap.size + 1 + 1 < w3.heap.size := by omega
  have lj : w2.heap.size + 1 + 1 + 1 < w3.heap.size := by omega
  go_wp2_with fail
  with_reducible refine (cpair_zero _).mono ?_
  rintro e w4 ⟨ahZU, nhZU, chZU, ahZD, nhZD, chZD, rfl, hZU, hZD, hb⟩
  have hZU := hZU.mono hB.size
  have hZD := hZD.mono hB.size
  have g := g.past hb
  have qr0 := bq hb lr qr0; have qr1 := bq hb lr qr1; have qr2 := bq hb lr qr2
  have xr := xr.past hb lr
  have lr := bl hb lr
  have qt0 := bq hb lt qt0
  have lt := bl hb lt
  have qk0 := bq hb lk qk0
  have lk := bl hb lk
  have qu0 := bq hb lu qu0
  have lu := bl hb lu
  have qj0 := bq hb lj qj0
  have xj := xj.past hb lj
  have lj := bl hb lj
  have hB := below_later hB hb
  clear hb
  go_wp2_with fail
  have hsz := hB.size
  have lr2 : w.heap.size < w2.heap.size + 1 + 1 + 1 := by omega
  refine (fold_any w.heap.size 90 _ (u + 1 - 2) 0 (fun i => inR24 zs k u (2 + i)) _ _ _ _ _ _ _ hZU hZD hB.size (w2.heap.size + 1 + 1 + 1) (some (w2.heap.size + 1 + 1 + 1)) (by omega) (fun b e => by cases e; exact lj) ((row1_hands (w2.heap.size + 1 + 1 + 1) (w2.heap.size + 1 + 1) w2.heap.size (w2.heap.size + 1) (w2.heap.size + 1 + 1 + 1) _ _ _ zs k u 2 _ _ g (HUN.out.imp id fun h x hx => by have := h x hx; omega) HOK.out hk hu (by decide) rfl lj (Nat.le_refl _) (by omega) (by omega) (by omega) qj0 (xj.f 0 (by decide)) qu0 qt0 qk0).weak fun _ _ _ _ _ h => h.ok) (enters_of Try.func90 (by kernel_rfl) rfl) HQ.out HS.out).mono ?_
  rintro e w5 ⟨ahAU, nhAU, chAU, ahAD, nhAD, chAD, rfl, hAU, hAD, hb⟩
  rw [HR.out] at hAU hAD ⊢
  have qr0 := (hb.cell (p := ⟨w.heap.size, 0, none⟩) lr2).trans qr0; have qr1 := (hb.cell (p := ⟨w.heap.size, 1, none⟩) lr2).trans qr1; have qr2 := (hb.cell (p := ⟨w.heap.size, 2, none⟩) lr2).trans qr2
  have xr := xr.low hb lr2
  have lr := Nat.lt_of_lt_of_le lr hb.size
  have hB := hB.trans (hb.mono (by omega))
  clear hb
  have zf0 := xr.f 0 (by decide)
  have zf1 := xr.f 1 (by decide)
  have zf2 := xr.f 2 (by decide)
  go_wp2
  obtain ⟨w6, hW, hO, qN0, qN1, qN2, xN⟩ := store3 xr (.bool (neg (R).num)) (.slice ahAU nhAU chAU) (.slice ahAD nhAD chAD) (nu rfl) (nu rfl) (nu rfl)
  try rw [hW]
  clear hW
  have hAU := hO.own hAU
  have hAD := hO.own hAD
  have lr : w.heap.size < w6.heap.size := by rw [hO.size]; exact lr
  have qr0 := qN0
  have qr1 := qN1
  have qr2 := qN2
  have xr := xN
  have hB := hO.below (by omega) hB
  clear hO qN0 qN1 qN2 xN zf0 zf1 zf2
  refine bodyPost_ret (v := .tuple #[.agg #[.bool (neg R.num), .slice ahAU nhAU chAU, .slice ahAD nhAD chAD], .int .i64 0]) ?_ rfl ⟨_, _, _, _, _, _, rfl, hAU, hAD, hB⟩
  simp [results, Try.f26, go_sem, qr0, qr1, qr2]

end Go.Proofs.Ytlkoenpdmlbhlaa
