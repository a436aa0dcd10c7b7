/- chance, first part: refuses, pair, plus, meets. -/
import Derived.Test.YtlkoenpdmlbhlaaSoli5
import Derived.Test.YtlkoenpdmlbhlaaBinom1
import Derived.Test.YtlkoenpdmlbhlaaComb2
set_option linter.unusedVariables false
set_option linter.unusedSimpArgs false
namespace Go.Proofs.Ytlkoenpdmlbhlaa
open Go.RowKit

/-- why nothing is told -/
def refA (zs : List Int) (k u : Int) : Int := if 1 ≤ k ∧ k ≤ 1024 ∧ 0 ≤ u ∧ u ≤ k then chkT zs k else 3

set_option maxRecDepth 100000 in
set_option maxHeartbeats 4000000 in
theorem refuses_no (a : Option Addr) (n c : Nat) (zs : List Int) (k u : Int) (w : World) (h : ¬ (1 ≤ k ∧ k ≤ 1024 ∧ 0 ≤ u ∧ u ≤ k)) :
    Calls Try.prog 56 #[.slice a n c, .int .i64 k, .int .i64 u] w (RetVal w (.int .i64 3)) := by
  have hc : ¬ 1 ≤ k ∨ (1 ≤ k ∧ ¬ k ≤ 1024) ∨ (1 ≤ k ∧ k ≤ 1024 ∧ ¬ 0 ≤ u) ∨ (1 ≤ k ∧ k ≤ 1024 ∧ 0 ≤ u ∧ ¬ u ≤ k) := by omega
  clear h
  rcases hc with h1 | ⟨h1, h2⟩ | ⟨h1, h2, h3⟩ | ⟨h1, h2, h3, h4⟩
  all_goals
    go_enter Try.func56, Try.ntmps56
    go_wp2
    go_ret
    exact ⟨rfl, Below.refl _ _⟩

set_option maxRecDepth 100000 in
set_option maxHeartbeats 4000000 in
theorem refuses_bad (a : Option Addr) (n c : Nat) (zs : List Int) (k u : Int) (w : World) (g : IntsAt w a n c zs) (h1 : 1 ≤ k) (h2 : k ≤ 1024) (h3 : 0 ≤ u) (h4 : u ≤ k) (h5 : ¬ okT zs k) :
    Calls Try.prog 56 #[.slice a n c, .int .i64 k, .int .i64 u] w (RetVal w (.int .i64 13)) := by
  have hc := chkT_no h5
  have HC := Lib.hid hc
  clear hc h5
  go_enter Try.func56, Try.ntmps56
  have hB := Below.refl w.heap.size w
  go_wp2_with fail
  with_reducible refine (soliCheck_any _ _ _ zs k _ g).mono ?_
  rintro e w1 ⟨rfl, hb⟩
  have g := g.past hb
  have hB := below_later hB hb
  clear hb
  rw [HC.out]
  go_wp2
  go_ret
  exact ⟨rfl, hB⟩

set_option maxRecDepth 100000 in
set_option maxHeartbeats 4000000 in
theorem refuses_ok (a : Option Addr) (n c : Nat) (zs : List Int) (k u : Int) (w : World) (g : IntsAt w a n c zs) (h1 : 1 ≤ k) (h2 : k ≤ 1024) (h3 : 0 ≤ u) (h4 : u ≤ k) (h5 : okT zs k) :
    Calls Try.prog 56 #[.slice a n c, .int .i64 k, .int .i64 u] w (RetVal w (.int .i64 0)) := by
  have hc := chkT_yes h5
  have HC := Lib.hid hc
  clear hc h5
  go_enter Try.func56, Try.ntmps56
  have hB := Below.refl w.heap.size w
  go_wp2_with fail
  with_reducible refine (soliCheck_any _ _ _ zs k _ g).mono ?_
  rintro e w1 ⟨rfl, hb⟩
  have g := g.past hb
  have hB := below_later hB hb
  clear hb
  rw [HC.out]
  go_wp2
  go_ret
  exact ⟨rfl, hB⟩

theorem refuses_any (a : Option Addr) (n c : Nat) (zs : List Int) (k u : Int) (w : World) (g : IntsAt w a n c zs) :
    Calls Try.prog 56 #[.slice a n c, .int .i64 k, .int .i64 u] w (RetVal w (.int .i64 (refA zs k u))) := by
  unfold refA
  by_cases h : 1 ≤ k ∧ k ≤ 1024 ∧ 0 ≤ u ∧ u ≤ k
  · rw [if_pos h]
    obtain ⟨h1, h2, h3, h4⟩ := h
    by_cases h5 : okT zs k
    · rw [chkT_yes h5]
      exact refuses_ok a n c zs k u w g h1 h2 h3 h4 h5
    · rw [chkT_no h5]
      exact refuses_bad a n c zs k u w g h1 h2 h3 h4 h5
  · rw [if_neg h]
    exact refuses_no a n c zs k u w h

set_option maxRecDepth 100000 in
set_option maxHeartbeats 4000000 in
theorem cpair_any (x : Int) (y : Nat) (w : World) (hx : -9223372036854775808 ≤ x ∧ x ≤ 9223372036854775807) (hy : 0 < y) (hy2 : y ≤ 9223372036854775807) :
    Calls Try.prog 58 #[.int .i64 x, .int .i64 (y : Int)] w (RetRat w (mkRat x y)) := by
  have hp := fun w => pair_ok (x := x) (y := (y : Int)) (q := mkRat x y) (by omega) (pr_pos hy) w hx (by omega)
  have HP := Lib.hid hp
  obtain ⟨Q, hQ⟩ : ∃ Q, mkRat x y = Q := ⟨_, rfl⟩
  rw [hQ] at HP ⊢
  clear hp hQ
  go_enter Try.func58, Try.ntmps58
  have hB := Below.refl w.heap.size w
  go_wp2_with fail
  obtain ⟨w1, hW, hz0, hb, q, f⟩ := box1g w (w.heap.size) (by omega) #[.bool false, .slice none 0 0, .slice none 0 0] 36
  rw [hW]
  clear hW
  have hB := below_later hB hb
  clear hb
  have lr : w.heap.size < w1.heap.size := by omega
  have qr0 := q 0; have qr1 := q 1; have qr2 := q 2
  simp only [List.getElem?_toArray, List.getElem?_cons_zero, List.getElem?_cons_succ] at qr0 qr1 qr2
  have xr : BoxAt w1 (w.heap.size) 3 := BoxAt.of q f rfl (by simp [notU_bool, notU_slice, notU_i64])
  clear q f
  clear hz0
  with_reducible refine (HP.out _).mono ?_
  rintro e w2 ⟨ahAU, nhAU, chAU, ahAD, nhAD, chAD, rfl, hAU, hAD, hb⟩
  have hAU := hAU.mono hB.size
  have hAD := hAD.mono hB.size
  have qr0 := bq hb lr qr0; have qr1 := bq hb lr qr1; have qr2 := bq hb lr qr2
  have xr := xr.past hb lr
  have lr := bl hb lr
  have hB := below_later hB hb
  clear hb
  have zf0 := xr.f 0 (by decide)
  have zf1 := xr.f 1 (by decide)
  have zf2 := xr.f 2 (by decide)
  go_wp2
  have zf0 := xr.f 0 (by decide)
  have zf1 := xr.f 1 (by decide)
  have zf2 := xr.f 2 (by decide)
  obtain ⟨w3, hW, hO, qN0, qN1, qN2, xN⟩ := store3 xr (.bool (neg (Q).num)) (.slice ahAU nhAU chAU) (.slice ahAD nhAD chAD) (nu rfl) (nu rfl) (nu rfl)
  try rw [hW]
  clear hW
  have hAU := hO.own hAU
  have hAD := hO.own hAD
  have lr : w.heap.size < w3.heap.size := by rw [hO.size]; exact lr
  have qr0 := qN0
  have qr1 := qN1
  have qr2 := qN2
  have xr := xN
  have hB := hO.below (by omega) hB
  clear hO qN0 qN1 qN2 xN zf0 zf1 zf2
  obtain ⟨w4, hW, hz0, hb, q, f⟩ := box1g w3 (w3.heap.size) (by omega) #[.bool (neg (Q).num), .slice ahAU nhAU chAU, .slice ahAD nhAD chAD] 36
  rw [hW]
  clear hW
  have hAU := hAU.past hb
  have hAD := hAD.past hb
  have qr0 := bq hb lr qr0; have qr1 := bq hb lr qr1; have qr2 := bq hb lr qr2
  have xr := xr.past hb lr
  have lr := bl hb lr
  have hB := below_later hB hb
  clear hb
  have lx : w3.heap.size < w4.heap.size := by omega
  have qx0 := q 0; have qx1 := q 1; have qx2 := q 2
  simp only [List.getElem?_toArray, List.getElem?_cons_zero, List.getElem?_cons_succ] at qx0 qx1 qx2
  clear q f
  clear hz0
  refine bodyPost_ret (v := .agg #[.bool (neg Q.num), .slice ahAU nhAU chAU, .slice ahAD nhAD chAD]) ?_ rfl ⟨_, _, _, _, _, _, rfl, hAU, hAD, hB⟩
  simp [results, Try.f58, go_sem, qr0, qr1, qr2]

set_option maxRecDepth 100000 in
set_option maxHeartbeats 4000000 in
theorem plus_any (p q : Rat) (a1 : Option Addr) (n1 c1 : Nat) (a2 : Option Addr) (n2 c2 : Nat) (a3 : Option Addr) (n3 c3 : Nat) (a4 : Option Addr) (n4 c4 : Nat) (w : World) (g1 : NatAt w a1 n1 c1 (digs p.num.natAbs)) (g2 : NatAt w a2 n2 c2 (digs p.den)) (g3 : NatAt w a3 n3 c3 (digs q.num.natAbs)) (g4 : NatAt w a4 n4 c4 (digs q.den)) (h1 : rlen p ≤ 1048576) (h2 : rlen q ≤ 1048576) :
    Calls Try.prog 62 #[.agg #[.bool (neg p.num), .slice a1 n1 c1, .slice a2 n2 c2], .agg #[.bool (neg q.num), .slice a3 n3 c3, .slice a4 n4 c4]] w (RetRat w (p + q)) := by
  obtain ⟨S, hS⟩ : ∃ S, p + q = S := ⟨_, rfl⟩
  rw [hS]
  have HS := Lib.hid hS
  clear hS
  go_enter Try.func62, Try.ntmps62
  have hB := Below.refl w.heap.size w
  go_wp2_with fail
  obtain ⟨w1, hW, hz0, hb, q, f⟩ := box1g w (w.heap.size) (by omega) #[.bool (neg p.num), .slice a1 n1 c1, .slice a2 n2 c2] 36
  rw [hW]
  clear hW
  have g1 := g1.past hb
  have g2 := g2.past hb
  have g3 := g3.past hb
  have g4 := g4.past hb
  have hB := below_later hB hb
  clear hb
  have la : w.heap.size < w1.heap.size := by omega
  have qa0 := q 0; have qa1 := q 1; have qa2 := q 2
  simp only [List.getElem?_toArray, List.getElem?_cons_zero, List.getElem?_cons_succ] at qa0 qa1 qa2
  clear q f
  obtain ⟨w2, hW, hz1, hb, q, f⟩ := box1g w1 (w.heap.size + 1) (by omega) #[.bool (neg q.num), .slice a3 n3 c3, .slice a4 n4 c4] 36
  rw [hW]
  clear hW
  have g1 := g1.past hb
  have g2 := g2.past hb
  have g3 := g3.past hb
  have g4 := g4.past hb
  have qa0 := bq hb la qa0; have qa1 := bq hb la qa1; have qa2 := bq hb la qa2
  have la := bl hb la
  have hB := below_later hB hb
  clear hb
  have lb : w.heap.size + 1 < w2.heap.size := by omega
  have qb0 := q 0; have qb1 := q 1; have qb2 := q 2
  simp only [List.getElem?_toArray, List.getElem?_cons_zero, List.getElem?_cons_succ] at qb0 qb1 qb2
  clear q f
  obtain ⟨w3, hW, hz2, hb, q, f⟩ := box1g w2 (w.heap.size + 1 + 1) (by omega) #[.bool false, .slice none 0 0, .slice none 0 0] 36
  rw [hW]
  clear hW
  have g1 := g1.past hb
  have g2 := g2.past hb
  have g3 := g3.past hb
  have g4 := g4.past hb
  have qa0 := bq hb la qa0; have qa1 := bq hb la qa1; have qa2 := bq hb la qa2
  have la := bl hb la
  have qb0 := bq hb lb qb0; have qb1 := bq hb lb qb1; have qb2 := bq hb lb qb2
  have lb := bl hb lb
  have hB := below_later hB hb
  clear hb
  have lr : w.heap.size + 1 + 1 < w3.heap.size := by omega
  have qr0 := q 0; have qr1 := q 1; have qr2 := q 2
  simp only [List.getElem?_toArray, List.getElem?_cons_zero, List.getElem?_cons_succ] at qr0 qr1 qr2
  have xr : BoxAt w3 (w.heap.size + 1 + 1) 3 := BoxAt.of q f rfl (by simp [notU_bool, notU_slice, notU_i64])
  clear q f
  obtain ⟨w4, hW, hz3, hb, q, f⟩ := box1g w3 (w.heap.size + 1 + 1 + 1) (by omega) #[.bool (neg p.num), .slice a1 n1 c1, .slice a2 n2 c2, .bool (neg q.num), .slice a3 n3 c3, .slice a4 n4 c4] 36
  rw [hW]
  clear hW
  have g1 := g1.past hb
  have g2 := g2.past hb
  have g3 := g3.past hb
  have g4 := g4.past hb
  have qa0 := bq hb la qa0; have qa1 := bq hb la qa1; have qa2 := bq hb la qa2
  have la := bl hb la
  have qb0 := bq hb lb qb0; have qb1 := bq hb lb qb1; have qb2 := bq hb lb qb2
  have lb := bl hb lb
  have qr0 := bq hb lr qr0; have qr1 := bq hb lr qr1; have qr2 := bq hb lr qr2
  have xr := xr.past hb lr
  have lr := bl hb lr
  have hB := below_later hB hb
  clear hb
  have ll : w.heap.size + 1 + 1 + 1 < w4.heap.size := by omega
  have ql0 := q 0; have ql1 := q 1; have ql2 := q 2; have ql3 := q 3; have ql4 := q 4; have ql5 := q 5
  simp only [List.getElem?_toArray, List.getElem?_cons_zero, List.getElem?_cons_succ] at ql0 ql1 ql2 ql3 ql4 ql5
  clear q f
  clear hz0
  clear hz1
  clear hz2
  clear hz3
  with_reducible refine (add_two (RatsAt.two ll ql0 ql1 ql2 ql3 ql4 ql5 g1 g2 g3 g4) h1 h2).mono ?_
  rintro e w5 ⟨ahAU, nhAU, chAU, ahAD, nhAD, chAD, rfl, hAU, hAD, hb⟩
  have hAU := hAU.mono hB.size
  have hAD := hAD.mono hB.size
  have g1 := g1.past hb
  have g2 := g2.past hb
  have g3 := g3.past hb
  have g4 := g4.past hb
  have qa0 := bq hb la qa0; have qa1 := bq hb la qa1; have qa2 := bq hb la qa2
  have la := bl hb la
  have qb0 := bq hb lb qb0; have qb1 := bq hb lb qb1; have qb2 := bq hb lb qb2
  have lb := bl hb lb
  have qr0 := bq hb lr qr0; have qr1 := bq hb lr qr1; have qr2 := bq hb lr qr2
  have xr := xr.past hb lr
  have lr := bl hb lr
  have ql0 := bq hb ll ql0; have ql1 := bq hb ll ql1; have ql2 := bq hb ll ql2; have ql3 := bq hb ll ql3; have ql4 := bq hb ll ql4; have ql5 := bq hb ll ql5
  have ll := bl hb ll
  have hB := below_later hB hb
  clear hb
  rw [HS.out] at hAU hAD ⊢
  have zf0 := xr.f 0 (by decide)
  have zf1 := xr.f 1 (by decide)
  have zf2 := xr.f 2 (by decide)
  go_wp2
  have zf0 := xr.f 0 (by decide)
  have zf1 := xr.f 1 (by decide)
  have zf2 := xr.f 2 (by decide)
  obtain ⟨w6, hW, hO, qN0, qN1, qN2, xN⟩ := store3 xr (.bool (neg (S).num)) (.slice ahAU nhAU chAU) (.slice ahAD nhAD chAD) (nu rfl) (nu rfl) (nu rfl)
  try rw [hW]
  clear hW
  have g1 := hO.nat g1
  have g2 := hO.nat g2
  have g3 := hO.nat g3
  have g4 := hO.nat g4
  have hAU := hO.own hAU
  have hAD := hO.own hAD
  have qa0 := (hO.cell (b2 := w.heap.size) (k := 0) (by omega)).trans qa0
  have qa1 := (hO.cell (b2 := w.heap.size) (k := 1) (by omega)).trans qa1
  have qa2 := (hO.cell (b2 := w.heap.size) (k := 2) (by omega)).trans qa2
  have la : w.heap.size < w6.heap.size := by rw [hO.size]; exact la
  have qb0 := (hO.cell (b2 := w.heap.size + 1) (k := 0) (by omega)).trans qb0
  have qb1 := (hO.cell (b2 := w.heap.size + 1) (k := 1) (by omega)).trans qb1
  have qb2 := (hO.cell (b2 := w.heap.size + 1) (k := 2) (by omega)).trans qb2
  have lb : w.heap.size + 1 < w6.heap.size := by rw [hO.size]; exact lb
  have lr : w.heap.size + 1 + 1 < w6.heap.size := by rw [hO.size]; exact lr
  have ql0 := (hO.cell (b2 := w.heap.size + 1 + 1 + 1) (k := 0) (by omega)).trans ql0
  have ql1 := (hO.cell (b2 := w.heap.size + 1 + 1 + 1) (k := 1) (by omega)).trans ql1
  have ql2 := (hO.cell (b2 := w.heap.size + 1 + 1 + 1) (k := 2) (by omega)).trans ql2
  have ql3 := (hO.cell (b2 := w.heap.size + 1 + 1 + 1) (k := 3) (by omega)).trans ql3
  have ql4 := (hO.cell (b2 := w.heap.size + 1 + 1 + 1) (k := 4) (by omega)).trans ql4
  have ql5 := (hO.cell (b2 := w.heap.size + 1 + 1 + 1) (k := 5) (by omega)).trans ql5
  have ll : w.heap.size + 1 + 1 + 1 < w6.heap.size := by rw [hO.size]; exact ll
  have qr0 := qN0
  have qr1 := qN1
  have qr2 := qN2
  have xr := xN
  have hB := hO.below (by omega) hB
  clear hO qN0 qN1 qN2 xN zf0 zf1 zf2
  obtain ⟨w7, hW, hz0, hb, q, f⟩ := box1g w6 (w6.heap.size) (by omega) #[.bool (neg (S).num), .slice ahAU nhAU chAU, .slice ahAD nhAD chAD] 36
  rw [hW]
  clear hW
  have g1 := g1.past hb
  have g2 := g2.past hb
  have g3 := g3.past hb
  have g4 := g4.past hb
  have hAU := hAU.past hb
  have hAD := hAD.past hb
  have qa0 := bq hb la qa0; have qa1 := bq hb la qa1; have qa2 := bq hb la qa2
  have la := bl hb la
  have qb0 := bq hb lb qb0; have qb1 := bq hb lb qb1; have qb2 := bq hb lb qb2
  have lb := bl hb lb
  have qr0 := bq hb lr qr0; have qr1 := bq hb lr qr1; have qr2 := bq hb lr qr2
  have xr := xr.past hb lr
  have lr := bl hb lr
  have ql0 := bq hb ll ql0; have ql1 := bq hb ll ql1; have ql2 := bq hb ll ql2; have ql3 := bq hb ll ql3; have ql4 := bq hb ll ql4; have ql5 := bq hb ll ql5
  have ll := bl hb ll
  have hB := below_later hB hb
  clear hb
  have lx : w6.heap.size < w7.heap.size := by omega
  have qx0 := q 0; have qx1 := q 1; have qx2 := q 2
  simp only [List.getElem?_toArray, List.getElem?_cons_zero, List.getElem?_cons_succ] at qx0 qx1 qx2
  clear q f
  clear hz0
  refine bodyPost_ret (v := .agg #[.bool (neg S.num), .slice ahAU nhAU chAU, .slice ahAD nhAD chAD]) ?_ rfl ⟨_, _, _, _, _, _, rfl, hAU, hAD, hB⟩
  simp [results, Try.f62, go_sem, qr0, qr1, qr2]

/-- chosen, or none -/
def chz (n : Nat) (k : Int) : Nat := if 0 ≤ k ∧ k ≤ (n : Int) then ch n k.toNat else 0
/-- the chance that a set of d of k symbols has just j in u of these -/
def meetsR (k u j d : Nat) : Rat := mkRat ((ch u j * chz (k - u) ((d : Int) - (j : Int)) : Nat) : Int) (ch k d)
theorem chooseI (n : Nat) (y0 x y : Int) (w : World) (hx : x = (n : Int)) (hy : y = y0) (hn : n ≤ 65536) : Calls Try.prog 63 #[.int .i64 x, .int .i64 y] w (RetNE w (chz n y0) 0) := by
  subst hx
  subst hy
  unfold chz
  by_cases h : 0 ≤ y ∧ y ≤ (n : Int)
  · rw [if_pos h]
    obtain ⟨k, rfl⟩ : ∃ k : Nat, y = k := ⟨y.toNat, by omega⟩
    exact choose_in n k w hn (by omega)
  · rw [if_neg h]
    refine (choose_out n y w hn (by omega)).mono ?_
    rintro e w' ⟨rfl, hb⟩
    exact ⟨none, 0, 0, rfl, OwnAt.nil _ _, hb⟩
theorem chz_len {n : Nat} (hn : n ≤ 65536) (k : Int) : (digs (chz n k)).length ≤ 65537 := by
  unfold chz
  split
  · have := ch_len (n := n) (by omega) k.toNat
    omega
  · exact Nat.zero_le _
theorem smake_nat {N : Nat} {a : Option Addr} {n c : Nat} {w : World} (g : NatAt w a n c (digs N)) (hs : n ≤ 1099511627776) : Calls Try.prog 64 #[.bool false, .slice a n c] w (RetInt w (N : Int)) := by
  have h := make_any false a n c (digs N) w g hs
  rw [val_digs] at h
  exact h

set_option maxRecDepth 100000 in
set_option maxHeartbeats 8000000 in
theorem meets_any (k u j d : Nat) (w : World) (hk : k ≤ 1024) (hu : u ≤ k) (hj : j ≤ u) (hd : d ≤ k) :
    Calls Try.prog 88 #[.int .i64 (k : Int), .int .i64 (u : Int), .int .i64 (j : Int), .int .i64 (d : Int)] w (RetRat w (meetsR k u j d)) := by
  unfold meetsR
  have l1 := ch_len (n := u) (by omega) j
  have l2 := chz_len (n := k - u) (by omega) ((d : Int) - (j : Int))
  have l3 := ch_len (n := k) (by omega) d
  have hp : ch k d ≠ 0 := Nat.pos_iff_ne_zero.1 (ch_pos hd)
  obtain ⟨A, hA⟩ : ∃ A, ch u j = A := ⟨_, rfl⟩
  obtain ⟨B, hB0⟩ : ∃ B, chz (k - u) ((d : Int) - (j : Int)) = B := ⟨_, rfl⟩
  obtain ⟨T, hT⟩ : ∃ T, ch k d = T := ⟨_, rfl⟩
  rw [hA] at l1 ⊢
  rw [hB0] at l2 ⊢
  rw [hT] at l3 hp ⊢
  have l4 : (digs (A * B)).length ≤ 1025 + 65537 := Nat.le_trans (digs_len_prod A B) (by omega)
  obtain ⟨N, hN⟩ : ∃ N, A * B = N := ⟨_, rfl⟩
  rw [hN] at l4 ⊢
  obtain ⟨Q, hQ⟩ : ∃ Q, mkRat (N : Int) T = Q := ⟨_, rfl⟩
  rw [hQ]
  have hmk : makeR (neg (N : Int)) (digs (N : Int).natAbs) (digs T) = .ok Q := by
    unfold makeR
    rw [if_neg (by rw [chkZ_canon]; simp), if_neg (by rw [val_digs]; exact hp), sg_canon, val_digs, hQ]
  have HA := Lib.hid hA
  have HB := Lib.hid hB0
  have HT := Lib.hid hT
  have HN := Lib.hid hN
  have HMK := Lib.hid hmk
  have L1 := Lib.hid (show (digs A).length ≤ 1025 by omega)
  have L2 := Lib.hid l2
  have L3 := Lib.hid (show (digs T).length ≤ 1025 by omega)
  have L4 := Lib.hid (show (digs (N : Int).natAbs).length ≤ 66562 by rw [Int.natAbs_natCast]; exact l4)
  clear hA hB0 hT hN hmk l1 l2 l3 l4 hp hQ
  go_enter Try.func88, Try.ntmps88
  have hB := Below.refl w.heap.size w
  go_wp2_with fail
  obtain ⟨w1, hW, hz0, hb, q, f⟩ := box1g w (w.heap.size) (by omega) #[.bool false, .slice none 0 0, .slice none 0 0] 36
  rw [hW]
  clear hW
  have hB := below_later hB hb
  clear hb
  have lr : w.heap.size < w1.heap.size := by omega
  have qr0 := q 0; have qr1 := q 1; have qr2 := q 2
  simp only [List.getElem?_toArray, List.getElem?_cons_zero, List.getElem?_cons_succ] at qr0 qr1 qr2
  have xr : BoxAt w1 (w.heap.size) 3 := BoxAt.of q f rfl (by simp [notU_bool, notU_slice, notU_i64])
  clear q f
  clear hz0
  with_reducible refine (choose_in u j _ (by omega) hj).mono ?_
  rintro e w2 ⟨ahA, nhA, chA, rfl, hA, hb⟩
  have hA := hA.mono hB.size
  have qr0 := bq hb lr qr0; have qr1 := bq hb lr qr1; have qr2 := bq hb lr qr2
  have xr := xr.past hb lr
  have lr := bl hb lr
  have hB := below_later hB hb
  clear hb
  rw [HA.out] at hA
  go_wp2_with fail
  with_reducible refine (chooseI (k - u) ((d : Int) - (j : Int)) _ _ _ (by first | omega | (unfold wrap64; omega)) (by first | omega | (unfold wrap64; omega)) (by omega)).mono ?_
  rintro e w3 ⟨ahC, nhC, chC, rfl, hC, hb⟩
  have hC := hC.mono hB.size
  have hA := hA.past hb
  have qr0 := bq hb lr qr0; have qr1 := bq hb lr qr1; have qr2 := bq hb lr qr2
  have xr := xr.past hb lr
  have lr := bl hb lr
  have hB := below_later hB hb
  clear hb
  rw [HB.out] at hC
  go_wp2_with fail
  with_reducible refine (choose_in k d _ (by omega) hd).mono ?_
  rintro e w4 ⟨ahT, nhT, chT, rfl, hT, hb⟩
  have hT := hT.mono hB.size
  have hA := hA.past hb
  have hC := hC.past hb
  have qr0 := bq hb lr qr0; have qr1 := bq hb lr qr1; have qr2 := bq hb lr qr2
  have xr := xr.past hb lr
  have lr := bl hb lr
  have hB := below_later hB hb
  clear hb
  rw [HT.out] at hT
  go_wp2_with fail
  with_reducible refine (tmul_any _ _ _ (digs A) _ _ _ (digs B) _ hA.toNatAt hC.toNatAt (by have := hA.len; have := L1.out; omega) (by have := hC.len; have := L2.out; omega)).mono ?_
  rintro e w5 ⟨aM, nM, cM, rfl, hM, hb⟩
  have hM := hM.mono hB.size
  have hA := hA.past hb
  have hC := hC.past hb
  have hT := hT.past hb
  have qr0 := bq hb lr qr0; have qr1 := bq hb lr qr1; have qr2 := bq hb lr qr2
  have xr := xr.past hb lr
  have lr := bl hb lr
  have hB := below_later hB hb
  clear hb
  rw [val_digs, val_digs, HN.out] at hM
  go_wp2_with fail
  with_reducible refine (smake_nat hM.toNatAt (by have := hM.len; have := L4.out; rw [Int.natAbs_natCast] at this; omega)).mono ?_
  rintro e w6 ⟨aI, nI, cI, rfl, hI, hb⟩
  have hI := hI.mono hB.size
  have hT := hT.past hb
  have hM := hM.past hb
  have qr0 := bq hb lr qr0; have qr1 := bq hb lr qr1; have qr2 := bq hb lr qr2
  have xr := xr.past hb lr
  have lr := bl hb lr
  have hB := below_later hB hb
  clear hb
  go_wp2_with fail
  with_reducible refine (make_okR hI.toNatAt hT.toNatAt HMK.out (by have := hI.len; have := L4.out; omega) (by have := hT.len; have := L3.out; omega)).mono ?_
  rintro e w7 ⟨ahRU, nhRU, chRU, ahRD, nhRD, chRD, rfl, hRU, hRD, hb⟩
  have hRU := hRU.mono hB.size
  have hRD := hRD.mono hB.size
  have hT := hT.past hb
  have hI := hI.past hb
  have qr0 := bq hb lr qr0; have qr1 := bq hb lr qr1; have qr2 := bq hb lr qr2
  have xr := xr.past hb lr
  have lr := bl hb lr
  have hB := below_later hB hb
  clear hb
  have zf0 := xr.f 0 (by decide)
  have zf1 := xr.f 1 (by decide)
  have zf2 := xr.f 2 (by decide)
  go_wp2
  have zf0 := xr.f 0 (by decide)
  have zf1 := xr.f 1 (by decide)
  have zf2 := xr.f 2 (by decide)
  obtain ⟨w8, hW, hO, qN0, qN1, qN2, xN⟩ := store3 xr (.bool (neg (Q).num)) (.slice ahRU nhRU chRU) (.slice ahRD nhRD chRD) (nu rfl) (nu rfl) (nu rfl)
  try rw [hW]
  clear hW
  have hRU := hO.own hRU
  have hRD := hO.own hRD
  have lr : w.heap.size < w8.heap.size := by rw [hO.size]; exact lr
  have qr0 := qN0
  have qr1 := qN1
  have qr2 := qN2
  have xr := xN
  have hB := hO.below (by omega) hB
  clear hO qN0 qN1 qN2 xN zf0 zf1 zf2
  obtain ⟨w9, hW, hz0, hb, q, f⟩ := box1g w8 (w8.heap.size) (by omega) #[.bool (neg (Q).num), .slice ahRU nhRU chRU, .slice ahRD nhRD chRD] 36
  rw [hW]
  clear hW
  have hRU := hRU.past hb
  have hRD := hRD.past hb
  have qr0 := bq hb lr qr0; have qr1 := bq hb lr qr1; have qr2 := bq hb lr qr2
  have xr := xr.past hb lr
  have lr := bl hb lr
  have hB := below_later hB hb
  clear hb
  have lx : w8.heap.size < w9.heap.size := by omega
  have qx0 := q 0; have qx1 := q 1; have qx2 := q 2
  simp only [List.getElem?_toArray, List.getElem?_cons_zero, List.getElem?_cons_succ] at qx0 qx1 qx2
  clear q f
  clear hz0
  refine bodyPost_ret (v := .agg #[.bool (neg Q.num), .slice ahRU nhRU chRU, .slice ahRD nhRD chRD]) ?_ rfl ⟨_, _, _, _, _, _, rfl, hRU, hRD, hB⟩
  simp [results, Try.f88, go_sem, qr0, qr1, qr2]

end Go.Proofs.Ytlkoenpdmlbhlaa
