/- the laws of ratio: RatioRounds. -/
import Derived.Test.YtmhjhhcdjecdbaaLaw05e
import Derived.Test.YtmhjhhcdjecdbaaKit6
import Derived.Test.YtmhjhhcdjecdbaaRat5
import Derived.Test.YtmhjhhcdjecdbaaRatio11
import Derived.Test.YtmhjhhcdjecdbaaRatio12
import Derived.Test.YtmhjhhcdjecdbaaA7
import Derived.Test.YtmhjhhcdjecdbaaTake
import Derived.Deep.RegionWith
set_option linter.unusedVariables false
set_option linter.unusedSimpArgs false
namespace Go.Proofs.Ytmhjhhcdjecdbaa
open Go.RowKit

def RetWh2 (w : World) (z : Int) (e : Ending) (w' : World) : Prop :=
  ∃ a n c, e = .returned (.tuple #[.agg #[.bool (neg z), .slice a n c], .int .i64 0]) ∧ OwnAt w' w.heap.size a n c (digs z.natAbs) ∧ Below w.heap.size w w'
theorem round_rat2 {q : Rat} {a1 : Option Addr} {n1 c1 : Nat} {a2 : Option Addr} {n2 c2 : Nat} {w : World} (g1 : NatAt w a1 n1 c1 (digs q.num.natAbs)) (g2 : NatAt w a2 n2 c2 (digs q.den)) (hs : rlen q ≤ 1048576) :
    Calls Try.prog 27 #[.agg #[.bool (neg q.num), .slice a1 n1 c1, .slice a2 n2 c2]] w (RetWh2 w (rndR q)) := by
  unfold rlen at hs
  exact round05_rat q _ _ _ _ _ _ w g1 g2 (by have := g1.len; omega) (by have := g2.len; omega)
theorem pow_rat2 {q : Rat} {n : Int} {a1 : Option Addr} {n1 c1 : Nat} {a2 : Option Addr} {n2 c2 : Nat} {w : World} (g1 : NatAt w a1 n1 c1 (digs q.num.natAbs)) (g2 : NatAt w a2 n2 c2 (digs q.den)) (hs : rlen q ≤ 1048576) (hn : -10000 ≤ n) (hn2 : n ≤ 10000) (hq : 0 ≤ n ∨ q ≠ 0) :
    Calls Try.prog 32 #[.agg #[.bool (neg q.num), .slice a1 n1 c1, .slice a2 n2 c2], .int .i64 n] w (RetOk w (q ^ n)) := pow05_rat q _ _ _ _ _ _ n w g1 g2 hs hn hn2 hq
theorem make_int {z : Int} {X : Rat} {a : Option Addr} {n c : Nat} {a2 : Option Addr} {n2 c2 : Nat} {w : World} (hX : (z : Rat) = X) (g1 : NatAt w a n c (digs z.natAbs)) (g2 : NatAt w a2 n2 c2 [1]) (hs : n ≤ 68719476736) (hs2 : n2 ≤ 68719476736) :
    Calls Try.prog 12 #[.agg #[.bool (neg z), .slice a n c], .slice a2 n2 c2] w (RetOk w X) := by
  have hq : mkRat ((z : Rat)).num 1 = X := by
    rw [← hX]
    have := Rat.mkRat_self (z : Rat)
    rwa [Rat.den_intCast] at this
  exact make_ok (p := (z : Rat)) (d := 1) g1 g2 (by decide) hq hs hs2
theorem cmp_abs {p q : Rat} {a1 : Option Addr} {n1 c1 : Nat} {a2 : Option Addr} {n2 c2 : Nat} {a3 : Option Addr} {n3 c3 : Nat} {a4 : Option Addr} {n4 c4 : Nat} {w : World} (hb : neg p.num = false) (g1 : NatAt w a1 n1 c1 (digs p.num.natAbs)) (g2 : NatAt w a2 n2 c2 (digs p.den)) (g3 : NatAt w a3 n3 c3 (digs q.num.natAbs)) (g4 : NatAt w a4 n4 c4 (digs q.den)) (hp : rlen p ≤ 1048576) (hq : rlen q ≤ 1048576) :
    Calls Try.prog 21 #[.agg #[.bool false, .slice a1 n1 c1, .slice a2 n2 c2], .agg #[.bool (neg q.num), .slice a3 n3 c3, .slice a4 n4 c4]] w (RetVal w (.tuple #[.int .i64 (p - q).num.sign, .int .i64 0])) := by
  have := cmp_rat g1 g2 g3 g4 hp hq
  rwa [hb] at this
theorem of_half (w : World) : Calls Try.prog 28 #[.int .i64 1, .int .u64 2] w (RetRat w (fr 1 2)) := of05_fr 1 2 (by decide) (by decide) w (by decide) (by decide) (by decide)
theorem part32 {w : World} {b : Nat} (x : BoxAt w b 3) (v0 v1 : Value) (h0 : notU v0) (h1 : notU v1) {u : Value} (hu : w.cell? ⟨b, 2, none⟩ = some u) :
    ∃ w', (w.setCell ⟨b, 0, none⟩ v0).setCell ⟨b, 1, none⟩ v1 = w' ∧ Off b w w' ∧ w'.cell? ⟨b, 0, none⟩ = some v0 ∧ w'.cell? ⟨b, 1, none⟩ = some v1 ∧ w'.cell? ⟨b, 2, none⟩ = some u ∧ BoxAt w' b 3 := by
  obtain ⟨u0, c0, n0⟩ := x.c 0 (by decide)
  have x1 := x.set ⟨b, 0, none⟩ v0 h0
  obtain ⟨u1, c1, n1⟩ := x1.c 1 (by decide)
  refine ⟨_, rfl, (Off.set c0 n0 h0).trans (Off.set c1 n1 h1), ?_, World.cell?_setCell_same _ _ _ c1, ?_, x1.set _ _ h1⟩
  · rw [World.cell?_setCell_other _ _ _ _ (fun e => by cases e)]
    exact World.cell?_setCell_same _ _ _ c0
  · rw [World.cell?_setCell_other _ _ _ _ (fun e => by cases e), World.cell?_setCell_other _ _ _ _ (fun e => by cases e)]
    exact hu
theorem rlen_abs (d : Rat) : rlen (absR d) = rlen d := by unfold rlen; rw [absR_abs, absR_den]
theorem rnd_len {q : Rat} {k : Nat} (h : rlen q ≤ k) : (digs (rndR q).natAbs).length ≤ k + 2 := by
  rw [natAbs_rnd]
  have h1 : rndN q.num.natAbs q.den ≤ q.num.natAbs + 1 := by
    have := Nat.div_le_self q.num.natAbs q.den
    unfold rndN
    split <;> omega
  have h2 := digs_len_mono h1
  have h3 := digs_len_add q.num.natAbs 1
  have h4 : (digs 1).length = 1 := rfl
  have h5 : (digs q.num.natAbs).length ≤ k := rlen_up h
  omega
theorem int_len {z : Int} {X : Rat} {k : Nat} (hX : (z : Rat) = X) (h : (digs z.natAbs).length ≤ k) (hk : 1 ≤ k) : rlen X ≤ k := by
  rw [← hX]
  exact Nat.max_le.2 ⟨h, hk⟩
theorem zpow_short {q : Rat} {n : Int} (h : rlen q ≤ 5) (h1 : -12 ≤ n) (h2 : n ≤ 12) : rlen (q ^ n) ≤ 1048576 := by
  by_cases h0 : 0 ≤ n
  · obtain ⟨N, rfl⟩ := Int.eq_ofNat_of_zero_le h0
    rw [Rat.zpow_natCast]
    have h3 := rlen_pow q N
    have h4 : N * rlen q ≤ 12 * 5 := Nat.mul_le_mul (by omega) h
    omega
  · obtain ⟨N, rfl⟩ : ∃ N : Nat, n = -(N : Int) := ⟨n.natAbs, by omega⟩
    rw [Rat.zpow_neg, Rat.zpow_natCast]
    have h3 := rlen_pow q N
    have h4 : N * rlen q ≤ 12 * 5 := Nat.mul_le_mul (by omega) h
    by_cases hz : q ^ N = 0
    · rw [hz, Rat.inv_zero]; decide
    · rw [rlen_inv hz]; omega
theorem pick_in (x : Int) : 0 ≤ pickI x 13 ∧ pickI x 13 ≤ 12 := by
  unfold pickI
  rw [if_neg (by decide)]
  omega

set_option maxRecDepth 100000 in
set_option maxHeartbeats 8000000 in
theorem ratioRounds_long {b1 : Bool} {l1 l2 : List Nat} {a1 : Option Addr} {n1 c1 : Nat} {a2 : Option Addr} {n2 c2 : Nat} (m n : Int) {w : World} (g1 : NatAt w a1 n1 c1 l1) (g2 : NatAt w a2 n2 c2 l2) (hl : longP (b1, l1, l2) = true) :
    Calls Try.prog 5 #[.agg #[.bool b1, .slice a1 n1 c1, .slice a2 n2 c2], .int .i64 m, .int .i64 n] w (RetVal w (.bool true)) := by
  rw [← longB1] at hl
  have LB := Lib.hid hl
  clear hl
  go_enter Try.func5, Try.ntmps5
  have hB := Below.refl w.heap.size w
  go_wp2_with fail
  obtain ⟨w1, hW, hz0, hb, q, f⟩ := box1g w (w.heap.size) (by omega) #[.bool b1, .slice a1 n1 c1, .slice a2 n2 c2] 31
  rw [hW]
  clear hW
  have g1 := g1.past hb
  have g2 := g2.past hb
  have hB := below_later hB hb
  clear hb
  have lx : w.heap.size < w1.heap.size := by omega
  have qx0 := q 0; have qx1 := q 1; have qx2 := q 2
  simp only [List.getElem?_toArray, List.getElem?_cons_zero, List.getElem?_cons_succ] at qx0 qx1 qx2
  clear q f
  clear hz0
  with_reducible refine (awake05 _).mono ?_
  rintro e w2 ⟨rfl, hb⟩
  have g1 := g1.past hb
  have g2 := g2.past hb
  have qx0 := bq hb lx qx0; have qx1 := bq hb lx qx1; have qx2 := bq hb lx qx2
  have lx := bl hb lx
  have hB := below_later hB hb
  clear hb
  go_wp2_with fail
  obtain ⟨w3, hW, hz0, hb, q, f⟩ := box1g w2 (w2.heap.size) (by omega) #[.bool b1, .slice a1 n1 c1, .slice a2 n2 c2] 31
  rw [hW]
  clear hW
  have g1 := g1.past hb
  have g2 := g2.past hb
  have qx0 := bq hb lx qx0; have qx1 := bq hb lx qx1; have qx2 := bq hb lx qx2
  have lx := bl hb lx
  have hB := below_later hB hb
  clear hb
  have ls : w2.heap.size < w3.heap.size := by omega
  have qs0 := q 0; have qs1 := q 1; have qs2 := q 2
  simp only [List.getElem?_toArray, List.getElem?_cons_zero, List.getElem?_cons_succ] at qs0 qs1 qs2
  clear q f
  clear hz0
  with_reducible refine (long05_any _ _ _ _ _ (RatsAt.raw1 (x := (b1, l1, l2)) ls qs0 qs1 qs2 g1 g2)).mono ?_
  rintro e w4 ⟨rfl, hb⟩
  have g1 := g1.past hb
  have g2 := g2.past hb
  have qx0 := bq hb lx qx0; have qx1 := bq hb lx qx1; have qx2 := bq hb lx qx2
  have lx := bl hb lx
  have qs0 := bq hb ls qs0; have qs1 := bq hb ls qs1; have qs2 := bq hb ls qs2
  have ls := bl hb ls
  have hB := below_later hB hb
  clear hb
  rw [LB.out]
  go_wp2
  go_ret
  exact ⟨rfl, hB⟩

set_option maxRecDepth 100000 in
set_option maxHeartbeats 8000000 in
theorem ratioRounds_bad {b1 : Bool} {l1 l2 : List Nat} {a1 : Option Addr} {n1 c1 : Nat} {a2 : Option Addr} {n2 c2 : Nat} (m n : Int) {w : World} (g1 : NatAt w a1 n1 c1 l1) (g2 : NatAt w a2 n2 c2 l2) (hs : l1.length ≤ 5 ∧ l2.length ≤ 5) (hl : longP (b1, l1, l2) = false) (hb : chk3 (b1, l1, l2) ≠ 0) :
    Calls Try.prog 5 #[.agg #[.bool b1, .slice a1 n1 c1, .slice a2 n2 c2], .int .i64 m, .int .i64 n] w (RetVal w (.bool true)) := by
  rw [← longB1] at hl
  have hb : allR (rawF [(b1, l1, l2)]) 1 = false := by rw [allR1]; exact decide_eq_false hb
  have gk : ∀ i, i < 1 → ((rawF [(b1, l1, l2)]) i).2.1.length ≤ 68719476736 ∧ ((rawF [(b1, l1, l2)]) i).2.2.length ≤ 68719476736 := fun i hi => by
    match i, hi with
    | 0, _ => exact ⟨Nat.le_trans hs.1 (by decide), Nat.le_trans hs.2 (by decide)⟩
  have GK := Lib.hid gk
  have LB := Lib.hid hl
  have GB := Lib.hid hb
  clear hl hb gk
  go_enter Try.func5, Try.ntmps5
  have hB := Below.refl w.heap.size w
  go_wp2_with fail
  obtain ⟨w1, hW, hz0, hb, q, f⟩ := box1g w (w.heap.size) (by omega) #[.bool b1, .slice a1 n1 c1, .slice a2 n2 c2] 31
  rw [hW]
  clear hW
  have g1 := g1.past hb
  have g2 := g2.past hb
  have hB := below_later hB hb
  clear hb
  have lx : w.heap.size < w1.heap.size := by omega
  have qx0 := q 0; have qx1 := q 1; have qx2 := q 2
  simp only [List.getElem?_toArray, List.getElem?_cons_zero, List.getElem?_cons_succ] at qx0 qx1 qx2
  clear q f
  clear hz0
  with_reducible refine (awake05 _).mono ?_
  rintro e w2 ⟨rfl, hb⟩
  have g1 := g1.past hb
  have g2 := g2.past hb
  have qx0 := bq hb lx qx0; have qx1 := bq hb lx qx1; have qx2 := bq hb lx qx2
  have lx := bl hb lx
  have hB := below_later hB hb
  clear hb
  go_wp2_with fail
  obtain ⟨w3, hW, hz0, hb, q, f⟩ := box1g w2 (w2.heap.size) (by omega) #[.bool b1, .slice a1 n1 c1, .slice a2 n2 c2] 31
  rw [hW]
  clear hW
  have g1 := g1.past hb
  have g2 := g2.past hb
  have qx0 := bq hb lx qx0; have qx1 := bq hb lx qx1; have qx2 := bq hb lx qx2
  have lx := bl hb lx
  have hB := below_later hB hb
  clear hb
  have ls : w2.heap.size < w3.heap.size := by omega
  have qs0 := q 0; have qs1 := q 1; have qs2 := q 2
  simp only [List.getElem?_toArray, List.getElem?_cons_zero, List.getElem?_cons_succ] at qs0 qs1 qs2
  clear q f
  clear hz0
  with_reducible refine (long05_any _ _ _ _ _ (RatsAt.raw1 (x := (b1, l1, l2)) ls qs0 qs1 qs2 g1 g2)).mono ?_
  rintro e w4 ⟨rfl, hb⟩
  have g1 := g1.past hb
  have g2 := g2.past hb
  have qx0 := bq hb lx qx0; have qx1 := bq hb lx qx1; have qx2 := bq hb lx qx2
  have lx := bl hb lx
  have qs0 := bq hb ls qs0; have qs1 := bq hb ls qs1; have qs2 := bq hb ls qs2
  have ls := bl hb ls
  have hB := below_later hB hb
  clear hb
  rw [LB.out]
  go_wp2_with fail
  obtain ⟨w5, hW, hz0, hb, q, f⟩ := box1g w4 (w4.heap.size) (by omega) #[.bool b1, .slice a1 n1 c1, .slice a2 n2 c2] 31
  rw [hW]
  clear hW
  have g1 := g1.past hb
  have g2 := g2.past hb
  have qx0 := bq hb lx qx0; have qx1 := bq hb lx qx1; have qx2 := bq hb lx qx2
  have lx := bl hb lx
  have hB := below_later hB hb
  clear hb
  have ls : w4.heap.size < w5.heap.size := by omega
  have qs0 := q 0; have qs1 := q 1; have qs2 := q 2
  simp only [List.getElem?_toArray, List.getElem?_cons_zero, List.getElem?_cons_succ] at qs0 qs1 qs2
  clear q f
  clear hz0
  with_reducible refine (good05_any _ _ _ _ _ (RatsAt.raw1 (x := (b1, l1, l2)) ls qs0 qs1 qs2 g1 g2) GK.out).mono ?_
  rintro e w6 ⟨rfl, hb⟩
  have g1 := g1.past hb
  have g2 := g2.past hb
  have qx0 := bq hb lx qx0; have qx1 := bq hb lx qx1; have qx2 := bq hb lx qx2
  have lx := bl hb lx
  have qs0 := bq hb ls qs0; have qs1 := bq hb ls qs1; have qs2 := bq hb ls qs2
  have ls := bl hb ls
  have hB := below_later hB hb
  clear hb
  rw [GB.out]
  go_wp2
  go_ret
  exact ⟨rfl, hB⟩

set_option maxRecDepth 100000 in
set_option maxHeartbeats 16000000 in
theorem ratioRounds_lt {q : Rat} {a1 : Option Addr} {n1 c1 : Nat} {a2 : Option Addr} {n2 c2 : Nat} (m n : Int) {w : World} (g1 : NatAt w a1 n1 c1 (digs q.num.natAbs)) (g2 : NatAt w a2 n2 c2 (digs q.den)) (hs : (digs q.num.natAbs).length ≤ 5 ∧ (digs q.den).length ≤ 5) (hm : -9223372036854775808 ≤ m ∧ m ≤ 9223372036854775807) (hn : -9223372036854775808 ≤ n ∧ n ≤ 9223372036854775807) (hl : longP ((neg q.num), (digs q.num.natAbs), (digs q.den)) = false) (hc : (absR (q - (rndR q : Rat)) - fr 1 2).num.sign = -1) :
    Calls Try.prog 5 #[.agg #[.bool (neg q.num), .slice a1 n1 c1, .slice a2 n2 c2], .int .i64 m, .int .i64 n] w (RetVal w (.bool true)) := by
  rw [← longB1] at hl
  have hb : allR (rawF [((neg q.num), (digs q.num.natAbs), (digs q.den))]) 1 = true := by rw [allR1]; exact decide_eq_true (chk3_parts q)
  have gk : ∀ i, i < 1 → ((rawF [((neg q.num), (digs q.num.natAbs), (digs q.den))]) i).2.1.length ≤ 68719476736 ∧ ((rawF [((neg q.num), (digs q.num.natAbs), (digs q.den))]) i).2.2.length ≤ 68719476736 := fun i hi => by
    match i, hi with
    | 0, _ => exact ⟨Nat.le_trans hs.1 (by decide), Nat.le_trans hs.2 (by decide)⟩
  have lq : rlen q ≤ 5 := Nat.max_le.2 hs
  have lq2 : rlen q ≤ 1048576 := Nat.le_trans lq (by decide)
  have lz : (digs (rndR q).natAbs).length ≤ 7 := rnd_len lq
  obtain ⟨Z, hZ⟩ : ∃ Z, rndR q = Z := ⟨_, rfl⟩
  obtain ⟨X, hX⟩ : ∃ X : Rat, ((rndR q : Int) : Rat) = X := ⟨_, rfl⟩
  rw [hX] at hc
  have lx5 : rlen X ≤ 7 := int_len hX lz (by decide)
  have ld : rlen (q - X) ≤ 13 := rlen_sub lq lx5
  have la : rlen (absR (q - X)) ≤ 1048576 := by rw [rlen_abs]; exact Nat.le_trans ld (by decide)
  have ea := absR_neg (q - X)
  have ea1 : (q - X).num.natAbs = (absR (q - X)).num.natAbs := (absR_abs _).symm
  have ea2 : (q - X).den = (absR (q - X)).den := rfl
  generalize absR (q - X) = A at *
  obtain ⟨D, hD⟩ : ∃ D, q - X = D := ⟨_, rfl⟩
  rw [hD] at ea1 ea2
  obtain ⟨e1, e2⟩ := neg_parts q
  have lt5 : rlen (-q) ≤ 1048576 := by rw [rlen_neg]; exact lq2
  have ert := rndR_neg q
  obtain ⟨T, hT⟩ : ∃ T, -q = T := ⟨_, rfl⟩
  rw [hT] at e1 e2 lt5 ert
  obtain ⟨ev, hev⟩ : ∃ ev, dvdB (val [2]) (val (digs Z.natAbs)) = ev := ⟨_, rfl⟩
  rw [hZ] at lz hX ert
  obtain ⟨u, hu⟩ : ∃ u, pickI m 13 = u := ⟨_, rfl⟩
  obtain ⟨v, hv⟩ : ∃ v, pickI n 13 = v := ⟨_, rfl⟩
  have bu := pick_in m
  have bv := pick_in n
  rw [hu] at bu
  rw [hv] at bv
  have GK := Lib.hid gk
  have LB := Lib.hid hl
  have GB := Lib.hid hb
  have CC := Lib.hid hc
  have EA := Lib.hid ea
  have EA1 := Lib.hid ea1
  have EA2 := Lib.hid ea2
  have SD := Lib.hid hD
  have HX := Lib.hid hX
  have HZ := Lib.hid hZ
  have E1 := Lib.hid e1
  have E2 := Lib.hid e2
  have ERT := Lib.hid ert
  have HU := Lib.hid hu
  have HV := Lib.hid hv
  have EV := Lib.hid hev
  have LZ := Lib.hid lz
  have LX := Lib.hid lx5
  have LA := Lib.hid la
  have LT := Lib.hid lt5
  have LQ := Lib.hid lq2
  have LQ2 := Lib.hid lq
  have HS := Lib.hid hs
  have HMM := Lib.hid hm
  have HNN := Lib.hid hn
  clear gk hl hb hc ea ea1 ea2 hD hX hZ e1 e2 ert hu hv hev lz lx5 la lt5 lq2 hs hm hn ld lq hT
  go_enter Try.func5, Try.ntmps5
  have hB := Below.refl w.heap.size w
  go_wp2_with fail
  obtain ⟨w1, hW, hz0, hb, q, f⟩ := box1g w (w.heap.size) (by omega) #[.bool (neg q.num), .slice a1 n1 c1, .slice a2 n2 c2] 31
  rw [hW]
  clear hW
  have g1 := g1.past hb
  have g2 := g2.past hb
  have hB := below_later hB hb
  clear hb
  have lx : w.heap.size < w1.heap.size := by omega
  have qx0 := q 0; have qx1 := q 1; have qx2 := q 2
  simp only [List.getElem?_toArray, List.getElem?_cons_zero, List.getElem?_cons_succ] at qx0 qx1 qx2
  clear q f
  clear hz0
  with_reducible refine (awake05 _).mono ?_
  rintro e w2 ⟨rfl, hb⟩
  have g1 := g1.past hb
  have g2 := g2.past hb
  have qx0 := bq hb lx qx0; have qx1 := bq hb lx qx1; have qx2 := bq hb lx qx2
  have lx := bl hb lx
  have hB := below_later hB hb
  clear hb
  go_wp2_with fail
  obtain ⟨w3, hW, hz0, hb, q, f⟩ := box1g w2 (w2.heap.size) (by omega) #[.bool (neg q.num), .slice a1 n1 c1, .slice a2 n2 c2] 31
  rw [hW]
  clear hW
  have g1 := g1.past hb
  have g2 := g2.past hb
  have qx0 := bq hb lx qx0; have qx1 := bq hb lx qx1; have qx2 := bq hb lx qx2
  have lx := bl hb lx
  have hB := below_later hB hb
  clear hb
  have ls : w2.heap.size < w3.heap.size := by omega
  have qs0 := q 0; have qs1 := q 1; have qs2 := q 2
  simp only [List.getElem?_toArray, List.getElem?_cons_zero, List.getElem?_cons_succ] at qs0 qs1 qs2
  clear q f
  clear hz0
  with_reducible refine (long05_any _ _ _ _ _ (RatsAt.raw1 (x := ((neg q.num), (digs q.num.natAbs), (digs q.den))) ls qs0 qs1 qs2 g1 g2)).mono ?_
  rintro e w4 ⟨rfl, hb⟩
  have g1 := g1.past hb
  have g2 := g2.past hb
  have qx0 := bq hb lx qx0; have qx1 := bq hb lx qx1; have qx2 := bq hb lx qx2
  have lx := bl hb lx
  have qs0 := bq hb ls qs0; have qs1 := bq hb ls qs1; have qs2 := bq hb ls qs2
  have ls := bl hb ls
  have hB := below_later hB hb
  clear hb
  rw [LB.out]
  go_wp2_with fail
  obtain ⟨w5, hW, hz0, hb, q, f⟩ := box1g w4 (w4.heap.size) (by omega) #[.bool (neg q.num), .slice a1 n1 c1, .slice a2 n2 c2] 31
  rw [hW]
  clear hW
  have g1 := g1.past hb
  have g2 := g2.past hb
  have qx0 := bq hb lx qx0; have qx1 := bq hb lx qx1; have qx2 := bq hb lx qx2
  have lx := bl hb lx
  have hB := below_later hB hb
  clear hb
  have ls : w4.heap.size < w5.heap.size := by omega
  have qs0 := q 0; have qs1 := q 1; have qs2 := q 2
  simp only [List.getElem?_toArray, List.getElem?_cons_zero, List.getElem?_cons_succ] at qs0 qs1 qs2
  clear q f
  clear hz0
  with_reducible refine (good05_any _ _ _ _ _ (RatsAt.raw1 (x := ((neg q.num), (digs q.num.natAbs), (digs q.den))) ls qs0 qs1 qs2 g1 g2) GK.out).mono ?_
  rintro e w6 ⟨rfl, hb⟩
  have g1 := g1.past hb
  have g2 := g2.past hb
  have qx0 := bq hb lx qx0; have qx1 := bq hb lx qx1; have qx2 := bq hb lx qx2
  have lx := bl hb lx
  have qs0 := bq hb ls qs0; have qs1 := bq hb ls qs1; have qs2 := bq hb ls qs2
  have ls := bl hb ls
  have hB := below_later hB hb
  clear hb
  rw [GB.out]
  go_wp2_with fail
  with_reducible refine (pick_any m 13 _ HMM.out.1 HMM.out.2 (by decide)).mono ?_
  rintro e w' ⟨rfl, rfl⟩
  rw [HU.out]
  go_wp2_with fail
  with_reducible refine (pick_any n 13 _ HNN.out.1 HNN.out.2 (by decide)).mono ?_
  rintro e w' ⟨rfl, rfl⟩
  rw [HV.out]
  go_wp2_with fail
  with_reducible refine (round_rat2 g1 g2 LQ.out).mono ?_
  rintro e w7 ⟨ahZ, nhZ, chZ, rfl, hZ, hb⟩
  have g1 := g1.past hb
  have g2 := g2.past hb
  have qx0 := bq hb lx qx0; have qx1 := bq hb lx qx1; have qx2 := bq hb lx qx2
  have lx := bl hb lx
  have hB := below_later hB hb
  clear hb
  rw [HZ.out] at hZ ⊢
  have bZ : nhZ ≤ 7 := by rw [← hZ.len]; exact LZ.out
  go_wp2_with fail
  obtain ⟨w8, hW, hz0, hb, q, f⟩ := box1g w7 (w7.heap.size) (by omega) #[.bool (neg Z), .slice ahZ nhZ chZ] 25
  rw [hW]
  clear hW
  have g1 := g1.past hb
  have g2 := g2.past hb
  have hZ := hZ.past hb
  have qx0 := bq hb lx qx0; have qx1 := bq hb lx qx1; have qx2 := bq hb lx qx2
  have lx := bl hb lx
  have hB := below_later hB hb
  clear hb
  have ln : w7.heap.size < w8.heap.size := by omega
  have qn0 := q 0; have qn1 := q 1
  simp only [List.getElem?_toArray, List.getElem?_cons_zero, List.getElem?_cons_succ] at qn0 qn1
  clear q f
  obtain ⟨w9, hW, hz1, hb, q, f⟩ := box1g w8 (w7.heap.size + 1) (by omega) #[.int .u64 1] 51
  have h0l1 : OwnAt w9 w8.heap.size (some ⟨w7.heap.size + 1, 0, none⟩) 1 1 [1] := by rw [← hW]; exact litG _ _ _ [1] 1 (by omega) rfl rfl (by decide) (by first | decide | (simp; omega))
  rw [hW]
  clear hW
  have g1 := g1.past hb
  have g2 := g2.past hb
  have hZ := hZ.past hb
  have qx0 := bq hb lx qx0; have qx1 := bq hb lx qx1; have qx2 := bq hb lx qx2
  have lx := bl hb lx
  have qn0 := bq hb ln qn0; have qn1 := bq hb ln qn1
  have ln := bl hb ln
  have hB := below_later hB hb
  clear hb
  have l1 := h0l1
  clear h0l1
  clear q f
  clear hz0
  clear hz1
  refine (make_int HX.out hZ.toNatAt l1.toNatAt (by omega) (by decide)).mono ?_
  rintro e w10 ⟨ahXU, nhXU, chXU, ahXD, nhXD, chXD, rfl, hXU, hXD, hb⟩
  have g1 := g1.past hb
  have g2 := g2.past hb
  have hZ := hZ.past hb
  have l1 := l1.past hb
  have qx0 := bq hb lx qx0; have qx1 := bq hb lx qx1; have qx2 := bq hb lx qx2
  have lx := bl hb lx
  have qn0 := bq hb ln qn0; have qn1 := bq hb ln qn1
  have ln := bl hb ln
  have hB := below_later hB hb
  clear hb
  go_wp2_with fail
  obtain ⟨w11, hW, hz0, hb, q, f⟩ := box1g w10 (w10.heap.size) (by omega) #[.bool (neg (X).num), .slice ahXU nhXU chXU, .slice ahXD nhXD chXD] 31
  rw [hW]
  clear hW
  have g1 := g1.past hb
  have g2 := g2.past hb
  have hZ := hZ.past hb
  have hXU := hXU.past hb
  have hXD := hXD.past hb
  have qx0 := bq hb lx qx0; have qx1 := bq hb lx qx1; have qx2 := bq hb lx qx2
  have lx := bl hb lx
  have qn0 := bq hb ln qn0; have qn1 := bq hb ln qn1
  have ln := bl hb ln
  have hB := below_later hB hb
  clear hb
  have lnear : w10.heap.size < w11.heap.size := by omega
  have qnear0 := q 0; have qnear1 := q 1; have qnear2 := q 2
  simp only [List.getElem?_toArray, List.getElem?_cons_zero, List.getElem?_cons_succ] at qnear0 qnear1 qnear2
  clear q f
  clear hz0
  with_reducible refine (sub_rat g1 g2 hXU.toNatAt hXD.toNatAt LQ.out (Nat.le_trans LX.out (by decide))).mono ?_
  rintro e w12 ⟨ahDU, nhDU, chDU, ahDD, nhDD, chDD, rfl, hDU, hDD, hb⟩
  have g1 := g1.past hb
  have g2 := g2.past hb
  have hZ := hZ.past hb
  have hXU := hXU.past hb
  have hXD := hXD.past hb
  have qx0 := bq hb lx qx0; have qx1 := bq hb lx qx1; have qx2 := bq hb lx qx2
  have lx := bl hb lx
  have qn0 := bq hb ln qn0; have qn1 := bq hb ln qn1
  have ln := bl hb ln
  have qnear0 := bq hb lnear qnear0; have qnear1 := bq hb lnear qnear1; have qnear2 := bq hb lnear qnear2
  have lnear := bl hb lnear
  have hB := below_later hB hb
  clear hb
  rw [SD.out] at hDU hDD ⊢
  rw [EA1.out] at hDU
  rw [EA2.out] at hDD
  go_wp2_with fail
  obtain ⟨w13, hW, hz0, hb, q, f⟩ := box1g w12 (w12.heap.size) (by omega) #[.bool false, .slice ahDU nhDU chDU, .slice ahDD nhDD chDD] 31
  rw [hW]
  clear hW
  have g1 := g1.past hb
  have g2 := g2.past hb
  have hZ := hZ.past hb
  have hDU := hDU.past hb
  have hDD := hDD.past hb
  have qx0 := bq hb lx qx0; have qx1 := bq hb lx qx1; have qx2 := bq hb lx qx2
  have lx := bl hb lx
  have qn0 := bq hb ln qn0; have qn1 := bq hb ln qn1
  have ln := bl hb ln
  have hB := below_later hB hb
  clear hb
  have ld : w12.heap.size < w13.heap.size := by omega
  have qd0 := q 0; have qd1 := q 1; have qd2 := q 2
  simp only [List.getElem?_toArray, List.getElem?_cons_zero, List.getElem?_cons_succ] at qd0 qd1 qd2
  clear q f
  clear hz0
  go_region_held3 (fun w' => (w'.cell? ⟨w12.heap.size, 0, none⟩ = some (.bool false) ∧ w'.cell? ⟨w12.heap.size, 1, none⟩ = some (.slice ahDU nhDU chDU) ∧ w'.cell? ⟨w12.heap.size, 2, none⟩ = some (.slice ahDD nhDD chDD)) ∧ Below w13.heap.size w13 w')
    (first
      | exact ⟨⟨((Below.refl w13.heap.size w13).drew.cell (p := ⟨w12.heap.size, 0, none⟩) ld).trans qd0, ((Below.refl w13.heap.size w13).drew.cell (p := ⟨w12.heap.size, 1, none⟩) ld).trans qd1, ((Below.refl w13.heap.size w13).drew.cell (p := ⟨w12.heap.size, 2, none⟩) ld).trans qd2⟩, (Below.refl _ _).drew⟩
      | (rename _ ∧ Below w13.heap.size w13 _ => hS
         first
           | exact ⟨⟨((below_later hS.2 hbw15).cell (p := ⟨w12.heap.size, 0, none⟩) ld).trans qd0, ((below_later hS.2 hbw15).cell (p := ⟨w12.heap.size, 1, none⟩) ld).trans qd1, ((below_later hS.2 hbw15).cell (p := ⟨w12.heap.size, 2, none⟩) ld).trans qd2⟩, below_later hS.2 hbw15⟩
           | exact ⟨⟨((below_later hS.2 hbw14).cell (p := ⟨w12.heap.size, 0, none⟩) ld).trans qd0, ((below_later hS.2 hbw14).cell (p := ⟨w12.heap.size, 1, none⟩) ld).trans qd1, ((below_later hS.2 hbw14).cell (p := ⟨w12.heap.size, 2, none⟩) ld).trans qd2⟩, below_later hS.2 hbw14⟩
           | exact ⟨⟨((hS.2.drew).cell (p := ⟨w12.heap.size, 0, none⟩) ld).trans qd0, ((hS.2.drew).cell (p := ⟨w12.heap.size, 1, none⟩) ld).trans qd1, ((hS.2.drew).cell (p := ⟨w12.heap.size, 2, none⟩) ld).trans qd2⟩, hS.2.drew⟩)
      | assumption)
    (first
      | (go_at_call 28; rename _ ∧ Below w13.heap.size w13 _ => hS
         go_fit (of_half _)
         rintro e w14 ⟨ahHU, nhHU, chHU, ahHD, nhHD, chHD, rfl, hHU, hHD, hbw14⟩)
      | (go_at_call 21; rename _ ∧ Below w13.heap.size w13 _ => hS
         go_fit (cmp_abs EA.out (hDU.past hS.2).toNatAt (hDD.past hS.2).toNatAt hHU.toNatAt hHD.toNatAt LA.out (fr_short _ _ _ _ (by decide) (by decide)))
         rintro e w15 ⟨rfl, hbw15⟩
         have hHU := hHU.past hbw15
         have hHD := hHD.past hbw15
         rw [CC.out]))
  rename _ ∧ Below w13.heap.size w13 w15 => hS
  have hbR := hS.2
  have g1 := g1.past hbR
  have g2 := g2.past hbR
  have hZ := hZ.past hbR
  have hDU := hDU.past hbR
  have hDD := hDD.past hbR
  have qx0 := bq hbR lx qx0; have qx1 := bq hbR lx qx1; have qx2 := bq hbR lx qx2
  have lx := bl hbR lx
  have qn0 := bq hbR ln qn0; have qn1 := bq hbR ln qn1
  have ln := bl hbR ln
  have qd0 := bq hbR ld qd0; have qd1 := bq hbR ld qd1; have qd2 := bq hbR ld qd2
  have ld := bl hbR ld
  have hB := below_later hB hbR
  clear hS hbR
  go_wp2_with fail
  with_reducible refine (copyRatio_any _ _ _ _ (digs q.num.natAbs) _ _ _ (digs q.den) _ g1 g2 (by have := HS.out; have := g1.len; omega) (by have := HS.out; have := g2.len; omega)).mono ?_
  rintro e w16 ⟨ahCU, nhCU, chCU, ahCD, nhCD, chCD, rfl, hCU, hCD, hb⟩
  have g1 := g1.past hb
  have g2 := g2.past hb
  have hZ := hZ.past hb
  have qx0 := bq hb lx qx0; have qx1 := bq hb lx qx1; have qx2 := bq hb lx qx2
  have lx := bl hb lx
  have qn0 := bq hb ln qn0; have qn1 := bq hb ln qn1
  have ln := bl hb ln
  have hB := below_later hB hb
  clear hb
  go_wp2_with fail
  obtain ⟨w17, hW, hz0, hb, q, f⟩ := box1g w16 (w16.heap.size) (by omega) #[.bool (neg q.num), .slice ahCU nhCU chCU, .slice ahCD nhCD chCD] 31
  rw [hW]
  clear hW
  have g1 := g1.past hb
  have g2 := g2.past hb
  have hZ := hZ.past hb
  have hCU := hCU.past hb
  have hCD := hCD.past hb
  have qx0 := bq hb lx qx0; have qx1 := bq hb lx qx1; have qx2 := bq hb lx qx2
  have lx := bl hb lx
  have qn0 := bq hb ln qn0; have qn1 := bq hb ln qn1
  have ln := bl hb ln
  have hB := below_later hB hb
  clear hb
  have lt : w16.heap.size < w17.heap.size := by omega
  have qt0 := q 0; have qt1 := q 1; have qt2 := q 2
  simp only [List.getElem?_toArray, List.getElem?_cons_zero, List.getElem?_cons_succ] at qt0 qt1 qt2
  have xt : BoxAt w17 (w16.heap.size) 3 := BoxAt.of q f rfl (by simp [notU_bool, notU_slice, notU_i64])
  clear q f
  clear hz0
  with_reducible refine (sneg_c g1 (by have := HS.out; have := g1.len; omega)).mono ?_
  rintro e w18 ⟨ahN, nhN, chN, rfl, hN, hb⟩
  have g1 := g1.past hb
  have g2 := g2.past hb
  have hZ := hZ.past hb
  have hCU := hCU.past hb
  have hCD := hCD.past hb
  have qx0 := bq hb lx qx0; have qx1 := bq hb lx qx1; have qx2 := bq hb lx qx2
  have lx := bl hb lx
  have qn0 := bq hb ln qn0; have qn1 := bq hb ln qn1
  have ln := bl hb ln
  have qt0 := bq hb lt qt0; have qt1 := bq hb lt qt1; have qt2 := bq hb lt qt2
  have xt := xt.past hb lt
  have lt := bl hb lt
  have hB := below_later hB hb
  clear hb
  rw [E1.out] at hN ⊢
  rw [E2.out] at hCD
  have zf0 := xt.f 0 (by decide)
  have zf1 := xt.f 1 (by decide)
  have zf2 := xt.f 2 (by decide)
  go_wp2_with fail
  obtain ⟨w19, hW, hO, qN0, qN1, qN2, xN⟩ := part32 xt (.bool (neg T.num)) (.slice ahN nhN chN) (nu rfl) (nu rfl) qt2
  try rw [hW]
  clear hW
  have g1 := hO.nat g1
  have g2 := hO.nat g2
  have hZ := hO.own hZ
  have hCU := hO.own hCU
  have hCD := hO.own hCD
  have hN := hO.own hN
  have qx0 := (hO.cell (b2 := w.heap.size) (k := 0) (by omega)).trans qx0
  have qx1 := (hO.cell (b2 := w.heap.size) (k := 1) (by omega)).trans qx1
  have qx2 := (hO.cell (b2 := w.heap.size) (k := 2) (by omega)).trans qx2
  have lx : w.heap.size < w19.heap.size := by rw [hO.size]; exact lx
  have qn0 := (hO.cell (b2 := w7.heap.size) (k := 0) (by omega)).trans qn0
  have qn1 := (hO.cell (b2 := w7.heap.size) (k := 1) (by omega)).trans qn1
  have ln : w7.heap.size < w19.heap.size := by rw [hO.size]; exact ln
  have lt : w16.heap.size < w19.heap.size := by rw [hO.size]; exact lt
  have qt0 := qN0
  have qt1 := qN1
  have qt2 := qN2
  have xt := xN
  have hB := hO.below (by omega) hB
  clear hO qN0 qN1 qN2 xN zf0 zf1 zf2
  with_reducible refine (round_rat2 hN.toNatAt hCD.toNatAt LT.out).mono ?_
  rintro e w20 ⟨ahY, nhY, chY, rfl, hY, hb⟩
  have g1 := g1.past hb
  have g2 := g2.past hb
  have hZ := hZ.past hb
  have hCU := hCU.past hb
  have hCD := hCD.past hb
  have hN := hN.past hb
  have qx0 := bq hb lx qx0; have qx1 := bq hb lx qx1; have qx2 := bq hb lx qx2
  have lx := bl hb lx
  have qn0 := bq hb ln qn0; have qn1 := bq hb ln qn1
  have ln := bl hb ln
  have qt0 := bq hb lt qt0; have qt1 := bq hb lt qt1; have qt2 := bq hb lt qt2
  have xt := xt.past hb lt
  have lt := bl hb lt
  have hB := below_later hB hb
  clear hb
  rw [ERT.out] at hY ⊢
  go_wp2_with fail
  obtain ⟨w21, hW, hz0, hb, q, f⟩ := box1g w20 (w20.heap.size) (by omega) #[.bool (neg (-Z)), .slice ahY nhY chY] 25
  rw [hW]
  clear hW
  have g1 := g1.past hb
  have g2 := g2.past hb
  have hZ := hZ.past hb
  have hY := hY.past hb
  have qx0 := bq hb lx qx0; have qx1 := bq hb lx qx1; have qx2 := bq hb lx qx2
  have lx := bl hb lx
  have qn0 := bq hb ln qn0; have qn1 := bq hb ln qn1
  have ln := bl hb ln
  have hB := below_later hB hb
  clear hb
  have ly : w20.heap.size < w21.heap.size := by omega
  have qy0 := q 0; have qy1 := q 1
  simp only [List.getElem?_toArray, List.getElem?_cons_zero, List.getElem?_cons_succ] at qy0 qy1
  clear q f
  obtain ⟨w22, hW, hz1, hb, q, f⟩ := box1g w21 (w20.heap.size + 1) (by omega) #[.int .u64 2] 51
  have h0l2 : OwnAt w22 w21.heap.size (some ⟨w20.heap.size + 1, 0, none⟩) 1 1 [2] := by rw [← hW]; exact litG _ _ _ [2] 1 (by omega) rfl rfl (by decide) (by first | decide | (simp; omega))
  rw [hW]
  clear hW
  have g1 := g1.past hb
  have g2 := g2.past hb
  have hZ := hZ.past hb
  have hY := hY.past hb
  have qx0 := bq hb lx qx0; have qx1 := bq hb lx qx1; have qx2 := bq hb lx qx2
  have lx := bl hb lx
  have qn0 := bq hb ln qn0; have qn1 := bq hb ln qn1
  have ln := bl hb ln
  have qy0 := bq hb ly qy0; have qy1 := bq hb ly qy1
  have ly := bl hb ly
  have hB := below_later hB hb
  clear hb
  have l2 := h0l2
  clear h0l2
  clear q f
  clear hz0
  clear hz1
  refine (divides_any _ _ _ [2] _ _ _ (digs Z.natAbs) _ l2.toNatAt hZ.toNatAt (by decide) (by omega)).mono ?_
  rintro e w23 ⟨rfl, hb⟩
  have g1 := g1.past hb
  have g2 := g2.past hb
  have hZ := hZ.past hb
  have hY := hY.past hb
  have l2 := l2.past hb
  have qx0 := bq hb lx qx0; have qx1 := bq hb lx qx1; have qx2 := bq hb lx qx2
  have lx := bl hb lx
  have qn0 := bq hb ln qn0; have qn1 := bq hb ln qn1
  have ln := bl hb ln
  have qy0 := bq hb ly qy0; have qy1 := bq hb ly qy1
  have ly := bl hb ly
  have hB := below_later hB hb
  clear hb
  rw [EV.out]
  go_wp2_with fail
  refine wp_region_held_drew (S := fun w' => (w'.cell? ⟨w20.heap.size, 0, none⟩ = some (.bool (neg (-Z))) ∧ w'.cell? ⟨w20.heap.size, 1, none⟩ = some (.slice ahY nhY chY) ∧ w'.cell? ⟨w7.heap.size, 0, none⟩ = some (.bool (neg Z)) ∧ w'.cell? ⟨w7.heap.size, 1, none⟩ = some (.slice ahZ nhZ chZ)) ∧ Below w23.heap.size w23 w') (by kernel_rfl) ⟨⟨((Below.refl w23.heap.size w23).drew.cell (p := ⟨w20.heap.size, 0, none⟩) ly).trans qy0, ((Below.refl w23.heap.size w23).drew.cell (p := ⟨w20.heap.size, 1, none⟩) ly).trans qy1, ((Below.refl w23.heap.size w23).drew.cell (p := ⟨w7.heap.size, 0, none⟩) ln).trans qn0, ((Below.refl w23.heap.size w23).drew.cell (p := ⟨w7.heap.size, 1, none⟩) ln).trans qn1⟩, (Below.refl _ _).drew⟩ (fun hHeld => ?_)
  refine takeL 0 (.int .i64 0) rfl (by kernel_rfl) (by kernel_rfl) (by kernel_rfl) (fun _ _ _ h => h) (Or.inl ⟨by rfl, ?_⟩) (by assumption) ?_
  · intro ws hSw; obtain ⟨⟨s0, s1, s2, s3⟩, sB⟩ := hSw; go_simp
  try simp only [Act.put, List.setIfInBounds_toArray, List.set_cons_zero, List.set_cons_succ]
  refine takeL 1 (.bool false) rfl (by kernel_rfl) (by kernel_rfl) (by kernel_rfl) (fun _ _ _ h => h) (Or.inl ⟨by rfl, ?_⟩) (by assumption) ?_
  · intro ws hSw; obtain ⟨⟨s0, s1, s2, s3⟩, sB⟩ := hSw; go_simp
  try simp only [Act.put, List.setIfInBounds_toArray, List.set_cons_zero, List.set_cons_succ]
  refine takeL 2 (.bool false) rfl (by kernel_rfl) (by kernel_rfl) (by kernel_rfl) (fun _ _ _ h => h) (Or.inl ⟨by rfl, ?_⟩) (by assumption) ?_
  · intro ws hSw; obtain ⟨⟨s0, s1, s2, s3⟩, sB⟩ := hSw; go_simp
  try simp only [Act.put, List.setIfInBounds_toArray, List.set_cons_zero, List.set_cons_succ]
  refine takeL 3 (.int .i64 0) rfl (by kernel_rfl) (by kernel_rfl) (by kernel_rfl) (fun _ _ _ h => h) (Or.inl ⟨by rfl, ?_⟩) (by assumption) ?_
  · intro ws hSw; obtain ⟨⟨s0, s1, s2, s3⟩, sB⟩ := hSw; go_simp
  try simp only [Act.put, List.setIfInBounds_toArray, List.set_cons_zero, List.set_cons_succ]
  refine takeL 4 (.bool false) rfl (by kernel_rfl) (by kernel_rfl) (by kernel_rfl) (fun _ _ _ h => h) (Or.inl ⟨by rfl, ?_⟩) (by assumption) ?_
  · intro ws hSw; obtain ⟨⟨s0, s1, s2, s3⟩, sB⟩ := hSw; go_simp
  try simp only [Act.put, List.setIfInBounds_toArray, List.set_cons_zero, List.set_cons_succ]
  refine takeL 5 (.bool false) rfl (by kernel_rfl) (by kernel_rfl) (by kernel_rfl) (fun _ _ _ h => h) (Or.inl ⟨by rfl, ?_⟩) (by assumption) ?_
  · intro ws hSw; obtain ⟨⟨s0, s1, s2, s3⟩, sB⟩ := hSw; go_simp
  try simp only [Act.put, List.setIfInBounds_toArray, List.set_cons_zero, List.set_cons_succ]
  refine takeL 6 (.bool false) rfl (by kernel_rfl) (by kernel_rfl) (by kernel_rfl) (fun _ _ _ h => h) (Or.inl ⟨by rfl, ?_⟩) (by assumption) ?_
  · intro ws hSw; obtain ⟨⟨s0, s1, s2, s3⟩, sB⟩ := hSw; go_simp
  try simp only [Act.put, List.setIfInBounds_toArray, List.set_cons_zero, List.set_cons_succ]
  refine takeL 7 (.int .i64 0) rfl (by kernel_rfl) (by kernel_rfl) (by kernel_rfl) (fun _ _ _ h => h) (Or.inl ⟨by rfl, ?_⟩) (by assumption) ?_
  · intro ws hSw; obtain ⟨⟨s0, s1, s2, s3⟩, sB⟩ := hSw; go_simp
  try simp only [Act.put, List.setIfInBounds_toArray, List.set_cons_zero, List.set_cons_succ]
  refine takeL 8 (.bool false) rfl (by kernel_rfl) (by kernel_rfl) (by kernel_rfl) (fun _ _ _ h => h) (Or.inl ⟨by rfl, ?_⟩) (by assumption) ?_
  · intro ws hSw; obtain ⟨⟨s0, s1, s2, s3⟩, sB⟩ := hSw; go_simp
  try simp only [Act.put, List.setIfInBounds_toArray, List.set_cons_zero, List.set_cons_succ]
  refine takeL 9 (.bool false) rfl (by kernel_rfl) (by kernel_rfl) (by kernel_rfl) (fun _ _ _ h => h) (Or.inl ⟨by rfl, ?_⟩) (by assumption) ?_
  · intro ws hSw; obtain ⟨⟨s0, s1, s2, s3⟩, sB⟩ := hSw; go_simp
  try simp only [Act.put, List.setIfInBounds_toArray, List.set_cons_zero, List.set_cons_succ]
  refine takeL 10 (.bool false) rfl (by kernel_rfl) (by kernel_rfl) (by kernel_rfl) (fun _ _ _ h => h) (Or.inl ⟨by rfl, ?_⟩) (by assumption) ?_
  · intro ws hSw; obtain ⟨⟨s0, s1, s2, s3⟩, sB⟩ := hSw; go_simp
  try simp only [Act.put, List.setIfInBounds_toArray, List.set_cons_zero, List.set_cons_succ]
  refine takeL 11 (.int .i64 0) rfl (by kernel_rfl) (by kernel_rfl) (by kernel_rfl) (fun _ _ _ h => h) (Or.inl ⟨by rfl, ?_⟩) (by assumption) ?_
  · intro ws hSw; obtain ⟨⟨s0, s1, s2, s3⟩, sB⟩ := hSw; go_simp
  try simp only [Act.put, List.setIfInBounds_toArray, List.set_cons_zero, List.set_cons_succ]
  refine takeL 12 (.bool false) rfl (by kernel_rfl) (by kernel_rfl) (by kernel_rfl) (fun _ _ _ h => h) (Or.inl ⟨by rfl, ?_⟩) (by assumption) ?_
  · intro ws hSw; obtain ⟨⟨s0, s1, s2, s3⟩, sB⟩ := hSw; go_simp
  try simp only [Act.put, List.setIfInBounds_toArray, List.set_cons_zero, List.set_cons_succ]
  refine takeL 13 (.bool false) rfl (by kernel_rfl) (by kernel_rfl) (by kernel_rfl) (fun _ _ _ h => h) (Or.inl ⟨by rfl, ?_⟩) (by assumption) ?_
  · intro ws hSw; obtain ⟨⟨s0, s1, s2, s3⟩, sB⟩ := hSw; go_simp
  try simp only [Act.put, List.setIfInBounds_toArray, List.set_cons_zero, List.set_cons_succ]
  refine takeL 14 (.bool false) rfl (by kernel_rfl) (by kernel_rfl) (by kernel_rfl) (fun _ _ _ h => h) (Or.inl ⟨by rfl, ?_⟩) (by assumption) ?_
  · intro ws hSw; obtain ⟨⟨s0, s1, s2, s3⟩, sB⟩ := hSw; go_simp
  try simp only [Act.put, List.setIfInBounds_toArray, List.set_cons_zero, List.set_cons_succ]
  refine takeL 15 (.int .i64 0) rfl (by kernel_rfl) (by kernel_rfl) (by kernel_rfl) (fun _ _ _ h => h) (Or.inl ⟨by rfl, ?_⟩) (by assumption) ?_
  · intro ws hSw; obtain ⟨⟨s0, s1, s2, s3⟩, sB⟩ := hSw; go_simp
  try simp only [Act.put, List.setIfInBounds_toArray, List.set_cons_zero, List.set_cons_succ]
  refine takeL 16 (.bool false) rfl (by kernel_rfl) (by kernel_rfl) (by kernel_rfl) (fun _ _ _ h => h) (Or.inl ⟨by rfl, ?_⟩) (by assumption) ?_
  · intro ws hSw; obtain ⟨⟨s0, s1, s2, s3⟩, sB⟩ := hSw; go_simp
  try simp only [Act.put, List.setIfInBounds_toArray, List.set_cons_zero, List.set_cons_succ]
  refine takeL 17 (.bool false) rfl (by kernel_rfl) (by kernel_rfl) (by kernel_rfl) (fun _ _ _ h => h) (Or.inl ⟨by rfl, ?_⟩) (by assumption) ?_
  · intro ws hSw; obtain ⟨⟨s0, s1, s2, s3⟩, sB⟩ := hSw; go_simp
  try simp only [Act.put, List.setIfInBounds_toArray, List.set_cons_zero, List.set_cons_succ]
  refine takeL 18 (.bool false) rfl (by kernel_rfl) (by kernel_rfl) (by kernel_rfl) (fun _ _ _ h => h) (Or.inl ⟨by rfl, ?_⟩) (by assumption) ?_
  · intro ws hSw; obtain ⟨⟨s0, s1, s2, s3⟩, sB⟩ := hSw; go_simp
  try simp only [Act.put, List.setIfInBounds_toArray, List.set_cons_zero, List.set_cons_succ]
  refine takeL 19 (.int .i64 (-1)) rfl (by kernel_rfl) (by kernel_rfl) (by kernel_rfl) (fun _ _ _ h => h) (Or.inl ⟨by rfl, ?_⟩) (by assumption) ?_
  · intro ws hSw; obtain ⟨⟨s0, s1, s2, s3⟩, sB⟩ := hSw; go_simp
  try simp only [Act.put, List.setIfInBounds_toArray, List.set_cons_zero, List.set_cons_succ]
  refine takeL 20 (.bool false) rfl (by kernel_rfl) (by kernel_rfl) (by kernel_rfl) (fun _ _ _ h => h) (Or.inl ⟨by rfl, ?_⟩) (by assumption) ?_
  · intro ws hSw; obtain ⟨⟨s0, s1, s2, s3⟩, sB⟩ := hSw; go_simp
  try simp only [Act.put, List.setIfInBounds_toArray, List.set_cons_zero, List.set_cons_succ]
  refine takeL 21 (.bool false) rfl (by kernel_rfl) (by kernel_rfl) (by kernel_rfl) (fun _ _ _ h => h) (Or.inl ⟨by rfl, ?_⟩) (by assumption) ?_
  · intro ws hSw; obtain ⟨⟨s0, s1, s2, s3⟩, sB⟩ := hSw; go_simp
  try simp only [Act.put, List.setIfInBounds_toArray, List.set_cons_zero, List.set_cons_succ]
  refine takeL 22 (.bool false) rfl (by kernel_rfl) (by kernel_rfl) (by kernel_rfl) (fun _ _ _ h => h) (Or.inl ⟨by rfl, ?_⟩) (by assumption) ?_
  · intro ws hSw; obtain ⟨⟨s0, s1, s2, s3⟩, sB⟩ := hSw; go_simp
  try simp only [Act.put, List.setIfInBounds_toArray, List.set_cons_zero, List.set_cons_succ]
  refine takeL 23 (.int .i64 (-1)) rfl (by kernel_rfl) (by kernel_rfl) (by kernel_rfl) (fun _ _ _ h => h) (Or.inl ⟨by rfl, ?_⟩) (by assumption) ?_
  · intro ws hSw; obtain ⟨⟨s0, s1, s2, s3⟩, sB⟩ := hSw; go_simp
  try simp only [Act.put, List.setIfInBounds_toArray, List.set_cons_zero, List.set_cons_succ]
  refine takeL 24 (.bool false) rfl (by kernel_rfl) (by kernel_rfl) (by kernel_rfl) (fun _ _ _ h => h) (Or.inl ⟨by rfl, ?_⟩) (by assumption) ?_
  · intro ws hSw; obtain ⟨⟨s0, s1, s2, s3⟩, sB⟩ := hSw; go_simp
  try simp only [Act.put, List.setIfInBounds_toArray, List.set_cons_zero, List.set_cons_succ]
  refine takeL 25 (.bool false) rfl (by kernel_rfl) (by kernel_rfl) (by kernel_rfl) (fun _ _ _ h => h) (Or.inl ⟨by rfl, ?_⟩) (by assumption) ?_
  · intro ws hSw; obtain ⟨⟨s0, s1, s2, s3⟩, sB⟩ := hSw; go_simp
  try simp only [Act.put, List.setIfInBounds_toArray, List.set_cons_zero, List.set_cons_succ]
  refine takeL 26 undef rfl (by kernel_rfl) (by kernel_rfl) (by kernel_rfl) (fun _ _ _ h => h) (Or.inr ⟨by rfl, rfl⟩) (by assumption) ?_
  try simp only [Act.put, List.setIfInBounds_toArray, List.set_cons_zero, List.set_cons_succ]
  refine takeL 27 undef rfl (by kernel_rfl) (by kernel_rfl) (by kernel_rfl) (fun _ _ _ h => h) (Or.inr ⟨by rfl, rfl⟩) (by assumption) ?_
  try simp only [Act.put, List.setIfInBounds_toArray, List.set_cons_zero, List.set_cons_succ]
  refine takeL 28 (.bool false) rfl (by kernel_rfl) (by kernel_rfl) (by kernel_rfl) (fun _ _ _ h => h) (Or.inl ⟨by rfl, ?_⟩) (by assumption) ?_
  · intro ws hSw; obtain ⟨⟨s0, s1, s2, s3⟩, sB⟩ := hSw; go_simp
  try simp only [Act.put, List.setIfInBounds_toArray, List.set_cons_zero, List.set_cons_succ]
  refine takeL 29 (.bool false) rfl (by kernel_rfl) (by kernel_rfl) (by kernel_rfl) (fun _ _ _ h => h) (Or.inl ⟨by rfl, ?_⟩) (by assumption) ?_
  · intro ws hSw; obtain ⟨⟨s0, s1, s2, s3⟩, sB⟩ := hSw; go_simp
  try simp only [Act.put, List.setIfInBounds_toArray, List.set_cons_zero, List.set_cons_succ]
  refine takeL 30 (.bool false) rfl (by kernel_rfl) (by kernel_rfl) (by kernel_rfl) (fun _ _ _ h => h) (Or.inl ⟨by rfl, ?_⟩) (by assumption) ?_
  · intro ws hSw; obtain ⟨⟨s0, s1, s2, s3⟩, sB⟩ := hSw; go_simp
  try simp only [Act.put, List.setIfInBounds_toArray, List.set_cons_zero, List.set_cons_succ]
  refine takeL 31 (.agg #[.bool (neg (-Z)), .slice ahY nhY chY]) rfl (by kernel_rfl) (by kernel_rfl) (by kernel_rfl) (fun _ _ _ h => h) (Or.inl ⟨by rfl, ?_⟩) (by assumption) ?_
  · intro ws hSw; obtain ⟨⟨s0, s1, s2, s3⟩, sB⟩ := hSw; go_simp
  try simp only [Act.put, List.setIfInBounds_toArray, List.set_cons_zero, List.set_cons_succ]
  refine takeL 32 (.agg #[.bool (neg Z), .slice ahZ nhZ chZ]) rfl (by kernel_rfl) (by kernel_rfl) (by kernel_rfl) (fun _ _ _ h => h) (Or.inl ⟨by rfl, ?_⟩) (by assumption) ?_
  · intro ws hSw; obtain ⟨⟨s0, s1, s2, s3⟩, sB⟩ := hSw; go_simp
  try simp only [Act.put, List.setIfInBounds_toArray, List.set_cons_zero, List.set_cons_succ]
  refine wpAnyH_ready (rs := [33]) (by kernel_rfl) (by simp) ?_
  refine consL rfl (fun K hK => ?_) AllReadyH.nil
  go_simp
  have hS := hHeld
  with_reducible refine (sneg_c (hZ.past hS.2).toNatAt (by omega)).mono ?_
  rintro e w24 ⟨ahW, nhW, chW, rfl, hW, hbw24⟩
  refine hK.out _ _ ⟨⟨((below_later hS.2 hbw24).cell (p := ⟨w20.heap.size, 0, none⟩) ly).trans qy0, ((below_later hS.2 hbw24).cell (p := ⟨w20.heap.size, 1, none⟩) ly).trans qy1, ((below_later hS.2 hbw24).cell (p := ⟨w7.heap.size, 0, none⟩) ln).trans qn0, ((below_later hS.2 hbw24).cell (p := ⟨w7.heap.size, 1, none⟩) ln).trans qn1⟩, below_later hS.2 hbw24⟩ (fun hHeld => ?_)
  clear hK K hS
  try simp only [Act.put, List.setIfInBounds_toArray, List.set_cons_zero, List.set_cons_succ]
  refine wpAnyH_ready (rs := [34]) (by kernel_rfl) (by simp) ?_
  refine consL rfl (fun K hK => ?_) AllReadyH.nil
  go_simp
  have hS := hHeld
  with_reducible refine (sameWhole_yes (hY.past hS.2).toNatAt hW.toNatAt).mono ?_
  rintro e w25 ⟨rfl, hbw25⟩
  have hW := hW.past hbw25
  refine hK.out _ _ ⟨⟨((below_later hS.2 hbw25).cell (p := ⟨w20.heap.size, 0, none⟩) ly).trans qy0, ((below_later hS.2 hbw25).cell (p := ⟨w20.heap.size, 1, none⟩) ly).trans qy1, ((below_later hS.2 hbw25).cell (p := ⟨w7.heap.size, 0, none⟩) ln).trans qn0, ((below_later hS.2 hbw25).cell (p := ⟨w7.heap.size, 1, none⟩) ln).trans qn1⟩, below_later hS.2 hbw25⟩ (fun hHeld => ?_)
  clear hK K hS
  try simp only [Act.put, List.setIfInBounds_toArray, List.set_cons_zero, List.set_cons_succ]
  refine takeL 35 (.bool false) rfl (by kernel_rfl) (by kernel_rfl) (by kernel_rfl) (fun _ _ _ h => h) (Or.inl ⟨by rfl, ?_⟩) (by assumption) ?_
  · intro ws hSw; obtain ⟨⟨s0, s1, s2, s3⟩, sB⟩ := hSw; go_simp
  try simp only [Act.put, List.setIfInBounds_toArray, List.set_cons_zero, List.set_cons_succ]
  refine takeL 36 (.bool false) rfl (by kernel_rfl) (by kernel_rfl) (by kernel_rfl) (fun _ _ _ h => h) (Or.inl ⟨by rfl, ?_⟩) (by assumption) ?_
  · intro ws hSw; obtain ⟨⟨s0, s1, s2, s3⟩, sB⟩ := hSw; go_simp
  try simp only [Act.put, List.setIfInBounds_toArray, List.set_cons_zero, List.set_cons_succ]
  refine wpAnyH_done (by kernel_rfl) ?_ _
  have hbR := hHeld.2
  have g1 := g1.past hbR
  have g2 := g2.past hbR
  have hZ := hZ.past hbR
  have hY := hY.past hbR
  have qx0 := bq hbR lx qx0; have qx1 := bq hbR lx qx1; have qx2 := bq hbR lx qx2
  have lx := bl hbR lx
  have qn0 := bq hbR ln qn0; have qn1 := bq hbR ln qn1
  have ln := bl hbR ln
  have qy0 := bq hbR ly qy0; have qy1 := bq hbR ly qy1
  have ly := bl hbR ly
  have hB := below_later hB hbR
  clear hHeld hbR
  by_cases hq : q = 0
  · obtain rfl : n1 = 0 := by rw [← g1.len]; exact num_len0.2 hq
    clear hq
    go_wp2
    go_ret
    exact ⟨rfl, hB⟩
  · have hz3 : ((n1 : Int) == 0) = false := by rw [beq_eq_false_iff_ne]; intro h0; exact hq (num_len0.1 (by have := g1.len; omega))
    have HQ := Lib.hid hq
    clear hq
    go_wp2_with fail
    with_reducible refine (pow_rat2 g1 g2 LQ.out (by omega) (by omega) (.inr HQ.out)).mono ?_
    rintro e w26 ⟨ahPU, nhPU, chPU, ahPD, nhPD, chPD, rfl, hPU, hPD, hb⟩
    have g1 := g1.past hb
    have g2 := g2.past hb
    have qx0 := bq hb lx qx0; have qx1 := bq hb lx qx1; have qx2 := bq hb lx qx2
    have lx := bl hb lx
    have hB := below_later hB hb
    clear hb
    go_wp2_with fail
    obtain ⟨w27, hW, hz0, hb, q, f⟩ := box1g w26 (w26.heap.size) (by omega) #[.bool (neg (q ^ (u - 6)).num), .slice ahPU nhPU chPU, .slice ahPD nhPD chPD] 31
    rw [hW]
    clear hW
    have g1 := g1.past hb
    have g2 := g2.past hb
    have hPU := hPU.past hb
    have hPD := hPD.past hb
    have qx0 := bq hb lx qx0; have qx1 := bq hb lx qx1; have qx2 := bq hb lx qx2
    have lx := bl hb lx
    have hB := below_later hB hb
    clear hb
    have la : w26.heap.size < w27.heap.size := by omega
    have qa0 := q 0; have qa1 := q 1; have qa2 := q 2
    simp only [List.getElem?_toArray, List.getElem?_cons_zero, List.getElem?_cons_succ] at qa0 qa1 qa2
    clear q f
    clear hz0
    with_reducible refine (pow_rat2 g1 g2 LQ.out (by omega) (by omega) (.inr HQ.out)).mono ?_
    rintro e w28 ⟨ahOU, nhOU, chOU, ahOD, nhOD, chOD, rfl, hOU, hOD, hb⟩
    have g1 := g1.past hb
    have g2 := g2.past hb
    have hPU := hPU.past hb
    have hPD := hPD.past hb
    have qx0 := bq hb lx qx0; have qx1 := bq hb lx qx1; have qx2 := bq hb lx qx2
    have lx := bl hb lx
    have qa0 := bq hb la qa0; have qa1 := bq hb la qa1; have qa2 := bq hb la qa2
    have la := bl hb la
    have hB := below_later hB hb
    clear hb
    go_wp2_with fail
    obtain ⟨w29, hW, hz0, hb, q, f⟩ := box1g w28 (w28.heap.size) (by omega) #[.bool (neg (q ^ (v - 6)).num), .slice ahOU nhOU chOU, .slice ahOD nhOD chOD] 31
    rw [hW]
    clear hW
    have g1 := g1.past hb
    have g2 := g2.past hb
    have hPU := hPU.past hb
    have hPD := hPD.past hb
    have hOU := hOU.past hb
    have hOD := hOD.past hb
    have qx0 := bq hb lx qx0; have qx1 := bq hb lx qx1; have qx2 := bq hb lx qx2
    have lx := bl hb lx
    have qa0 := bq hb la qa0; have qa1 := bq hb la qa1; have qa2 := bq hb la qa2
    have la := bl hb la
    have hB := below_later hB hb
    clear hb
    have lb : w28.heap.size < w29.heap.size := by omega
    have qb0 := q 0; have qb1 := q 1; have qb2 := q 2
    simp only [List.getElem?_toArray, List.getElem?_cons_zero, List.getElem?_cons_succ] at qb0 qb1 qb2
    clear q f
    clear hz0
    with_reducible refine (pow_rat2 g1 g2 LQ.out (by omega) (by omega) (.inr HQ.out)).mono ?_
    rintro e w30 ⟨ahSU, nhSU, chSU, ahSD, nhSD, chSD, rfl, hSU, hSD, hb⟩
    have g1 := g1.past hb
    have g2 := g2.past hb
    have hPU := hPU.past hb
    have hPD := hPD.past hb
    have hOU := hOU.past hb
    have hOD := hOD.past hb
    have qx0 := bq hb lx qx0; have qx1 := bq hb lx qx1; have qx2 := bq hb lx qx2
    have lx := bl hb lx
    have qa0 := bq hb la qa0; have qa1 := bq hb la qa1; have qa2 := bq hb la qa2
    have la := bl hb la
    have qb0 := bq hb lb qb0; have qb1 := bq hb lb qb1; have qb2 := bq hb lb qb2
    have lb := bl hb lb
    have hB := below_later hB hb
    clear hb
    skip
    go_wp2_with fail
    obtain ⟨w31, hW, hz0, hb, q, f⟩ := box1g w30 (w30.heap.size) (by omega) #[.bool (neg (q ^ (u - 6 + (v - 6))).num), .slice ahSU nhSU chSU, .slice ahSD nhSD chSD] 31
    rw [hW]
    clear hW
    have g1 := g1.past hb
    have g2 := g2.past hb
    have hPU := hPU.past hb
    have hPD := hPD.past hb
    have hOU := hOU.past hb
    have hOD := hOD.past hb
    have hSU := hSU.past hb
    have hSD := hSD.past hb
    have qx0 := bq hb lx qx0; have qx1 := bq hb lx qx1; have qx2 := bq hb lx qx2
    have lx := bl hb lx
    have qa0 := bq hb la qa0; have qa1 := bq hb la qa1; have qa2 := bq hb la qa2
    have la := bl hb la
    have qb0 := bq hb lb qb0; have qb1 := bq hb lb qb1; have qb2 := bq hb lb qb2
    have lb := bl hb lb
    have hB := below_later hB hb
    clear hb
    have lc : w30.heap.size < w31.heap.size := by omega
    have qc0 := q 0; have qc1 := q 1; have qc2 := q 2
    simp only [List.getElem?_toArray, List.getElem?_cons_zero, List.getElem?_cons_succ] at qc0 qc1 qc2
    clear q f
    obtain ⟨w32, hW, hz1, hb, q, f⟩ := box1g w31 (w30.heap.size + 1) (by omega) #[.bool (neg (q ^ (u - 6)).num), .slice ahPU nhPU chPU, .slice ahPD nhPD chPD, .bool (neg (q ^ (v - 6)).num), .slice ahOU nhOU chOU, .slice ahOD nhOD chOD] 31
    rw [hW]
    clear hW
    have g1 := g1.past hb
    have g2 := g2.past hb
    have hPU := hPU.past hb
    have hPD := hPD.past hb
    have hOU := hOU.past hb
    have hOD := hOD.past hb
    have hSU := hSU.past hb
    have hSD := hSD.past hb
    have qx0 := bq hb lx qx0; have qx1 := bq hb lx qx1; have qx2 := bq hb lx qx2
    have lx := bl hb lx
    have qa0 := bq hb la qa0; have qa1 := bq hb la qa1; have qa2 := bq hb la qa2
    have la := bl hb la
    have qb0 := bq hb lb qb0; have qb1 := bq hb lb qb1; have qb2 := bq hb lb qb2
    have lb := bl hb lb
    have qc0 := bq hb lc qc0; have qc1 := bq hb lc qc1; have qc2 := bq hb lc qc2
    have lc := bl hb lc
    have hB := below_later hB hb
    clear hb
    have ls : w30.heap.size + 1 < w32.heap.size := by omega
    have qs0 := q 0; have qs1 := q 1; have qs2 := q 2; have qs3 := q 3; have qs4 := q 4; have qs5 := q 5
    simp only [List.getElem?_toArray, List.getElem?_cons_zero, List.getElem?_cons_succ] at qs0 qs1 qs2 qs3 qs4 qs5
    clear q f
    clear hz0
    clear hz1
    with_reducible refine (mul_two (RatsAt.two ls qs0 qs1 qs2 qs3 qs4 qs5 hPU.toNatAt hPD.toNatAt hOU.toNatAt hOD.toNatAt) (zpow_short LQ2.out (by omega) (by omega)) (zpow_short LQ2.out (by omega) (by omega))).mono ?_
    rintro e w33 ⟨ahMU, nhMU, chMU, ahMD, nhMD, chMD, rfl, hMU, hMD, hb⟩
    have g1 := g1.past hb
    have g2 := g2.past hb
    have hPU := hPU.past hb
    have hPD := hPD.past hb
    have hOU := hOU.past hb
    have hOD := hOD.past hb
    have hSU := hSU.past hb
    have hSD := hSD.past hb
    have qx0 := bq hb lx qx0; have qx1 := bq hb lx qx1; have qx2 := bq hb lx qx2
    have lx := bl hb lx
    have qa0 := bq hb la qa0; have qa1 := bq hb la qa1; have qa2 := bq hb la qa2
    have la := bl hb la
    have qb0 := bq hb lb qb0; have qb1 := bq hb lb qb1; have qb2 := bq hb lb qb2
    have lb := bl hb lb
    have qc0 := bq hb lc qc0; have qc1 := bq hb lc qc1; have qc2 := bq hb lc qc2
    have lc := bl hb lc
    have qs0 := bq hb ls qs0; have qs1 := bq hb ls qs1; have qs2 := bq hb ls qs2; have qs3 := bq hb ls qs3; have qs4 := bq hb ls qs4; have qs5 := bq hb ls qs5
    have ls := bl hb ls
    have hB := below_later hB hb
    clear hb
    rw [← Rat.zpow_add HQ.out] at hMU hMD ⊢
    go_wp2_with fail
    obtain ⟨w34, hW, hz0, hb, q, f⟩ := box1g w33 (w33.heap.size) (by omega) #[.bool (neg (q ^ (u - 6 + (v - 6))).num), .slice ahMU nhMU chMU, .slice ahMD nhMD chMD] 31
    rw [hW]
    clear hW
    have g1 := g1.past hb
    have g2 := g2.past hb
    have hPU := hPU.past hb
    have hPD := hPD.past hb
    have hOU := hOU.past hb
    have hOD := hOD.past hb
    have hSU := hSU.past hb
    have hSD := hSD.past hb
    have hMU := hMU.past hb
    have hMD := hMD.past hb
    have qx0 := bq hb lx qx0; have qx1 := bq hb lx qx1; have qx2 := bq hb lx qx2
    have lx := bl hb lx
    have qa0 := bq hb la qa0; have qa1 := bq hb la qa1; have qa2 := bq hb la qa2
    have la := bl hb la
    have qb0 := bq hb lb qb0; have qb1 := bq hb lb qb1; have qb2 := bq hb lb qb2
    have lb := bl hb lb
    have qc0 := bq hb lc qc0; have qc1 := bq hb lc qc1; have qc2 := bq hb lc qc2
    have lc := bl hb lc
    have hB := below_later hB hb
    clear hb
    have lo : w33.heap.size < w34.heap.size := by omega
    have qo0 := q 0; have qo1 := q 1; have qo2 := q 2
    simp only [List.getElem?_toArray, List.getElem?_cons_zero, List.getElem?_cons_succ] at qo0 qo1 qo2
    clear q f
    clear hz0
    with_reducible refine (same05_yes hMU.toNatAt hMD.toNatAt hSU.toNatAt hSD.toNatAt (zpow_short LQ2.out (by omega) (by omega))).mono ?_
    rintro e w35 ⟨rfl, hb⟩
    have g1 := g1.past hb
    have g2 := g2.past hb
    have hPU := hPU.past hb
    have hPD := hPD.past hb
    have hOU := hOU.past hb
    have hOD := hOD.past hb
    have hSU := hSU.past hb
    have hSD := hSD.past hb
    have hMU := hMU.past hb
    have hMD := hMD.past hb
    have qx0 := bq hb lx qx0; have qx1 := bq hb lx qx1; have qx2 := bq hb lx qx2
    have lx := bl hb lx
    have qa0 := bq hb la qa0; have qa1 := bq hb la qa1; have qa2 := bq hb la qa2
    have la := bl hb la
    have qb0 := bq hb lb qb0; have qb1 := bq hb lb qb1; have qb2 := bq hb lb qb2
    have lb := bl hb lb
    have qc0 := bq hb lc qc0; have qc1 := bq hb lc qc1; have qc2 := bq hb lc qc2
    have lc := bl hb lc
    have qo0 := bq hb lo qo0; have qo1 := bq hb lo qo1; have qo2 := bq hb lo qo2
    have lo := bl hb lo
    have hB := below_later hB hb
    clear hb
    go_wp2
    go_ret
    exact ⟨rfl, hB⟩

set_option maxRecDepth 100000 in
set_option maxHeartbeats 16000000 in
theorem ratioRounds_eq {q : Rat} {a1 : Option Addr} {n1 c1 : Nat} {a2 : Option Addr} {n2 c2 : Nat} (m n : Int) {w : World} (g1 : NatAt w a1 n1 c1 (digs q.num.natAbs)) (g2 : NatAt w a2 n2 c2 (digs q.den)) (hs : (digs q.num.natAbs).length ≤ 5 ∧ (digs q.den).length ≤ 5) (hm : -9223372036854775808 ≤ m ∧ m ≤ 9223372036854775807) (hn : -9223372036854775808 ≤ n ∧ n ≤ 9223372036854775807) (hl : longP ((neg q.num), (digs q.num.natAbs), (digs q.den)) = false) (hq : q ≠ 0) (hc : (absR (q - (rndR q : Rat)) - fr 1 2).num.sign = 0) (he : (rndR q).natAbs % 2 = 0) :
    Calls Try.prog 5 #[.agg #[.bool (neg q.num), .slice a1 n1 c1, .slice a2 n2 c2], .int .i64 m, .int .i64 n] w (RetVal w (.bool true)) := by
  rw [← longB1] at hl
  have hb : allR (rawF [((neg q.num), (digs q.num.natAbs), (digs q.den))]) 1 = true := by rw [allR1]; exact decide_eq_true (chk3_parts q)
  have gk : ∀ i, i < 1 → ((rawF [((neg q.num), (digs q.num.natAbs), (digs q.den))]) i).2.1.length ≤ 68719476736 ∧ ((rawF [((neg q.num), (digs q.num.natAbs), (digs q.den))]) i).2.2.length ≤ 68719476736 := fun i hi => by
    match i, hi with
    | 0, _ => exact ⟨Nat.le_trans hs.1 (by decide), Nat.le_trans hs.2 (by decide)⟩
  have lq : rlen q ≤ 5 := Nat.max_le.2 hs
  have lq2 : rlen q ≤ 1048576 := Nat.le_trans lq (by decide)
  have lz : (digs (rndR q).natAbs).length ≤ 7 := rnd_len lq
  obtain ⟨Z, hZ⟩ : ∃ Z, rndR q = Z := ⟨_, rfl⟩
  obtain ⟨X, hX⟩ : ∃ X : Rat, ((rndR q : Int) : Rat) = X := ⟨_, rfl⟩
  rw [hX] at hc
  have lx5 : rlen X ≤ 7 := int_len hX lz (by decide)
  have ld : rlen (q - X) ≤ 13 := rlen_sub lq lx5
  have la : rlen (absR (q - X)) ≤ 1048576 := by rw [rlen_abs]; exact Nat.le_trans ld (by decide)
  have ea := absR_neg (q - X)
  have ea1 : (q - X).num.natAbs = (absR (q - X)).num.natAbs := (absR_abs _).symm
  have ea2 : (q - X).den = (absR (q - X)).den := rfl
  generalize absR (q - X) = A at *
  obtain ⟨D, hD⟩ : ∃ D, q - X = D := ⟨_, rfl⟩
  rw [hD] at ea1 ea2
  obtain ⟨e1, e2⟩ := neg_parts q
  have lt5 : rlen (-q) ≤ 1048576 := by rw [rlen_neg]; exact lq2
  have ert := rndR_neg q
  obtain ⟨T, hT⟩ : ∃ T, -q = T := ⟨_, rfl⟩
  rw [hT] at e1 e2 lt5 ert
  rw [hZ] at he
  have hev : dvdB (val [2]) (val (digs Z.natAbs)) = true := by rw [val_digs]; exact decide_eq_true (Nat.dvd_of_mod_eq_zero he)
  rw [hZ] at lz hX ert
  obtain ⟨u, hu⟩ : ∃ u, pickI m 13 = u := ⟨_, rfl⟩
  obtain ⟨v, hv⟩ : ∃ v, pickI n 13 = v := ⟨_, rfl⟩
  have bu := pick_in m
  have bv := pick_in n
  rw [hu] at bu
  rw [hv] at bv
  have hz3 : ((n1 : Int) == 0) = false := by rw [beq_eq_false_iff_ne]; intro h0; exact hq (num_len0.1 (by have := g1.len; omega))
  have GK := Lib.hid gk
  have LB := Lib.hid hl
  have GB := Lib.hid hb
  have CC := Lib.hid hc
  have EA := Lib.hid ea
  have EA1 := Lib.hid ea1
  have EA2 := Lib.hid ea2
  have SD := Lib.hid hD
  have HX := Lib.hid hX
  have HZ := Lib.hid hZ
  have E1 := Lib.hid e1
  have E2 := Lib.hid e2
  have ERT := Lib.hid ert
  have HU := Lib.hid hu
  have HV := Lib.hid hv
  have EV := Lib.hid hev
  have LZ := Lib.hid lz
  have LX := Lib.hid lx5
  have LA := Lib.hid la
  have LT := Lib.hid lt5
  have LQ := Lib.hid lq2
  have LQ2 := Lib.hid lq
  have HS := Lib.hid hs
  have HMM := Lib.hid hm
  have HNN := Lib.hid hn
  have HQ := Lib.hid hq
  clear gk hl hb hc ea ea1 ea2 hD hX hZ e1 e2 ert hu hv hev lz lx5 la lt5 lq2 hs hm hn hq ld lq hT he
  go_enter Try.func5, Try.ntmps5
  have hB := Below.refl w.heap.size w
  go_wp2_with fail
  obtain ⟨w1, hW, hz0, hb, q, f⟩ := box1g w (w.heap.size) (by omega) #[.bool (neg q.num), .slice a1 n1 c1, .slice a2 n2 c2] 31
  rw [hW]
  clear hW
  have g1 := g1.past hb
  have g2 := g2.past hb
  have hB := below_later hB hb
  clear hb
  have lx : w.heap.size < w1.heap.size := by omega
  have qx0 := q 0; have qx1 := q 1; have qx2 := q 2
  simp only [List.getElem?_toArray, List.getElem?_cons_zero, List.getElem?_cons_succ] at qx0 qx1 qx2
  clear q f
  clear hz0
  with_reducible refine (awake05 _).mono ?_
  rintro e w2 ⟨rfl, hb⟩
  have g1 := g1.past hb
  have g2 := g2.past hb
  have qx0 := bq hb lx qx0; have qx1 := bq hb lx qx1; have qx2 := bq hb lx qx2
  have lx := bl hb lx
  have hB := below_later hB hb
  clear hb
  go_wp2_with fail
  obtain ⟨w3, hW, hz0, hb, q, f⟩ := box1g w2 (w2.heap.size) (by omega) #[.bool (neg q.num), .slice a1 n1 c1, .slice a2 n2 c2] 31
  rw [hW]
  clear hW
  have g1 := g1.past hb
  have g2 := g2.past hb
  have qx0 := bq hb lx qx0; have qx1 := bq hb lx qx1; have qx2 := bq hb lx qx2
  have lx := bl hb lx
  have hB := below_later hB hb
  clear hb
  have ls : w2.heap.size < w3.heap.size := by omega
  have qs0 := q 0; have qs1 := q 1; have qs2 := q 2
  simp only [List.getElem?_toArray, List.getElem?_cons_zero, List.getElem?_cons_succ] at qs0 qs1 qs2
  clear q f
  clear hz0
  with_reducible refine (long05_any _ _ _ _ _ (RatsAt.raw1 (x := ((neg q.num), (digs q.num.natAbs), (digs q.den))) ls qs0 qs1 qs2 g1 g2)).mono ?_
  rintro e w4 ⟨rfl, hb⟩
  have g1 := g1.past hb
  have g2 := g2.past hb
  have qx0 := bq hb lx qx0; have qx1 := bq hb lx qx1; have qx2 := bq hb lx qx2
  have lx := bl hb lx
  have qs0 := bq hb ls qs0; have qs1 := bq hb ls qs1; have qs2 := bq hb ls qs2
  have ls := bl hb ls
  have hB := below_later hB hb
  clear hb
  rw [LB.out]
  go_wp2_with fail
  obtain ⟨w5, hW, hz0, hb, q, f⟩ := box1g w4 (w4.heap.size) (by omega) #[.bool (neg q.num), .slice a1 n1 c1, .slice a2 n2 c2] 31
  rw [hW]
  clear hW
  have g1 := g1.past hb
  have g2 := g2.past hb
  have qx0 := bq hb lx qx0; have qx1 := bq hb lx qx1; have qx2 := bq hb lx qx2
  have lx := bl hb lx
  have hB := below_later hB hb
  clear hb
  have ls : w4.heap.size < w5.heap.size := by omega
  have qs0 := q 0; have qs1 := q 1; have qs2 := q 2
  simp only [List.getElem?_toArray, List.getElem?_cons_zero, List.getElem?_cons_succ] at qs0 qs1 qs2
  clear q f
  clear hz0
  with_reducible refine (good05_any _ _ _ _ _ (RatsAt.raw1 (x := ((neg q.num), (digs q.num.natAbs), (digs q.den))) ls qs0 qs1 qs2 g1 g2) GK.out).mono ?_
  rintro e w6 ⟨rfl, hb⟩
  have g1 := g1.past hb
  have g2 := g2.past hb
  have qx0 := bq hb lx qx0; have qx1 := bq hb lx qx1; have qx2 := bq hb lx qx2
  have lx := bl hb lx
  have qs0 := bq hb ls qs0; have qs1 := bq hb ls qs1; have qs2 := bq hb ls qs2
  have ls := bl hb ls
  have hB := below_later hB hb
  clear hb
  rw [GB.out]
  go_wp2_with fail
  with_reducible refine (pick_any m 13 _ HMM.out.1 HMM.out.2 (by decide)).mono ?_
  rintro e w' ⟨rfl, rfl⟩
  rw [HU.out]
  go_wp2_with fail
  with_reducible refine (pick_any n 13 _ HNN.out.1 HNN.out.2 (by decide)).mono ?_
  rintro e w' ⟨rfl, rfl⟩
  rw [HV.out]
  go_wp2_with fail
  with_reducible refine (round_rat2 g1 g2 LQ.out).mono ?_
  rintro e w7 ⟨ahZ, nhZ, chZ, rfl, hZ, hb⟩
  have g1 := g1.past hb
  have g2 := g2.past hb
  have qx0 := bq hb lx qx0; have qx1 := bq hb lx qx1; have qx2 := bq hb lx qx2
  have lx := bl hb lx
  have hB := below_later hB hb
  clear hb
  rw [HZ.out] at hZ ⊢
  have bZ : nhZ ≤ 7 := by rw [← hZ.len]; exact LZ.out
  go_wp2_with fail
  obtain ⟨w8, hW, hz0, hb, q, f⟩ := box1g w7 (w7.heap.size) (by omega) #[.bool (neg Z), .slice ahZ nhZ chZ] 25
  rw [hW]
  clear hW
  have g1 := g1.past hb
  have g2 := g2.past hb
  have hZ := hZ.past hb
  have qx0 := bq hb lx qx0; have qx1 := bq hb lx qx1; have qx2 := bq hb lx qx2
  have lx := bl hb lx
  have hB := below_later hB hb
  clear hb
  have ln : w7.heap.size < w8.heap.size := by omega
  have qn0 := q 0; have qn1 := q 1
  simp only [List.getElem?_toArray, List.getElem?_cons_zero, List.getElem?_cons_succ] at qn0 qn1
  clear q f
  obtain ⟨w9, hW, hz1, hb, q, f⟩ := box1g w8 (w7.heap.size + 1) (by omega) #[.int .u64 1] 51
  have h0l1 : OwnAt w9 w8.heap.size (some ⟨w7.heap.size + 1, 0, none⟩) 1 1 [1] := by rw [← hW]; exact litG _ _ _ [1] 1 (by omega) rfl rfl (by decide) (by first | decide | (simp; omega))
  rw [hW]
  clear hW
  have g1 := g1.past hb
  have g2 := g2.past hb
  have hZ := hZ.past hb
  have qx0 := bq hb lx qx0; have qx1 := bq hb lx qx1; have qx2 := bq hb lx qx2
  have lx := bl hb lx
  have qn0 := bq hb ln qn0; have qn1 := bq hb ln qn1
  have ln := bl hb ln
  have hB := below_later hB hb
  clear hb
  have l1 := h0l1
  clear h0l1
  clear q f
  clear hz0
  clear hz1
  refine (make_int HX.out hZ.toNatAt l1.toNatAt (by omega) (by decide)).mono ?_
  rintro e w10 ⟨ahXU, nhXU, chXU, ahXD, nhXD, chXD, rfl, hXU, hXD, hb⟩
  have g1 := g1.past hb
  have g2 := g2.past hb
  have hZ := hZ.past hb
  have l1 := l1.past hb
  have qx0 := bq hb lx qx0; have qx1 := bq hb lx qx1; have qx2 := bq hb lx qx2
  have lx := bl hb lx
  have qn0 := bq hb ln qn0; have qn1 := bq hb ln qn1
  have ln := bl hb ln
  have hB := below_later hB hb
  clear hb
  go_wp2_with fail
  obtain ⟨w11, hW, hz0, hb, q, f⟩ := box1g w10 (w10.heap.size) (by omega) #[.bool (neg (X).num), .slice ahXU nhXU chXU, .slice ahXD nhXD chXD] 31
  rw [hW]
  clear hW
  have g1 := g1.past hb
  have g2 := g2.past hb
  have hZ := hZ.past hb
  have hXU := hXU.past hb
  have hXD := hXD.past hb
  have qx0 := bq hb lx qx0; have qx1 := bq hb lx qx1; have qx2 := bq hb lx qx2
  have lx := bl hb lx
  have qn0 := bq hb ln qn0; have qn1 := bq hb ln qn1
  have ln := bl hb ln
  have hB := below_later hB hb
  clear hb
  have lnear : w10.heap.size < w11.heap.size := by omega
  have qnear0 := q 0; have qnear1 := q 1; have qnear2 := q 2
  simp only [List.getElem?_toArray, List.getElem?_cons_zero, List.getElem?_cons_succ] at qnear0 qnear1 qnear2
  clear q f
  clear hz0
  with_reducible refine (sub_rat g1 g2 hXU.toNatAt hXD.toNatAt LQ.out (Nat.le_trans LX.out (by decide))).mono ?_
  rintro e w12 ⟨ahDU, nhDU, chDU, ahDD, nhDD, chDD, rfl, hDU, hDD, hb⟩
  have g1 := g1.past hb
  have g2 := g2.past hb
  have hZ := hZ.past hb
  have hXU := hXU.past hb
  have hXD := hXD.past hb
  have qx0 := bq hb lx qx0; have qx1 := bq hb lx qx1; have qx2 := bq hb lx qx2
  have lx := bl hb lx
  have qn0 := bq hb ln qn0; have qn1 := bq hb ln qn1
  have ln := bl hb ln
  have qnear0 := bq hb lnear qnear0; have qnear1 := bq hb lnear qnear1; have qnear2 := bq hb lnear qnear2
  have lnear := bl hb lnear
  have hB := below_later hB hb
  clear hb
  rw [SD.out] at hDU hDD ⊢
  rw [EA1.out] at hDU
  rw [EA2.out] at hDD
  go_wp2_with fail
  obtain ⟨w13, hW, hz0, hb, q, f⟩ := box1g w12 (w12.heap.size) (by omega) #[.bool false, .slice ahDU nhDU chDU, .slice ahDD nhDD chDD] 31
  rw [hW]
  clear hW
  have g1 := g1.past hb
  have g2 := g2.past hb
  have hZ := hZ.past hb
  have hDU := hDU.past hb
  have hDD := hDD.past hb
  have qx0 := bq hb lx qx0; have qx1 := bq hb lx qx1; have qx2 := bq hb lx qx2
  have lx := bl hb lx
  have qn0 := bq hb ln qn0; have qn1 := bq hb ln qn1
  have ln := bl hb ln
  have hB := below_later hB hb
  clear hb
  have ld : w12.heap.size < w13.heap.size := by omega
  have qd0 := q 0; have qd1 := q 1; have qd2 := q 2
  simp only [List.getElem?_toArray, List.getElem?_cons_zero, List.getElem?_cons_succ] at qd0 qd1 qd2
  clear q f
  clear hz0
  go_region_held3 (fun w' => (w'.cell? ⟨w12.heap.size, 0, none⟩ = some (.bool false) ∧ w'.cell? ⟨w12.heap.size, 1, none⟩ = some (.slice ahDU nhDU chDU) ∧ w'.cell? ⟨w12.heap.size, 2, none⟩ = some (.slice ahDD nhDD chDD)) ∧ Below w13.heap.size w13 w')
    (first
      | exact ⟨⟨((Below.refl w13.heap.size w13).drew.cell (p := ⟨w12.heap.size, 0, none⟩) ld).trans qd0, ((Below.refl w13.heap.size w13).drew.cell (p := ⟨w12.heap.size, 1, none⟩) ld).trans qd1, ((Below.refl w13.heap.size w13).drew.cell (p := ⟨w12.heap.size, 2, none⟩) ld).trans qd2⟩, (Below.refl _ _).drew⟩
      | (rename _ ∧ Below w13.heap.size w13 _ => hS
         first
           | exact ⟨⟨((below_later hS.2 hbw15).cell (p := ⟨w12.heap.size, 0, none⟩) ld).trans qd0, ((below_later hS.2 hbw15).cell (p := ⟨w12.heap.size, 1, none⟩) ld).trans qd1, ((below_later hS.2 hbw15).cell (p := ⟨w12.heap.size, 2, none⟩) ld).trans qd2⟩, below_later hS.2 hbw15⟩
           | exact ⟨⟨((below_later hS.2 hbw14).cell (p := ⟨w12.heap.size, 0, none⟩) ld).trans qd0, ((below_later hS.2 hbw14).cell (p := ⟨w12.heap.size, 1, none⟩) ld).trans qd1, ((below_later hS.2 hbw14).cell (p := ⟨w12.heap.size, 2, none⟩) ld).trans qd2⟩, below_later hS.2 hbw14⟩
           | exact ⟨⟨((hS.2.drew).cell (p := ⟨w12.heap.size, 0, none⟩) ld).trans qd0, ((hS.2.drew).cell (p := ⟨w12.heap.size, 1, none⟩) ld).trans qd1, ((hS.2.drew).cell (p := ⟨w12.heap.size, 2, none⟩) ld).trans qd2⟩, hS.2.drew⟩)
      | assumption)
    (first
      | (go_at_call 28; rename _ ∧ Below w13.heap.size w13 _ => hS
         go_fit (of_half _)
         rintro e w14 ⟨ahHU, nhHU, chHU, ahHD, nhHD, chHD, rfl, hHU, hHD, hbw14⟩)
      | (go_at_call 21; rename _ ∧ Below w13.heap.size w13 _ => hS
         go_fit (cmp_abs EA.out (hDU.past hS.2).toNatAt (hDD.past hS.2).toNatAt hHU.toNatAt hHD.toNatAt LA.out (fr_short _ _ _ _ (by decide) (by decide)))
         rintro e w15 ⟨rfl, hbw15⟩
         have hHU := hHU.past hbw15
         have hHD := hHD.past hbw15
         rw [CC.out]))
  rename _ ∧ Below w13.heap.size w13 w15 => hS
  have hbR := hS.2
  have g1 := g1.past hbR
  have g2 := g2.past hbR
  have hZ := hZ.past hbR
  have hDU := hDU.past hbR
  have hDD := hDD.past hbR
  have qx0 := bq hbR lx qx0; have qx1 := bq hbR lx qx1; have qx2 := bq hbR lx qx2
  have lx := bl hbR lx
  have qn0 := bq hbR ln qn0; have qn1 := bq hbR ln qn1
  have ln := bl hbR ln
  have qd0 := bq hbR ld qd0; have qd1 := bq hbR ld qd1; have qd2 := bq hbR ld qd2
  have ld := bl hbR ld
  have hB := below_later hB hbR
  clear hS hbR
  go_wp2_with fail
  with_reducible refine (copyRatio_any _ _ _ _ (digs q.num.natAbs) _ _ _ (digs q.den) _ g1 g2 (by have := HS.out; have := g1.len; omega) (by have := HS.out; have := g2.len; omega)).mono ?_
  rintro e w16 ⟨ahCU, nhCU, chCU, ahCD, nhCD, chCD, rfl, hCU, hCD, hb⟩
  have g1 := g1.past hb
  have g2 := g2.past hb
  have hZ := hZ.past hb
  have qx0 := bq hb lx qx0; have qx1 := bq hb lx qx1; have qx2 := bq hb lx qx2
  have lx := bl hb lx
  have qn0 := bq hb ln qn0; have qn1 := bq hb ln qn1
  have ln := bl hb ln
  have hB := below_later hB hb
  clear hb
  go_wp2_with fail
  obtain ⟨w17, hW, hz0, hb, q, f⟩ := box1g w16 (w16.heap.size) (by omega) #[.bool (neg q.num), .slice ahCU nhCU chCU, .slice ahCD nhCD chCD] 31
  rw [hW]
  clear hW
  have g1 := g1.past hb
  have g2 := g2.past hb
  have hZ := hZ.past hb
  have hCU := hCU.past hb
  have hCD := hCD.past hb
  have qx0 := bq hb lx qx0; have qx1 := bq hb lx qx1; have qx2 := bq hb lx qx2
  have lx := bl hb lx
  have qn0 := bq hb ln qn0; have qn1 := bq hb ln qn1
  have ln := bl hb ln
  have hB := below_later hB hb
  clear hb
  have lt : w16.heap.size < w17.heap.size := by omega
  have qt0 := q 0; have qt1 := q 1; have qt2 := q 2
  simp only [List.getElem?_toArray, List.getElem?_cons_zero, List.getElem?_cons_succ] at qt0 qt1 qt2
  have xt : BoxAt w17 (w16.heap.size) 3 := BoxAt.of q f rfl (by simp [notU_bool, notU_slice, notU_i64])
  clear q f
  clear hz0
  with_reducible refine (sneg_c g1 (by have := HS.out; have := g1.len; omega)).mono ?_
  rintro e w18 ⟨ahN, nhN, chN, rfl, hN, hb⟩
  have g1 := g1.past hb
  have g2 := g2.past hb
  have hZ := hZ.past hb
  have hCU := hCU.past hb
  have hCD := hCD.past hb
  have qx0 := bq hb lx qx0; have qx1 := bq hb lx qx1; have qx2 := bq hb lx qx2
  have lx := bl hb lx
  have qn0 := bq hb ln qn0; have qn1 := bq hb ln qn1
  have ln := bl hb ln
  have qt0 := bq hb lt qt0; have qt1 := bq hb lt qt1; have qt2 := bq hb lt qt2
  have xt := xt.past hb lt
  have lt := bl hb lt
  have hB := below_later hB hb
  clear hb
  rw [E1.out] at hN ⊢
  rw [E2.out] at hCD
  have zf0 := xt.f 0 (by decide)
  have zf1 := xt.f 1 (by decide)
  have zf2 := xt.f 2 (by decide)
  go_wp2_with fail
  obtain ⟨w19, hW, hO, qN0, qN1, qN2, xN⟩ := part32 xt (.bool (neg T.num)) (.slice ahN nhN chN) (nu rfl) (nu rfl) qt2
  try rw [hW]
  clear hW
  have g1 := hO.nat g1
  have g2 := hO.nat g2
  have hZ := hO.own hZ
  have hCU := hO.own hCU
  have hCD := hO.own hCD
  have hN := hO.own hN
  have qx0 := (hO.cell (b2 := w.heap.size) (k := 0) (by omega)).trans qx0
  have qx1 := (hO.cell (b2 := w.heap.size) (k := 1) (by omega)).trans qx1
  have qx2 := (hO.cell (b2 := w.heap.size) (k := 2) (by omega)).trans qx2
  have lx : w.heap.size < w19.heap.size := by rw [hO.size]; exact lx
  have qn0 := (hO.cell (b2 := w7.heap.size) (k := 0) (by omega)).trans qn0
  have qn1 := (hO.cell (b2 := w7.heap.size) (k := 1) (by omega)).trans qn1
  have ln : w7.heap.size < w19.heap.size := by rw [hO.size]; exact ln
  have lt : w16.heap.size < w19.heap.size := by rw [hO.size]; exact lt
  have qt0 := qN0
  have qt1 := qN1
  have qt2 := qN2
  have xt := xN
  have hB := hO.below (by omega) hB
  clear hO qN0 qN1 qN2 xN zf0 zf1 zf2
  with_reducible refine (round_rat2 hN.toNatAt hCD.toNatAt LT.out).mono ?_
  rintro e w20 ⟨ahY, nhY, chY, rfl, hY, hb⟩
  have g1 := g1.past hb
  have g2 := g2.past hb
  have hZ := hZ.past hb
  have hCU := hCU.past hb
  have hCD := hCD.past hb
  have hN := hN.past hb
  have qx0 := bq hb lx qx0; have qx1 := bq hb lx qx1; have qx2 := bq hb lx qx2
  have lx := bl hb lx
  have qn0 := bq hb ln qn0; have qn1 := bq hb ln qn1
  have ln := bl hb ln
  have qt0 := bq hb lt qt0; have qt1 := bq hb lt qt1; have qt2 := bq hb lt qt2
  have xt := xt.past hb lt
  have lt := bl hb lt
  have hB := below_later hB hb
  clear hb
  rw [ERT.out] at hY ⊢
  go_wp2_with fail
  obtain ⟨w21, hW, hz0, hb, q, f⟩ := box1g w20 (w20.heap.size) (by omega) #[.bool (neg (-Z)), .slice ahY nhY chY] 25
  rw [hW]
  clear hW
  have g1 := g1.past hb
  have g2 := g2.past hb
  have hZ := hZ.past hb
  have hY := hY.past hb
  have qx0 := bq hb lx qx0; have qx1 := bq hb lx qx1; have qx2 := bq hb lx qx2
  have lx := bl hb lx
  have qn0 := bq hb ln qn0; have qn1 := bq hb ln qn1
  have ln := bl hb ln
  have hB := below_later hB hb
  clear hb
  have ly : w20.heap.size < w21.heap.size := by omega
  have qy0 := q 0; have qy1 := q 1
  simp only [List.getElem?_toArray, List.getElem?_cons_zero, List.getElem?_cons_succ] at qy0 qy1
  clear q f
  obtain ⟨w22, hW, hz1, hb, q, f⟩ := box1g w21 (w20.heap.size + 1) (by omega) #[.int .u64 2] 51
  have h0l2 : OwnAt w22 w21.heap.size (some ⟨w20.heap.size + 1, 0, none⟩) 1 1 [2] := by rw [← hW]; exact litG _ _ _ [2] 1 (by omega) rfl rfl (by decide) (by first | decide | (simp; omega))
  rw [hW]
  clear hW
  have g1 := g1.past hb
  have g2 := g2.past hb
  have hZ := hZ.past hb
  have hY := hY.past hb
  have qx0 := bq hb lx qx0; have qx1 := bq hb lx qx1; have qx2 := bq hb lx qx2
  have lx := bl hb lx
  have qn0 := bq hb ln qn0; have qn1 := bq hb ln qn1
  have ln := bl hb ln
  have qy0 := bq hb ly qy0; have qy1 := bq hb ly qy1
  have ly := bl hb ly
  have hB := below_later hB hb
  clear hb
  have l2 := h0l2
  clear h0l2
  clear q f
  clear hz0
  clear hz1
  refine (divides_any _ _ _ [2] _ _ _ (digs Z.natAbs) _ l2.toNatAt hZ.toNatAt (by decide) (by omega)).mono ?_
  rintro e w23 ⟨rfl, hb⟩
  have g1 := g1.past hb
  have g2 := g2.past hb
  have hZ := hZ.past hb
  have hY := hY.past hb
  have l2 := l2.past hb
  have qx0 := bq hb lx qx0; have qx1 := bq hb lx qx1; have qx2 := bq hb lx qx2
  have lx := bl hb lx
  have qn0 := bq hb ln qn0; have qn1 := bq hb ln qn1
  have ln := bl hb ln
  have qy0 := bq hb ly qy0; have qy1 := bq hb ly qy1
  have ly := bl hb ly
  have hB := below_later hB hb
  clear hb
  rw [EV.out]
  go_wp2_with fail
  go_region_held3 (fun w' => (w'.cell? ⟨w20.heap.size, 0, none⟩ = some (.bool (neg (-Z))) ∧ w'.cell? ⟨w20.heap.size, 1, none⟩ = some (.slice ahY nhY chY) ∧ w'.cell? ⟨w7.heap.size, 0, none⟩ = some (.bool (neg Z)) ∧ w'.cell? ⟨w7.heap.size, 1, none⟩ = some (.slice ahZ nhZ chZ)) ∧ Below w23.heap.size w23 w')
    (first
      | exact ⟨⟨((Below.refl w23.heap.size w23).drew.cell (p := ⟨w20.heap.size, 0, none⟩) ly).trans qy0, ((Below.refl w23.heap.size w23).drew.cell (p := ⟨w20.heap.size, 1, none⟩) ly).trans qy1, ((Below.refl w23.heap.size w23).drew.cell (p := ⟨w7.heap.size, 0, none⟩) ln).trans qn0, ((Below.refl w23.heap.size w23).drew.cell (p := ⟨w7.heap.size, 1, none⟩) ln).trans qn1⟩, (Below.refl _ _).drew⟩
      | (rename _ ∧ Below w23.heap.size w23 _ => hS
         first
           | exact ⟨⟨((below_later hS.2 hbw25).cell (p := ⟨w20.heap.size, 0, none⟩) ly).trans qy0, ((below_later hS.2 hbw25).cell (p := ⟨w20.heap.size, 1, none⟩) ly).trans qy1, ((below_later hS.2 hbw25).cell (p := ⟨w7.heap.size, 0, none⟩) ln).trans qn0, ((below_later hS.2 hbw25).cell (p := ⟨w7.heap.size, 1, none⟩) ln).trans qn1⟩, below_later hS.2 hbw25⟩
           | exact ⟨⟨((below_later hS.2 hbw24).cell (p := ⟨w20.heap.size, 0, none⟩) ly).trans qy0, ((below_later hS.2 hbw24).cell (p := ⟨w20.heap.size, 1, none⟩) ly).trans qy1, ((below_later hS.2 hbw24).cell (p := ⟨w7.heap.size, 0, none⟩) ln).trans qn0, ((below_later hS.2 hbw24).cell (p := ⟨w7.heap.size, 1, none⟩) ln).trans qn1⟩, below_later hS.2 hbw24⟩
           | exact ⟨⟨((hS.2.drew).cell (p := ⟨w20.heap.size, 0, none⟩) ly).trans qy0, ((hS.2.drew).cell (p := ⟨w20.heap.size, 1, none⟩) ly).trans qy1, ((hS.2.drew).cell (p := ⟨w7.heap.size, 0, none⟩) ln).trans qn0, ((hS.2.drew).cell (p := ⟨w7.heap.size, 1, none⟩) ln).trans qn1⟩, hS.2.drew⟩)
      | assumption)
    (first
      | (go_at_call 30; rename _ ∧ Below w23.heap.size w23 _ => hS
         go_fit (sneg_c (hZ.past hS.2).toNatAt (by omega))
         rintro e w24 ⟨ahW, nhW, chW, rfl, hW, hbw24⟩)
      | (go_at_call 17; rename _ ∧ Below w23.heap.size w23 _ => hS
         go_fit (sameWhole_yes (hY.past hS.2).toNatAt hW.toNatAt)
         rintro e w25 ⟨rfl, hbw25⟩
         have hW := hW.past hbw25))
  rename _ ∧ Below w23.heap.size w23 w25 => hS
  have hbR := hS.2
  have g1 := g1.past hbR
  have g2 := g2.past hbR
  have hZ := hZ.past hbR
  have hY := hY.past hbR
  have qx0 := bq hbR lx qx0; have qx1 := bq hbR lx qx1; have qx2 := bq hbR lx qx2
  have lx := bl hbR lx
  have qn0 := bq hbR ln qn0; have qn1 := bq hbR ln qn1
  have ln := bl hbR ln
  have qy0 := bq hbR ly qy0; have qy1 := bq hbR ly qy1
  have ly := bl hbR ly
  have hB := below_later hB hbR
  clear hS hbR
  go_wp2_with fail
  with_reducible refine (pow_rat2 g1 g2 LQ.out (by omega) (by omega) (.inr HQ.out)).mono ?_
  rintro e w26 ⟨ahPU, nhPU, chPU, ahPD, nhPD, chPD, rfl, hPU, hPD, hb⟩
  have g1 := g1.past hb
  have g2 := g2.past hb
  have qx0 := bq hb lx qx0; have qx1 := bq hb lx qx1; have qx2 := bq hb lx qx2
  have lx := bl hb lx
  have hB := below_later hB hb
  clear hb
  go_wp2_with fail
  obtain ⟨w27, hW, hz0, hb, q, f⟩ := box1g w26 (w26.heap.size) (by omega) #[.bool (neg (q ^ (u - 6)).num), .slice ahPU nhPU chPU, .slice ahPD nhPD chPD] 31
  rw [hW]
  clear hW
  have g1 := g1.past hb
  have g2 := g2.past hb
  have hPU := hPU.past hb
  have hPD := hPD.past hb
  have qx0 := bq hb lx qx0; have qx1 := bq hb lx qx1; have qx2 := bq hb lx qx2
  have lx := bl hb lx
  have hB := below_later hB hb
  clear hb
  have la : w26.heap.size < w27.heap.size := by omega
  have qa0 := q 0; have qa1 := q 1; have qa2 := q 2
  simp only [List.getElem?_toArray, List.getElem?_cons_zero, List.getElem?_cons_succ] at qa0 qa1 qa2
  clear q f
  clear hz0
  with_reducible refine (pow_rat2 g1 g2 LQ.out (by omega) (by omega) (.inr HQ.out)).mono ?_
  rintro e w28 ⟨ahOU, nhOU, chOU, ahOD, nhOD, chOD, rfl, hOU, hOD, hb⟩
  have g1 := g1.past hb
  have g2 := g2.past hb
  have hPU := hPU.past hb
  have hPD := hPD.past hb
  have qx0 := bq hb lx qx0; have qx1 := bq hb lx qx1; have qx2 := bq hb lx qx2
  have lx := bl hb lx
  have qa0 := bq hb la qa0; have qa1 := bq hb la qa1; have qa2 := bq hb la qa2
  have la := bl hb la
  have hB := below_later hB hb
  clear hb
  go_wp2_with fail
  obtain ⟨w29, hW, hz0, hb, q, f⟩ := box1g w28 (w28.heap.size) (by omega) #[.bool (neg (q ^ (v - 6)).num), .slice ahOU nhOU chOU, .slice ahOD nhOD chOD] 31
  rw [hW]
  clear hW
  have g1 := g1.past hb
  have g2 := g2.past hb
  have hPU := hPU.past hb
  have hPD := hPD.past hb
  have hOU := hOU.past hb
  have hOD := hOD.past hb
  have qx0 := bq hb lx qx0; have qx1 := bq hb lx qx1; have qx2 := bq hb lx qx2
  have lx := bl hb lx
  have qa0 := bq hb la qa0; have qa1 := bq hb la qa1; have qa2 := bq hb la qa2
  have la := bl hb la
  have hB := below_later hB hb
  clear hb
  have lb : w28.heap.size < w29.heap.size := by omega
  have qb0 := q 0; have qb1 := q 1; have qb2 := q 2
  simp only [List.getElem?_toArray, List.getElem?_cons_zero, List.getElem?_cons_succ] at qb0 qb1 qb2
  clear q f
  clear hz0
  with_reducible refine (pow_rat2 g1 g2 LQ.out (by omega) (by omega) (.inr HQ.out)).mono ?_
  rintro e w30 ⟨ahSU, nhSU, chSU, ahSD, nhSD, chSD, rfl, hSU, hSD, hb⟩
  have g1 := g1.past hb
  have g2 := g2.past hb
  have hPU := hPU.past hb
  have hPD := hPD.past hb
  have hOU := hOU.past hb
  have hOD := hOD.past hb
  have qx0 := bq hb lx qx0; have qx1 := bq hb lx qx1; have qx2 := bq hb lx qx2
  have lx := bl hb lx
  have qa0 := bq hb la qa0; have qa1 := bq hb la qa1; have qa2 := bq hb la qa2
  have la := bl hb la
  have qb0 := bq hb lb qb0; have qb1 := bq hb lb qb1; have qb2 := bq hb lb qb2
  have lb := bl hb lb
  have hB := below_later hB hb
  clear hb
  skip
  go_wp2_with fail
  obtain ⟨w31, hW, hz0, hb, q, f⟩ := box1g w30 (w30.heap.size) (by omega) #[.bool (neg (q ^ (u - 6 + (v - 6))).num), .slice ahSU nhSU chSU, .slice ahSD nhSD chSD] 31
  rw [hW]
  clear hW
  have g1 := g1.past hb
  have g2 := g2.past hb
  have hPU := hPU.past hb
  have hPD := hPD.past hb
  have hOU := hOU.past hb
  have hOD := hOD.past hb
  have hSU := hSU.past hb
  have hSD := hSD.past hb
  have qx0 := bq hb lx qx0; have qx1 := bq hb lx qx1; have qx2 := bq hb lx qx2
  have lx := bl hb lx
  have qa0 := bq hb la qa0; have qa1 := bq hb la qa1; have qa2 := bq hb la qa2
  have la := bl hb la
  have qb0 := bq hb lb qb0; have qb1 := bq hb lb qb1; have qb2 := bq hb lb qb2
  have lb := bl hb lb
  have hB := below_later hB hb
  clear hb
  have lc : w30.heap.size < w31.heap.size := by omega
  have qc0 := q 0; have qc1 := q 1; have qc2 := q 2
  simp only [List.getElem?_toArray, List.getElem?_cons_zero, List.getElem?_cons_succ] at qc0 qc1 qc2
  clear q f
  obtain ⟨w32, hW, hz1, hb, q, f⟩ := box1g w31 (w30.heap.size + 1) (by omega) #[.bool (neg (q ^ (u - 6)).num), .slice ahPU nhPU chPU, .slice ahPD nhPD chPD, .bool (neg (q ^ (v - 6)).num), .slice ahOU nhOU chOU, .slice ahOD nhOD chOD] 31
  rw [hW]
  clear hW
  have g1 := g1.past hb
  have g2 := g2.past hb
  have hPU := hPU.past hb
  have hPD := hPD.past hb
  have hOU := hOU.past hb
  have hOD := hOD.past hb
  have hSU := hSU.past hb
  have hSD := hSD.past hb
  have qx0 := bq hb lx qx0; have qx1 := bq hb lx qx1; have qx2 := bq hb lx qx2
  have lx := bl hb lx
  have qa0 := bq hb la qa0; have qa1 := bq hb la qa1; have qa2 := bq hb la qa2
  have la := bl hb la
  have qb0 := bq hb lb qb0; have qb1 := bq hb lb qb1; have qb2 := bq hb lb qb2
  have lb := bl hb lb
  have qc0 := bq hb lc qc0; have qc1 := bq hb lc qc1; have qc2 := bq hb lc qc2
  have lc := bl hb lc
  have hB := below_later hB hb
  clear hb
  have ls : w30.heap.size + 1 < w32.heap.size := by omega
  have qs0 := q 0; have qs1 := q 1; have qs2 := q 2; have qs3 := q 3; have qs4 := q 4; have qs5 := q 5
  simp only [List.getElem?_toArray, List.getElem?_cons_zero, List.getElem?_cons_succ] at qs0 qs1 qs2 qs3 qs4 qs5
  clear q f
  clear hz0
  clear hz1
  with_reducible refine (mul_two (RatsAt.two ls qs0 qs1 qs2 qs3 qs4 qs5 hPU.toNatAt hPD.toNatAt hOU.toNatAt hOD.toNatAt) (zpow_short LQ2.out (by omega) (by omega)) (zpow_short LQ2.out (by omega) (by omega))).mono ?_
  rintro e w33 ⟨ahMU, nhMU, chMU, ahMD, nhMD, chMD, rfl, hMU, hMD, hb⟩
  have g1 := g1.past hb
  have g2 := g2.past hb
  have hPU := hPU.past hb
  have hPD := hPD.past hb
  have hOU := hOU.past hb
  have hOD := hOD.past hb
  have hSU := hSU.past hb
  have hSD := hSD.past hb
  have qx0 := bq hb lx qx0; have qx1 := bq hb lx qx1; have qx2 := bq hb lx qx2
  have lx := bl hb lx
  have qa0 := bq hb la qa0; have qa1 := bq hb la qa1; have qa2 := bq hb la qa2
  have la := bl hb la
  have qb0 := bq hb lb qb0; have qb1 := bq hb lb qb1; have qb2 := bq hb lb qb2
  have lb := bl hb lb
  have qc0 := bq hb lc qc0; have qc1 := bq hb lc qc1; have qc2 := bq hb lc qc2
  have lc := bl hb lc
  have qs0 := bq hb ls qs0; have qs1 := bq hb ls qs1; have qs2 := bq hb ls qs2; have qs3 := bq hb ls qs3; have qs4 := bq hb ls qs4; have qs5 := bq hb ls qs5
  have ls := bl hb ls
  have hB := below_later hB hb
  clear hb
  rw [← Rat.zpow_add HQ.out] at hMU hMD ⊢
  go_wp2_with fail
  obtain ⟨w34, hW, hz0, hb, q, f⟩ := box1g w33 (w33.heap.size) (by omega) #[.bool (neg (q ^ (u - 6 + (v - 6))).num), .slice ahMU nhMU chMU, .slice ahMD nhMD chMD] 31
  rw [hW]
  clear hW
  have g1 := g1.past hb
  have g2 := g2.past hb
  have hPU := hPU.past hb
  have hPD := hPD.past hb
  have hOU := hOU.past hb
  have hOD := hOD.past hb
  have hSU := hSU.past hb
  have hSD := hSD.past hb
  have hMU := hMU.past hb
  have hMD := hMD.past hb
  have qx0 := bq hb lx qx0; have qx1 := bq hb lx qx1; have qx2 := bq hb lx qx2
  have lx := bl hb lx
  have qa0 := bq hb la qa0; have qa1 := bq hb la qa1; have qa2 := bq hb la qa2
  have la := bl hb la
  have qb0 := bq hb lb qb0; have qb1 := bq hb lb qb1; have qb2 := bq hb lb qb2
  have lb := bl hb lb
  have qc0 := bq hb lc qc0; have qc1 := bq hb lc qc1; have qc2 := bq hb lc qc2
  have lc := bl hb lc
  have hB := below_later hB hb
  clear hb
  have lo : w33.heap.size < w34.heap.size := by omega
  have qo0 := q 0; have qo1 := q 1; have qo2 := q 2
  simp only [List.getElem?_toArray, List.getElem?_cons_zero, List.getElem?_cons_succ] at qo0 qo1 qo2
  clear q f
  clear hz0
  with_reducible refine (same05_yes hMU.toNatAt hMD.toNatAt hSU.toNatAt hSD.toNatAt (zpow_short LQ2.out (by omega) (by omega))).mono ?_
  rintro e w35 ⟨rfl, hb⟩
  have g1 := g1.past hb
  have g2 := g2.past hb
  have hPU := hPU.past hb
  have hPD := hPD.past hb
  have hOU := hOU.past hb
  have hOD := hOD.past hb
  have hSU := hSU.past hb
  have hSD := hSD.past hb
  have hMU := hMU.past hb
  have hMD := hMD.past hb
  have qx0 := bq hb lx qx0; have qx1 := bq hb lx qx1; have qx2 := bq hb lx qx2
  have lx := bl hb lx
  have qa0 := bq hb la qa0; have qa1 := bq hb la qa1; have qa2 := bq hb la qa2
  have la := bl hb la
  have qb0 := bq hb lb qb0; have qb1 := bq hb lb qb1; have qb2 := bq hb lb qb2
  have lb := bl hb lb
  have qc0 := bq hb lc qc0; have qc1 := bq hb lc qc1; have qc2 := bq hb lc qc2
  have lc := bl hb lc
  have qo0 := bq hb lo qo0; have qo1 := bq hb lo qo1; have qo2 := bq hb lo qo2
  have lo := bl hb lo
  have hB := below_later hB hb
  clear hb
  go_wp2
  go_ret
  exact ⟨rfl, hB⟩

theorem ratioRounds_any {b1 : Bool} {l1 l2 : List Nat} {a1 : Option Addr} {n1 c1 : Nat} {a2 : Option Addr} {n2 c2 : Nat} (m n : Int) {w : World} (g1 : NatAt w a1 n1 c1 l1) (g2 : NatAt w a2 n2 c2 l2) (hm : -9223372036854775808 ≤ m ∧ m ≤ 9223372036854775807) (hn : -9223372036854775808 ≤ n ∧ n ≤ 9223372036854775807) :
    Calls Try.prog 5 #[.agg #[.bool b1, .slice a1 n1 c1, .slice a2 n2 c2], .int .i64 m, .int .i64 n] w (RetVal w (.bool true)) := by
  cases hl : longP (b1, l1, l2)
  · have hs := longP_no.1 hl
    by_cases hb : chk3 (b1, l1, l2) = 0
    · obtain ⟨q, rfl, rfl, rfl⟩ := chkR_rat g1.dig g2.dig hb
      rcases rnd_near q with hc | ⟨hc, he⟩
      · exact ratioRounds_lt m n g1 g2 hs hm hn hl hc
      · have hq : q ≠ 0 := by
          rintro rfl
          rw [show (absR ((0 : Rat) - (rndR 0 : Rat)) - fr 1 2).num.sign = -1 by decide +kernel] at hc
          exact absurd hc (by decide)
        exact ratioRounds_eq m n g1 g2 hs hm hn hl hq hc he
    · exact ratioRounds_bad m n g1 g2 hs hl hb
  · exact ratioRounds_long m n g1 g2 hl

end Go.Proofs.Ytmhjhhcdjecdbaa
