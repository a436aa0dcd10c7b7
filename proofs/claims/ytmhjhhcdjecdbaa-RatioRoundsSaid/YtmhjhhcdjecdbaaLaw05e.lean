/- the laws of ratio: long, good, same. -/
import Derived.Test.YtmhjhhcdjecdbaaLaw05p
import Derived.Test.YtmhjhhcdjecdbaaRaw
set_option linter.unusedVariables false
set_option linter.unusedSimpArgs false
namespace Go.Proofs.Ytmhjhhcdjecdbaa
open Go.RowKit

theorem rlen_add {p q : Rat} {a b : Nat} (h1 : rlen p ≤ a) (h2 : rlen q ≤ b) : rlen (p + q) ≤ a + b + 1 := by
  have : rlen (p + q) ≤ rlen p + rlen q + 1 := sum_short p q
  omega
theorem rlen_mul {p q : Rat} {a b : Nat} (h1 : rlen p ≤ a) (h2 : rlen q ≤ b) : rlen (p * q) ≤ a + b + 1 := by
  have : rlen (p * q) ≤ rlen p + rlen q + 1 := product_short p q
  omega
theorem rlen_sub {p q : Rat} {a b : Nat} (h1 : rlen p ≤ a) (h2 : rlen q ≤ b) : rlen (p - q) ≤ a + b + 1 := by
  rw [Rat.sub_eq_add_neg]
  exact rlen_add h1 (by rw [rlen_neg]; exact h2)
theorem rlen_up {q : Rat} {a : Nat} (h : rlen q ≤ a) : (digs q.num.natAbs).length ≤ a := Nat.le_trans (Nat.le_max_left _ _) h
/-- are parts longer than are gone through? -/
def longP (x : Bool × List Nat × List Nat) : Bool := decide ((5 : Int) < (x.2.1.length : Int)) || decide ((5 : Int) < (x.2.2.length : Int))
theorem longP_no {x : Bool × List Nat × List Nat} : longP x = false ↔ x.2.1.length ≤ 5 ∧ x.2.2.length ≤ 5 := by
  unfold longP
  rw [Bool.or_eq_false_iff, decide_eq_false_iff_not, decide_eq_false_iff_not]
  omega
def longB (f : Nat → Bool × List Nat × List Nat) (n : Nat) : Bool := (List.range (min n 7)).any (fun i => longP (f i)) || decide ((6 : Int) < (n : Int))
theorem longB_yes {f : Nat → Bool × List Nat × List Nat} {n k : Nat} (h : k < n) (h7 : k < 7) (hl : longP (f k) = true) : longB f n = true := by
  unfold longB
  rw [Bool.or_eq_true]
  refine .inl (List.any_eq_true.2 ⟨k, ?_, hl⟩)
  rw [List.mem_range]; omega
theorem longB_no {f : Nat → Bool × List Nat × List Nat} {n : Nat} (h : ∀ i, i < min n 7 → longP (f i) = false) : longB f n = decide ((6 : Int) < (n : Int)) := by
  unfold longB
  rw [List.any_eq_false.2 fun i hi => by rw [List.mem_range] at hi; simp [h i hi], Bool.false_or]
theorem longB3 (x y z : Bool × List Nat × List Nat) : longB (rawF [x, y, z]) 3 = (longP x || (longP y || longP z)) := by
  show ((longP x || (longP y || (longP z || false))) || decide ((6 : Int) < ((3 : Nat) : Int))) = _
  rw [show decide ((6 : Int) < ((3 : Nat) : Int)) = false from rfl, Bool.or_false, Bool.or_false]
theorem longB1 (x : Bool × List Nat × List Nat) : longB (rawF [x]) 1 = longP x := by
  show ((longP x || false) || decide ((6 : Int) < ((1 : Nat) : Int))) = _
  rw [show decide ((6 : Int) < ((1 : Nat) : Int)) = false from rfl, Bool.or_false, Bool.or_false]

set_option maxRecDepth 100000 in
set_option maxHeartbeats 4000000 in
theorem long05_any (ar : Option Addr) (nr cr : Nat) (f : Nat → Bool × List Nat × List Nat) (w : World) (gr : RatsAt w ar nr cr f)  :
    Calls Try.prog 19 #[.slice ar nr cr] w (RetVal w (.bool (longB f nr))) := by
  have hcr := gr.cle
  have hnr := gr.le
  have hm : nr ≤ 9223372036854775807 := by unfold maxLen at hcr; omega
  go_enter Try.func19, Try.ntmps19
  have hB := Below.refl w.heap.size w
  go_wp2_with fail
  go_loopw [3] (fun i wr => ∃ (k : Nat), k ≤ nr ∧ k ≤ 7 ∧ i = .int .i64 ((k : Nat) : Int) ∧ Hid (∀ j, j < k → longP (f j) = false) ∧ Below w.heap.size w wr) (fun i _ => nr - (intOf i).toNat)
  case atStart => exact ⟨0, Nat.zero_le _, (Nat.zero_le _), rfl, Lib.hid (fun j hj => by omega), hB⟩
  case round =>
    obtain ⟨k, hk, hk7, rfl, HK, hB⟩ := hrel
    by_cases hlt : k < nr ∧ k < 7
    · rcases gr.cell with h0 | ⟨b, o, rfl, hbl, hc⟩
      · omega
      obtain ⟨a5, n5, c5, a6, n6, c6, q1, q2, q3, h5, h6⟩ := hc k (by omega)
      have q1 := (hB.cell (p := ⟨b, _, none⟩) hbl).trans q1
      have q2 := (hB.cell (p := ⟨b, _, none⟩) hbl).trans q2
      have q3 := (hB.cell (p := ⟨b, _, none⟩) hbl).trans q3
      have h5 := h5.past hB
      have h6 := h6.past hB
      clear hc gr
      obtain ⟨hlt, hlt7⟩ := hlt
      have hc5 := Nat.le_trans h5.le h5.cle
      have hc6 := Nat.le_trans h6.le h6.cle
      have hlp : longP (f k) = (decide ((5 : Int) < (n5 : Int)) || decide ((5 : Int) < (n6 : Int))) := by unfold longP; rw [h5.len, h6.len]
      by_cases hL : longP (f k) = true
      · have EE := Lib.hid (longB_yes hlt hlt7 hL)
        rw [hlp] at hL
        have HL := Lib.hid hL
        clear hL hlp
        go_wp2_with fail
        with_reducible refine (longRatio_any _ _ _ _ _ _ _ 5 _ hc5 hc6).mono ?_
        rintro e w1 ⟨rfl, hb⟩
        have h5 := h5.past hb
        have h6 := h6.past hb
        have hB := below_later hB hb
        clear hb
        rw [HL.out]
        go_wp2
        go_ret
        exact ⟨by rw [EE.out]; rfl, hB⟩
      · have hL := Bool.eq_false_iff.2 hL
        have hL2 := hL
        rw [hlp] at hL
        have HL := Lib.hid hL
        have HL2 := Lib.hid hL2
        clear hL hL2 hlp
        go_wp2_with fail
        with_reducible refine (longRatio_any _ _ _ _ _ _ _ 5 _ hc5 hc6).mono ?_
        rintro e w1 ⟨rfl, hb⟩
        have h5 := h5.past hb
        have h6 := h6.past hb
        have hB := below_later hB hb
        clear hb
        rw [HL.out]
        go_wp2
        go_roundw
        case rel => exact ⟨k + 1, by omega, by omega, by go_num, Lib.hid (fun j hj => by
          by_cases hjk : j = k
          · subst hjk; exact HL2.out
          · exact HK.out j (by omega)), hB⟩
        case measure => simp [intOf]; omega
    · have e : longB f nr = decide ((6 : Int) < (nr : Int)) := longB_no fun i hi => HK.out i (by omega)
      have EE := Lib.hid e
      clear e gr
      by_cases h6 : k < nr
      · obtain rfl : k = 7 := by omega
        go_wp2
        go_ret
        exact ⟨by rw [EE.out]; rfl, hB⟩
      · obtain rfl : k = nr := by omega
        go_wp2
        go_ret
        exact ⟨by rw [EE.out]; rfl, hB⟩

set_option maxRecDepth 100000 in
set_option maxHeartbeats 4000000 in
theorem good05_any (ar : Option Addr) (nr cr : Nat) (f : Nat → Bool × List Nat × List Nat) (w : World) (gr : RatsAt w ar nr cr f) (hk : ∀ i, i < nr → (f i).2.1.length ≤ 68719476736 ∧ (f i).2.2.length ≤ 68719476736) :
    Calls Try.prog 20 #[.slice ar nr cr] w (RetVal w (.bool (allR f nr))) := by
  have hcr := gr.cle
  have hnr := gr.le
  have hm : nr ≤ 9223372036854775807 := by unfold maxLen at hcr; omega
  go_enter Try.func20, Try.ntmps20
  have hB := Below.refl w.heap.size w
  go_wp2_with fail
  go_loopw [3] (fun i wr => ∃ (k : Nat), k ≤ nr ∧ i = .int .i64 ((k : Nat) : Int) ∧ Hid (∀ j, j < k → chk3 (f j) = 0) ∧ Below w.heap.size w wr) (fun i _ => nr - (intOf i).toNat)
  case atStart => exact ⟨0, Nat.zero_le _, rfl, Lib.hid (fun j hj => by omega), hB⟩
  case round =>
    obtain ⟨k, hkk, rfl, HK, hB⟩ := hrel
    by_cases hlt : k < nr
    · rcases gr.cell with h0 | ⟨b, o, rfl, hbl, hc⟩
      · omega
      obtain ⟨a5, n5, c5, a6, n6, c6, q1, q2, q3, h5, h6⟩ := hc k (by omega)
      have q1 := (hB.cell (p := ⟨b, _, none⟩) hbl).trans q1
      have q2 := (hB.cell (p := ⟨b, _, none⟩) hbl).trans q2
      have q3 := (hB.cell (p := ⟨b, _, none⟩) hbl).trans q3
      have h5 := h5.past hB
      have h6 := h6.past hB
      clear hc gr
      have b5 : n5 ≤ 68719476736 := by have := (hk k hlt).1; have := h5.len; omega
      have b6 : n6 ≤ 68719476736 := by have := (hk k hlt).2; have := h6.len; omega
      clear hk
      by_cases hz : chk3 (f k) = 0
      · have HZ := Lib.hid (show chkR (f k).1 (f k).2.1 (f k).2.2 = 0 from hz)
        clear hz
        go_wp2_with fail
        with_reducible refine (check05_any (f k).1 _ _ _ (f k).2.1 _ _ _ (f k).2.2 _ h5 h6 b5 b6).mono ?_
        rintro e w1 ⟨rfl, hb⟩
        have h5 := h5.past hb
        have h6 := h6.past hb
        have hB := below_later hB hb
        clear hb
        rw [HZ.out]
        go_wp2
        go_roundw
        case rel => exact ⟨k + 1, by omega, by go_num, Lib.hid (fun j hj => by
          by_cases hjk : j = k
          · subst hjk; exact HZ.out
          · exact HK.out j (by omega)), hB⟩
        case measure => simp [intOf]; omega
      · have HZ := Lib.hid (show chkR (f k).1 (f k).2.1 (f k).2.2 = 6 from chkR_no hz)
        have EE := Lib.hid (allR_not hlt hz)
        clear hz
        go_wp2_with fail
        with_reducible refine (check05_any (f k).1 _ _ _ (f k).2.1 _ _ _ (f k).2.2 _ h5 h6 b5 b6).mono ?_
        rintro e w1 ⟨rfl, hb⟩
        have h5 := h5.past hb
        have h6 := h6.past hb
        have hB := below_later hB hb
        clear hb
        rw [HZ.out]
        go_wp2
        go_ret
        exact ⟨by rw [EE.out]; rfl, hB⟩
    · obtain rfl : k = nr := by omega
      have EE := Lib.hid (allR_iff.2 HK.out)
      clear gr
      go_wp2
      go_ret
      exact ⟨by rw [EE.out]; rfl, hB⟩

set_option maxRecDepth 100000 in
set_option maxHeartbeats 4000000 in
theorem same05_yes {q : Rat} {a1 : Option Addr} {n1 c1 : Nat} {a2 : Option Addr} {n2 c2 : Nat} {a3 : Option Addr} {n3 c3 : Nat} {a4 : Option Addr} {n4 c4 : Nat} {w : World} (g1 : NatAt w a1 n1 c1 (digs q.num.natAbs)) (g2 : NatAt w a2 n2 c2 (digs q.den)) (g3 : NatAt w a3 n3 c3 (digs q.num.natAbs)) (g4 : NatAt w a4 n4 c4 (digs q.den)) (hq : rlen q ≤ 1048576) :
    Calls Try.prog 34 #[.agg #[.bool (neg q.num), .slice a1 n1 c1, .slice a2 n2 c2], .int .i64 0, .agg #[.bool (neg q.num), .slice a3 n3 c3, .slice a4 n4 c4], .int .i64 0] w (RetVal w (.bool true)) := by
  have HE := Lib.hid (eqR_same (neg q.num) (digs q.num.natAbs) (digs q.den))
  have HC := Lib.hid (chkR_canon q)
  unfold rlen at hq
  have b1 : n1 ≤ 1048576 := by have := g1.len; omega
  have b2 : n2 ≤ 1048576 := by have := g2.len; omega
  go_enter Try.func34, Try.ntmps34
  have hB := Below.refl w.heap.size w
  go_wp2_with fail
  obtain ⟨w1, hW, hz0, hb, q, f⟩ := box1g w (w.heap.size) (by omega) #[.bool (neg q.num), .slice a1 n1 c1, .slice a2 n2 c2] 31
  rw [hW]
  clear hW
  have g1 := g1.past hb
  have g2 := g2.past hb
  have g3 := g3.past hb
  have g4 := g4.past hb
  have hB := below_later hB hb
  clear hb
  have lx : w.heap.size < w1.heap.size := by omega
  have qx0 := q 0; have qx1 := q 1; have qx2 := q 2
  simp only [List.getElem?_toArray, List.getElem?_cons_zero, List.getElem?_cons_succ] at qx0 qx1 qx2
  clear q f
  obtain ⟨w2, hW, hz1, hb, q, f⟩ := box1g w1 (w.heap.size + 1) (by omega) #[.bool (neg q.num), .slice a3 n3 c3, .slice a4 n4 c4] 31
  rw [hW]
  clear hW
  have g1 := g1.past hb
  have g2 := g2.past hb
  have g3 := g3.past hb
  have g4 := g4.past hb
  have qx0 := bq hb lx qx0; have qx1 := bq hb lx qx1; have qx2 := bq hb lx qx2
  have lx := bl hb lx
  have hB := below_later hB hb
  clear hb
  have ly : w.heap.size + 1 < w2.heap.size := by omega
  have qy0 := q 0; have qy1 := q 1; have qy2 := q 2
  simp only [List.getElem?_toArray, List.getElem?_cons_zero, List.getElem?_cons_succ] at qy0 qy1 qy2
  clear q f
  clear hz0
  clear hz1
  with_reducible refine (sameRatio_any _ _ _ _ (digs q.num.natAbs) _ _ _ (digs q.den) _ _ _ _ (digs q.num.natAbs) _ _ _ (digs q.den) _ g1 g2 g3 g4).mono ?_
  rintro e w3 ⟨rfl, hb⟩
  have g1 := g1.past hb
  have g2 := g2.past hb
  have g3 := g3.past hb
  have g4 := g4.past hb
  have qx0 := bq hb lx qx0; have qx1 := bq hb lx qx1; have qx2 := bq hb lx qx2
  have lx := bl hb lx
  have qy0 := bq hb ly qy0; have qy1 := bq hb ly qy1; have qy2 := bq hb ly qy2
  have ly := bl hb ly
  have hB := below_later hB hb
  clear hb
  rw [HE.out]
  go_wp2_with fail
  with_reducible refine (check05_any _ _ _ _ (digs q.num.natAbs) _ _ _ (digs q.den) _ g1 g2 (by omega) (by omega)).mono ?_
  rintro e w4 ⟨rfl, hb⟩
  have g1 := g1.past hb
  have g2 := g2.past hb
  have g3 := g3.past hb
  have g4 := g4.past hb
  have qx0 := bq hb lx qx0; have qx1 := bq hb lx qx1; have qx2 := bq hb lx qx2
  have lx := bl hb lx
  have qy0 := bq hb ly qy0; have qy1 := bq hb ly qy1; have qy2 := bq hb ly qy2
  have ly := bl hb ly
  have hB := below_later hB hb
  clear hb
  rw [HC.out]
  go_wp2
  go_ret
  exact ⟨rfl, hB⟩

end Go.Proofs.Ytmhjhhcdjecdbaa
