import Derived.Test.YtoecndogaklngaaDoorS0Ds
import Derived.Test.YtoecndogaklngaaDoorLaw06dDs
import Derived.Test.YtoecndogaklngaaDoorRatio2Ds
set_option linter.unusedVariables false
set_option linter.unusedSimpArgs false
namespace Go.Proofs.YtoecndogaklngaaDoor
open Go.RowKit
theorem decB_bound {l : List Nat} (hl : Dig l) (h : l.length ≤ 20) : (decB (val l)).length ≤ 1000 := by
 have h1 := digL_limbs hl
 rw [decB_len]
 unfold decL
 split
 · decide
 · omega
theorem textP_bound {b : Bool} {l l2 : List Nat} (hl : Dig l) (hl2 : Dig l2) (h : l.length ≤ 20) (h2 : l2.length ≤ 20) : (textP b (val l) (val l2)).length ≤ 10000 := by
 have h3 := decB_bound hl h
 have h4 := decB_bound hl2 h2
 unfold textP
 cases b <;> by_cases e : val l2 = 1 <;> simp [e] <;> omega
theorem text_back {b : Bool} {l l2 : List Nat} (hl : Dig l) (hl2 : Dig l2) (h : l.length ≤ 20) (h2 : l2.length ≤ 20) (hc : chkR b l l2 = 0) :
 (textB b (val l) (val l2)).size ≤ 9223372036854775807 ∧ readR (textB b (val l) (val l2)).data.toList = (b, val l, val l2) ∧ readE (textB b (val l) (val l2)).data.toList = 0 ∧ readA (textB b (val l) (val l2)).data.toList = 0 ∧ digs (val l) = l ∧ digs (val l2) = l2 := by
 have hb := textP_bound (b := b) hl hl2 h h2
 obtain ⟨q, e1, e2, e3⟩ := chkR_rat hl hl2 hc
 have v1 : val l = q.num.natAbs := by rw [e2, val_digs]
 have v2 : val l2 = q.den := by rw [e3, val_digs]
 have hr := read_text (b := b) (u := val l) (d := val l2) (by rw [v2]; exact q.den_nz) (by rw [v1, v2]; exact q.reduced) (by
  intro e
  rw [e1] at e
  unfold neg at e
  simp at e
  rw [v1]
  omega) hb
 have hE : readE (textP b (val l) (val l2)) = 0 := by
  rw [readE_ok]
  unfold readOk
  rw [hr, v2]
  simpa using q.den_nz
 refine ⟨by rw [← size_list, textB_list]; omega, by rw [textB_list]; exact hr, by rw [textB_list]; exact hE, ?_, by rw [v1, e2], by rw [v2, e3]⟩
 rw [textB_list]
 unfold readA
 rw [if_neg (by omega)]
theorem text_same {b b3 : Bool} {l l2 l3 l4 : List Nat} (hl : Dig l) (hl2 : Dig l2) (h : l.length ≤ 20) (h2 : l2.length ≤ 20) (hc : chkR b l l2 = 0) (hl3 : Dig l3) (hl4 : Dig l4) (h3 : l3.length ≤ 20) (h4 : l4.length ≤ 20) (hc3 : chkR b3 l3 l4 = 0) :
 ((textB b (val l) (val l2)).toList == (textB b3 (val l3) (val l4)).toList) = eqR b l l2 b3 l3 l4 := by
 obtain ⟨_, r1, _, _, d1, d2⟩ := text_back hl hl2 h h2 hc
 obtain ⟨_, r3, _, _, d3, d4⟩ := text_back hl3 hl4 h3 h4 hc3
 unfold eqR
 rw [Bool.eq_iff_iff, beq_iff_eq, decide_eq_true_eq, toList_data, toList_data]
 constructor
 · intro e
   rw [e, r3] at r1
   simp only [Prod.mk.injEq] at r1
   exact ⟨r1.1.symm, by rw [← d1, ← d3, r1.2.1], by rw [← d2, ← d4, r1.2.2]⟩
 · rintro ⟨rfl, rfl, rfl⟩
   rfl
theorem textB_back {s : ByteArray} (h : readE s.data.toList = 0) : textE (readR s.data.toList).1 (digs (readR s.data.toList).2.1) (digs (readR s.data.toList).2.2) = s ∧ chkR (readR s.data.toList).1 (digs (readR s.data.toList).2.1) (digs (readR s.data.toList).2.2) = 0 := by
 obtain ⟨h1, h2, h3, h4, h5⟩ := readOk_back ((readE_ok _).1 h)
 have hc := chkR_parts (N := (readR s.data.toList).2.1) (d := (readR s.data.toList).2.2) h5
 rw [if_pos ⟨h2, h3⟩] at hc
 refine ⟨?_, hc⟩
 unfold textE
 rw [if_pos hc, val_digs, val_digs]
 unfold textB
 rw [h4]
theorem readR_len (l : List UInt8) : (digs (readR l).2.1).length ≤ 10000 ∧ (digs (readR l).2.2).length ≤ 10000 := by
 have z : (digs 0).length ≤ 10000 := by simp [digs_zero]
 unfold readR
 split
 · split
   · exact ⟨z, z⟩
   · rename_i p hp
     split
     · unfold readP at hp
       split at hp
       · split at hp
         · split at hp
           · cases hp; exact ⟨getN_len _, getN_len _⟩
           · cases hp
         · cases hp; exact ⟨getN_len _, by simp [digs_small]⟩
       · cases hp
     · exact ⟨z, z⟩
 · exact ⟨z, z⟩
set_option maxRecDepth 100000 in
set_option maxHeartbeats 8000000 in
theorem digitsSame_long1 (b : Bool) (a : Option Addr) (n c : Nat) (l : List Nat) (a2 : Option Addr) (n2 c2 : Nat) (l2 : List Nat) (b3 : Bool) (a3 : Option Addr) (n3 c3 : Nat) (l3 : List Nat) (a4 : Option Addr) (n4 c4 : Nat) (l4 : List Nat) (s : ByteArray) (w : World) (g1 : NatAt w a n c l) (g2 : NatAt w a2 n2 c2 l2) (g3 : NatAt w a3 n3 c3 l3) (g4 : NatAt w a4 n4 c4 l4) (hs : s.size ≤ 9223372036854775807) (hm : MaxL w) (k1 : (decide ((10 : Int) < (n : Int)) || decide ((10 : Int) < (n2 : Int))) = true) :
 Calls Tryd.prog 5 #[.agg #[.bool b, .slice a n c, .slice a2 n2 c2], .agg #[.bool b3, .slice a3 n3 c3, .slice a4 n4 c4], .string s] w (RetVal w (.bool true)) := by
 have hlx := fun w => longRatio_any b a n c a2 n2 c2 10 w (by have := g1.cle; have := g1.le; omega) (by have := g2.cle; have := g2.le; omega)
 have hly := fun w => longRatio_any b3 a3 n3 c3 a4 n4 c4 10 w (by have := g3.cle; have := g3.le; omega) (by have := g4.cle; have := g4.le; omega)
 simp only [k1] at hlx
 have HLX := Lib.hid hlx
 have HLY := Lib.hid hly
 clear hlx hly k1
 go_enter Tryd.func5, Tryd.ntmps5
 have hB := Below.refl w.heap.size w
 go_wp2_with fail
 obtain ⟨w1, hW, hz0, hb, q, f⟩ := box1g w (w.heap.size) (by omega) #[.bool b, .slice a n c, .slice a2 n2 c2] 31
 rw [hW]
 clear hW
 have g1 := g1.past hb
 have g2 := g2.past hb
 have g3 := g3.past hb
 have g4 := g4.past hb
 have hB := below_later hB hb
 clear hb
 have lx : w.heap.size < w1.heap.size := by omega
 have qx0 := q 0; have qx1 := q 1; have qx2 := q 2
 simp only [lgA, lgZ, lgS] at qx0 qx1 qx2
 clear q f
 obtain ⟨w2, hW, hz1, hb, q, f⟩ := box1g w1 (w.heap.size + 1) (by omega) #[.bool b3, .slice a3 n3 c3, .slice a4 n4 c4] 31
 rw [hW]
 clear hW
 have g1 := g1.past hb
 have g2 := g2.past hb
 have g3 := g3.past hb
 have g4 := g4.past hb
 obtain ⟨qx0, qx1, qx2, lx⟩ := bq3 hb lx qx0 qx1 qx2
 have hB := below_later hB hb
 clear hb
 have ly : w.heap.size + 1 < w2.heap.size := by omega
 have qy0 := q 0; have qy1 := q 1; have qy2 := q 2
 simp only [lgA, lgZ, lgS] at qy0 qy1 qy2
 clear q f
 clear hz0
 clear hz1
 refine (digitsKnown_any _ (hm.later hB)).mono ?_
 rintro e w3 ⟨rfl, hb⟩
 have g1 := g1.past hb
 have g2 := g2.past hb
 have g3 := g3.past hb
 have g4 := g4.past hb
 obtain ⟨qx0, qx1, qx2, lx⟩ := bq3 hb lx qx0 qx1 qx2
 obtain ⟨qy0, qy1, qy2, ly⟩ := bq3 hb ly qy0 qy1 qy2
 have hB := below_later hB hb
 clear hb
 go_wp2_with fail
 refine (HLX.out _).mono ?_
 rintro e w4 ⟨rfl, hb⟩
 have g1 := g1.past hb
 have g2 := g2.past hb
 have g3 := g3.past hb
 have g4 := g4.past hb
 obtain ⟨qx0, qx1, qx2, lx⟩ := bq3 hb lx qx0 qx1 qx2
 obtain ⟨qy0, qy1, qy2, ly⟩ := bq3 hb ly qy0 qy1 qy2
 have hB := below_later hB hb
 clear hb
 go_wp2
 go_ret
 exact ⟨rfl, hB⟩
set_option maxRecDepth 100000 in
set_option maxHeartbeats 8000000 in
theorem digitsSame_long2 (b : Bool) (a : Option Addr) (n c : Nat) (l : List Nat) (a2 : Option Addr) (n2 c2 : Nat) (l2 : List Nat) (b3 : Bool) (a3 : Option Addr) (n3 c3 : Nat) (l3 : List Nat) (a4 : Option Addr) (n4 c4 : Nat) (l4 : List Nat) (s : ByteArray) (w : World) (g1 : NatAt w a n c l) (g2 : NatAt w a2 n2 c2 l2) (g3 : NatAt w a3 n3 c3 l3) (g4 : NatAt w a4 n4 c4 l4) (hs : s.size ≤ 9223372036854775807) (hm : MaxL w) (k1 : (decide ((10 : Int) < (n : Int)) || decide ((10 : Int) < (n2 : Int))) = false) (k2 : (decide ((10 : Int) < (n3 : Int)) || decide ((10 : Int) < (n4 : Int))) = true) :
 Calls Tryd.prog 5 #[.agg #[.bool b, .slice a n c, .slice a2 n2 c2], .agg #[.bool b3, .slice a3 n3 c3, .slice a4 n4 c4], .string s] w (RetVal w (.bool true)) := by
 have hlx := fun w => longRatio_any b a n c a2 n2 c2 10 w (by have := g1.cle; have := g1.le; omega) (by have := g2.cle; have := g2.le; omega)
 have hly := fun w => longRatio_any b3 a3 n3 c3 a4 n4 c4 10 w (by have := g3.cle; have := g3.le; omega) (by have := g4.cle; have := g4.le; omega)
 simp only [k1] at hlx
 simp only [k2] at hly
 have HLX := Lib.hid hlx
 have HLY := Lib.hid hly
 clear hlx hly k1 k2
 go_enter Tryd.func5, Tryd.ntmps5
 have hB := Below.refl w.heap.size w
 go_wp2_with fail
 obtain ⟨w1, hW, hz0, hb, q, f⟩ := box1g w (w.heap.size) (by omega) #[.bool b, .slice a n c, .slice a2 n2 c2] 31
 rw [hW]
 clear hW
 have g1 := g1.past hb
 have g2 := g2.past hb
 have g3 := g3.past hb
 have g4 := g4.past hb
 have hB := below_later hB hb
 clear hb
 have lx : w.heap.size < w1.heap.size := by omega
 have qx0 := q 0; have qx1 := q 1; have qx2 := q 2
 simp only [lgA, lgZ, lgS] at qx0 qx1 qx2
 clear q f
 obtain ⟨w2, hW, hz1, hb, q, f⟩ := box1g w1 (w.heap.size + 1) (by omega) #[.bool b3, .slice a3 n3 c3, .slice a4 n4 c4] 31
 rw [hW]
 clear hW
 have g1 := g1.past hb
 have g2 := g2.past hb
 have g3 := g3.past hb
 have g4 := g4.past hb
 obtain ⟨qx0, qx1, qx2, lx⟩ := bq3 hb lx qx0 qx1 qx2
 have hB := below_later hB hb
 clear hb
 have ly : w.heap.size + 1 < w2.heap.size := by omega
 have qy0 := q 0; have qy1 := q 1; have qy2 := q 2
 simp only [lgA, lgZ, lgS] at qy0 qy1 qy2
 clear q f
 clear hz0
 clear hz1
 refine (digitsKnown_any _ (hm.later hB)).mono ?_
 rintro e w3 ⟨rfl, hb⟩
 have g1 := g1.past hb
 have g2 := g2.past hb
 have g3 := g3.past hb
 have g4 := g4.past hb
 obtain ⟨qx0, qx1, qx2, lx⟩ := bq3 hb lx qx0 qx1 qx2
 obtain ⟨qy0, qy1, qy2, ly⟩ := bq3 hb ly qy0 qy1 qy2
 have hB := below_later hB hb
 clear hb
 go_wp2_with fail
 refine (HLX.out _).mono ?_
 rintro e w4 ⟨rfl, hb⟩
 have g1 := g1.past hb
 have g2 := g2.past hb
 have g3 := g3.past hb
 have g4 := g4.past hb
 obtain ⟨qx0, qx1, qx2, lx⟩ := bq3 hb lx qx0 qx1 qx2
 obtain ⟨qy0, qy1, qy2, ly⟩ := bq3 hb ly qy0 qy1 qy2
 have hB := below_later hB hb
 clear hb
 go_wp2_with fail
 refine (HLY.out _).mono ?_
 rintro e w5 ⟨rfl, hb⟩
 have g1 := g1.past hb
 have g2 := g2.past hb
 have g3 := g3.past hb
 have g4 := g4.past hb
 obtain ⟨qx0, qx1, qx2, lx⟩ := bq3 hb lx qx0 qx1 qx2
 obtain ⟨qy0, qy1, qy2, ly⟩ := bq3 hb ly qy0 qy1 qy2
 have hB := below_later hB hb
 clear hb
 go_wp2
 go_ret
 exact ⟨rfl, hB⟩
set_option maxRecDepth 100000 in
set_option maxHeartbeats 8000000 in
theorem digitsSame_long3 (b : Bool) (a : Option Addr) (n c : Nat) (l : List Nat) (a2 : Option Addr) (n2 c2 : Nat) (l2 : List Nat) (b3 : Bool) (a3 : Option Addr) (n3 c3 : Nat) (l3 : List Nat) (a4 : Option Addr) (n4 c4 : Nat) (l4 : List Nat) (s : ByteArray) (w : World) (g1 : NatAt w a n c l) (g2 : NatAt w a2 n2 c2 l2) (g3 : NatAt w a3 n3 c3 l3) (g4 : NatAt w a4 n4 c4 l4) (hs : s.size ≤ 9223372036854775807) (hm : MaxL w) (k1 : (decide ((10 : Int) < (n : Int)) || decide ((10 : Int) < (n2 : Int))) = false) (k2 : (decide ((10 : Int) < (n3 : Int)) || decide ((10 : Int) < (n4 : Int))) = false) (k3 : 200 < s.size) :
 Calls Tryd.prog 5 #[.agg #[.bool b, .slice a n c, .slice a2 n2 c2], .agg #[.bool b3, .slice a3 n3 c3, .slice a4 n4 c4], .string s] w (RetVal w (.bool true)) := by
 have hlx := fun w => longRatio_any b a n c a2 n2 c2 10 w (by have := g1.cle; have := g1.le; omega) (by have := g2.cle; have := g2.le; omega)
 have hly := fun w => longRatio_any b3 a3 n3 c3 a4 n4 c4 10 w (by have := g3.cle; have := g3.le; omega) (by have := g4.cle; have := g4.le; omega)
 simp only [k1] at hlx
 simp only [k2] at hly
 have tS : decide ((200 : Int) < (s.size : Int)) = true := decide_eq_true (by omega)
 have HLX := Lib.hid hlx
 have HLY := Lib.hid hly
 clear hlx hly k1 k2
 go_enter Tryd.func5, Tryd.ntmps5
 have hB := Below.refl w.heap.size w
 go_wp2_with fail
 obtain ⟨w1, hW, hz0, hb, q, f⟩ := box1g w (w.heap.size) (by omega) #[.bool b, .slice a n c, .slice a2 n2 c2] 31
 rw [hW]
 clear hW
 have g1 := g1.past hb
 have g2 := g2.past hb
 have g3 := g3.past hb
 have g4 := g4.past hb
 have hB := below_later hB hb
 clear hb
 have lx : w.heap.size < w1.heap.size := by omega
 have qx0 := q 0; have qx1 := q 1; have qx2 := q 2
 simp only [lgA, lgZ, lgS] at qx0 qx1 qx2
 clear q f
 obtain ⟨w2, hW, hz1, hb, q, f⟩ := box1g w1 (w.heap.size + 1) (by omega) #[.bool b3, .slice a3 n3 c3, .slice a4 n4 c4] 31
 rw [hW]
 clear hW
 have g1 := g1.past hb
 have g2 := g2.past hb
 have g3 := g3.past hb
 have g4 := g4.past hb
 obtain ⟨qx0, qx1, qx2, lx⟩ := bq3 hb lx qx0 qx1 qx2
 have hB := below_later hB hb
 clear hb
 have ly : w.heap.size + 1 < w2.heap.size := by omega
 have qy0 := q 0; have qy1 := q 1; have qy2 := q 2
 simp only [lgA, lgZ, lgS] at qy0 qy1 qy2
 clear q f
 clear hz0
 clear hz1
 refine (digitsKnown_any _ (hm.later hB)).mono ?_
 rintro e w3 ⟨rfl, hb⟩
 have g1 := g1.past hb
 have g2 := g2.past hb
 have g3 := g3.past hb
 have g4 := g4.past hb
 obtain ⟨qx0, qx1, qx2, lx⟩ := bq3 hb lx qx0 qx1 qx2
 obtain ⟨qy0, qy1, qy2, ly⟩ := bq3 hb ly qy0 qy1 qy2
 have hB := below_later hB hb
 clear hb
 go_wp2_with fail
 refine (HLX.out _).mono ?_
 rintro e w4 ⟨rfl, hb⟩
 have g1 := g1.past hb
 have g2 := g2.past hb
 have g3 := g3.past hb
 have g4 := g4.past hb
 obtain ⟨qx0, qx1, qx2, lx⟩ := bq3 hb lx qx0 qx1 qx2
 obtain ⟨qy0, qy1, qy2, ly⟩ := bq3 hb ly qy0 qy1 qy2
 have hB := below_later hB hb
 clear hb
 go_wp2_with fail
 refine (HLY.out _).mono ?_
 rintro e w5 ⟨rfl, hb⟩
 have g1 := g1.past hb
 have g2 := g2.past hb
 have g3 := g3.past hb
 have g4 := g4.past hb
 obtain ⟨qx0, qx1, qx2, lx⟩ := bq3 hb lx qx0 qx1 qx2
 obtain ⟨qy0, qy1, qy2, ly⟩ := bq3 hb ly qy0 qy1 qy2
 have hB := below_later hB hb
 clear hb
 go_wp2
 go_ret
 exact ⟨rfl, hB⟩
set_option maxRecDepth 100000 in
set_option maxHeartbeats 8000000 in
theorem digitsSame_m000 (b : Bool) (a : Option Addr) (n c : Nat) (l : List Nat) (a2 : Option Addr) (n2 c2 : Nat) (l2 : List Nat) (b3 : Bool) (a3 : Option Addr) (n3 c3 : Nat) (l3 : List Nat) (a4 : Option Addr) (n4 c4 : Nat) (l4 : List Nat) (s : ByteArray) (w : World) (g1 : NatAt w a n c l) (g2 : NatAt w a2 n2 c2 l2) (g3 : NatAt w a3 n3 c3 l3) (g4 : NatAt w a4 n4 c4 l4) (hs : s.size ≤ 9223372036854775807) (hm : MaxL w) (k1 : (decide ((10 : Int) < (n : Int)) || decide ((10 : Int) < (n2 : Int))) = false) (k2 : (decide ((10 : Int) < (n3 : Int)) || decide ((10 : Int) < (n4 : Int))) = false) (k3 : ¬ 200 < s.size) (hc1 : chkR b l l2 ≠ 0) (hc2 : chkR b3 l3 l4 ≠ 0) (hE : readE s.data.toList = 0) :
 Calls Tryd.prog 5 #[.agg #[.bool b, .slice a n c, .slice a2 n2 c2], .agg #[.bool b3, .slice a3 n3 c3, .slice a4 n4 c4], .string s] w (RetVal w (.bool true)) := by
 have hlx := fun w => longRatio_any b a n c a2 n2 c2 10 w (by have := g1.cle; have := g1.le; omega) (by have := g2.cle; have := g2.le; omega)
 have hly := fun w => longRatio_any b3 a3 n3 c3 a4 n4 c4 10 w (by have := g3.cle; have := g3.le; omega) (by have := g4.cle; have := g4.le; omega)
 have l1 : l.length ≤ 20 := by have := g1.len; simp at k1; omega
 have l2' : l2.length ≤ 20 := by have := g2.len; simp at k1; omega
 have l3' : l3.length ≤ 20 := by have := g3.len; simp at k2; omega
 have l4' : l4.length ≤ 20 := by have := g4.len; simp at k2; omega
 simp only [k1] at hlx
 simp only [k2] at hly
 have HLX := Lib.hid hlx
 have HLY := Lib.hid hly
 have tS : decide ((200 : Int) < (s.size : Int)) = false := decide_eq_false (by omega)
 have b1 : n ≤ 100 := by have := g1.len; omega
 have b2 : n2 ≤ 100 := by have := g2.len; omega
 have b3' : n3 ≤ 100 := by have := g3.len; omega
 have b4 : n4 ≤ 100 := by have := g4.len; omega
 have hck := fun w g1 g2 => check05_any b a n c l a2 n2 c2 l2 w g1 g2 (by omega) (by omega)
 have htx := fun w g1 g2 => text_any b a n c l a2 n2 c2 l2 w g1 g2 (by omega) (by omega)
 have hty := fun w g3 g4 => text_any b3 a3 n3 c3 l3 a4 n4 c4 l4 w g3 g4 (by omega) (by omega)
 obtain ⟨bS, hbS⟩ : ∃ x, (readR s.data.toList).1 = x := ⟨_, rfl⟩
 obtain ⟨uS, huS⟩ : ∃ x, (readR s.data.toList).2.1 = x := ⟨_, rfl⟩
 obtain ⟨dS, hdS⟩ : ∃ x, (readR s.data.toList).2.2 = x := ⟨_, rfl⟩
 obtain ⟨AS, hAS⟩ : ∃ x, readA s.data.toList = x := ⟨_, rfl⟩
 have hrS : readR s.data.toList = (bS, uS, dS) := by rw [← hbS, ← huS, ← hdS]
 have hlS := readR_len s.data.toList
 rw [huS, hdS] at hlS
 have hts := fun a n c a2 n2 c2 w g1 g2 => text_is bS a n c (digs uS) a2 n2 c2 (digs dS) w g1 g2 (by omega) (by omega) (T := s) (E := 0) (by have := (textB_back hE).1; rw [hbS, huS, hdS] at this; exact this) (by have := (textB_back hE).2; rw [hbS, huS, hdS] at this; exact this)
 have HTS := Lib.hid hts
 have hrs := fun w hm => read_is s w hs hm hrS hE hAS
 have HRS := Lib.hid hrs
 clear hts hrs hlS hrS hbS huS hdS hAS hE
 have e1 : textE b l l2 = ⟨#[]⟩ := if_neg hc1
 simp only [chkR_no hc1] at hck
 simp only [chkR_no hc1, e1] at htx
 have e2 : textE b3 l3 l4 = ⟨#[]⟩ := if_neg hc2
 simp only [chkR_no hc2, e2] at hty
 clear e2
 have HCK := Lib.hid hck
 have HTX := Lib.hid htx
 have HTY := Lib.hid hty
 clear hck htx hty e1 hc1 hc2 hlx hly k1 k2 k3 l1 l2' l3' l4'
 go_enter Tryd.func5, Tryd.ntmps5
 have hB := Below.refl w.heap.size w
 go_wp2_with fail
 obtain ⟨w1, hW, hz0, hb, q, f⟩ := box1g w (w.heap.size) (by omega) #[.bool b, .slice a n c, .slice a2 n2 c2] 31
 rw [hW]
 clear hW
 have g1 := g1.past hb
 have g2 := g2.past hb
 have g3 := g3.past hb
 have g4 := g4.past hb
 have hB := below_later hB hb
 clear hb
 have lx : w.heap.size < w1.heap.size := by omega
 have qx0 := q 0; have qx1 := q 1; have qx2 := q 2
 simp only [lgA, lgZ, lgS] at qx0 qx1 qx2
 clear q f
 obtain ⟨w2, hW, hz1, hb, q, f⟩ := box1g w1 (w.heap.size + 1) (by omega) #[.bool b3, .slice a3 n3 c3, .slice a4 n4 c4] 31
 rw [hW]
 clear hW
 have g1 := g1.past hb
 have g2 := g2.past hb
 have g3 := g3.past hb
 have g4 := g4.past hb
 obtain ⟨qx0, qx1, qx2, lx⟩ := bq3 hb lx qx0 qx1 qx2
 have hB := below_later hB hb
 clear hb
 have ly : w.heap.size + 1 < w2.heap.size := by omega
 have qy0 := q 0; have qy1 := q 1; have qy2 := q 2
 simp only [lgA, lgZ, lgS] at qy0 qy1 qy2
 clear q f
 clear hz0
 clear hz1
 refine (digitsKnown_any _ (hm.later hB)).mono ?_
 rintro e w3 ⟨rfl, hb⟩
 have g1 := g1.past hb
 have g2 := g2.past hb
 have g3 := g3.past hb
 have g4 := g4.past hb
 obtain ⟨qx0, qx1, qx2, lx⟩ := bq3 hb lx qx0 qx1 qx2
 obtain ⟨qy0, qy1, qy2, ly⟩ := bq3 hb ly qy0 qy1 qy2
 have hB := below_later hB hb
 clear hb
 go_wp2_with fail
 refine (HLX.out _).mono ?_
 rintro e w4 ⟨rfl, hb⟩
 have g1 := g1.past hb
 have g2 := g2.past hb
 have g3 := g3.past hb
 have g4 := g4.past hb
 obtain ⟨qx0, qx1, qx2, lx⟩ := bq3 hb lx qx0 qx1 qx2
 obtain ⟨qy0, qy1, qy2, ly⟩ := bq3 hb ly qy0 qy1 qy2
 have hB := below_later hB hb
 clear hb
 go_wp2_with fail
 refine (HLY.out _).mono ?_
 rintro e w5 ⟨rfl, hb⟩
 have g1 := g1.past hb
 have g2 := g2.past hb
 have g3 := g3.past hb
 have g4 := g4.past hb
 obtain ⟨qx0, qx1, qx2, lx⟩ := bq3 hb lx qx0 qx1 qx2
 obtain ⟨qy0, qy1, qy2, ly⟩ := bq3 hb ly qy0 qy1 qy2
 have hB := below_later hB hb
 clear hb
 go_wp2_with fail
 refine (HTX.out _ g1 g2).mono ?_
 rintro e w6 ⟨rfl, hb⟩
 have g1 := g1.past hb
 have g2 := g2.past hb
 have g3 := g3.past hb
 have g4 := g4.past hb
 obtain ⟨qx0, qx1, qx2, lx⟩ := bq3 hb lx qx0 qx1 qx2
 obtain ⟨qy0, qy1, qy2, ly⟩ := bq3 hb ly qy0 qy1 qy2
 have hB := below_later hB hb
 clear hb
 go_wp2_with fail
 refine (HTY.out _ g3 g4).mono ?_
 rintro e w7 ⟨rfl, hb⟩
 have g1 := g1.past hb
 have g2 := g2.past hb
 have g3 := g3.past hb
 have g4 := g4.past hb
 obtain ⟨qx0, qx1, qx2, lx⟩ := bq3 hb lx qx0 qx1 qx2
 obtain ⟨qy0, qy1, qy2, ly⟩ := bq3 hb ly qy0 qy1 qy2
 have hB := below_later hB hb
 clear hb
 go_wp2_with fail
 refine (HCK.out _ g1 g2).mono ?_
 rintro e w8 ⟨rfl, hb⟩
 have g1 := g1.past hb
 have g2 := g2.past hb
 have g3 := g3.past hb
 have g4 := g4.past hb
 obtain ⟨qx0, qx1, qx2, lx⟩ := bq3 hb lx qx0 qx1 qx2
 obtain ⟨qy0, qy1, qy2, ly⟩ := bq3 hb ly qy0 qy1 qy2
 have hB := below_later hB hb
 clear hb
 go_wp2_with fail
 refine (HRS.out _ (hm.later hB)).mono ?_
 rintro e w9 ⟨ahSU, nhSU, chSU, ahSD, nhSD, chSD, rfl, hSU, hSD, hb⟩
 have g1 := g1.past hb
 have g2 := g2.past hb
 have g3 := g3.past hb
 have g4 := g4.past hb
 obtain ⟨qx0, qx1, qx2, lx⟩ := bq3 hb lx qx0 qx1 qx2
 obtain ⟨qy0, qy1, qy2, ly⟩ := bq3 hb ly qy0 qy1 qy2
 have hB := below_later hB hb
 clear hb
 go_wp2_with fail
 obtain ⟨w10, hW, hz0, hb, q, f⟩ := box1g w9 (w9.heap.size) (by omega) #[.bool bS, .slice ahSU nhSU chSU, .slice ahSD nhSD chSD] 31
 rw [hW]
 clear hW
 have g1 := g1.past hb
 have g2 := g2.past hb
 have g3 := g3.past hb
 have g4 := g4.past hb
 have hSU := hSU.past hb
 have hSD := hSD.past hb
 obtain ⟨qx0, qx1, qx2, lx⟩ := bq3 hb lx qx0 qx1 qx2
 obtain ⟨qy0, qy1, qy2, ly⟩ := bq3 hb ly qy0 qy1 qy2
 have hB := below_later hB hb
 clear hb
 have lr : w9.heap.size < w10.heap.size := by omega
 have qr0 := q 0; have qr1 := q 1; have qr2 := q 2
 simp only [lgA, lgZ, lgS] at qr0 qr1 qr2
 clear q f
 obtain ⟨w11, hW, hz1, hb, q, f⟩ := box1g w10 (w9.heap.size + 1) (by omega) #[.int .i64 0, .int .i64 AS] 48
 rw [hW]
 clear hW
 have g1 := g1.past hb
 have g2 := g2.past hb
 have g3 := g3.past hb
 have g4 := g4.past hb
 have hSU := hSU.past hb
 have hSD := hSD.past hb
 obtain ⟨qx0, qx1, qx2, lx⟩ := bq3 hb lx qx0 qx1 qx2
 obtain ⟨qy0, qy1, qy2, ly⟩ := bq3 hb ly qy0 qy1 qy2
 obtain ⟨qr0, qr1, qr2, lr⟩ := bq3 hb lr qr0 qr1 qr2
 have hB := below_later hB hb
 clear hb
 have le : w9.heap.size + 1 < w11.heap.size := by omega
 have qe0 := q 0; have qe1 := q 1
 simp only [lgA, lgZ, lgS] at qe0 qe1
 clear q f
 clear hz0
 clear hz1
 refine (HTS.out _ _ _ _ _ _ _ hSU.toNatAt hSD.toNatAt).mono ?_
 rintro e w12 ⟨rfl, hb⟩
 have g1 := g1.past hb
 have g2 := g2.past hb
 have g3 := g3.past hb
 have g4 := g4.past hb
 have hSU := hSU.past hb
 have hSD := hSD.past hb
 obtain ⟨qx0, qx1, qx2, lx⟩ := bq3 hb lx qx0 qx1 qx2
 obtain ⟨qy0, qy1, qy2, ly⟩ := bq3 hb ly qy0 qy1 qy2
 obtain ⟨qr0, qr1, qr2, lr⟩ := bq3 hb lr qr0 qr1 qr2
 obtain ⟨qe0, qe1, le⟩ := bq2 hb le qe0 qe1
 have hB := below_later hB hb
 clear hb
 go_wp2
 go_ret
 exact ⟨rfl, hB⟩
set_option maxRecDepth 100000 in
set_option maxHeartbeats 8000000 in
theorem digitsSame_m001 (b : Bool) (a : Option Addr) (n c : Nat) (l : List Nat) (a2 : Option Addr) (n2 c2 : Nat) (l2 : List Nat) (b3 : Bool) (a3 : Option Addr) (n3 c3 : Nat) (l3 : List Nat) (a4 : Option Addr) (n4 c4 : Nat) (l4 : List Nat) (s : ByteArray) (w : World) (g1 : NatAt w a n c l) (g2 : NatAt w a2 n2 c2 l2) (g3 : NatAt w a3 n3 c3 l3) (g4 : NatAt w a4 n4 c4 l4) (hs : s.size ≤ 9223372036854775807) (hm : MaxL w) (k1 : (decide ((10 : Int) < (n : Int)) || decide ((10 : Int) < (n2 : Int))) = false) (k2 : (decide ((10 : Int) < (n3 : Int)) || decide ((10 : Int) < (n4 : Int))) = false) (k3 : ¬ 200 < s.size) (hc1 : chkR b l l2 ≠ 0) (hc2 : chkR b3 l3 l4 ≠ 0) (hE : readE s.data.toList ≠ 0) :
 Calls Tryd.prog 5 #[.agg #[.bool b, .slice a n c, .slice a2 n2 c2], .agg #[.bool b3, .slice a3 n3 c3, .slice a4 n4 c4], .string s] w (RetVal w (.bool true)) := by
 have hlx := fun w => longRatio_any b a n c a2 n2 c2 10 w (by have := g1.cle; have := g1.le; omega) (by have := g2.cle; have := g2.le; omega)
 have hly := fun w => longRatio_any b3 a3 n3 c3 a4 n4 c4 10 w (by have := g3.cle; have := g3.le; omega) (by have := g4.cle; have := g4.le; omega)
 have l1 : l.length ≤ 20 := by have := g1.len; simp at k1; omega
 have l2' : l2.length ≤ 20 := by have := g2.len; simp at k1; omega
 have l3' : l3.length ≤ 20 := by have := g3.len; simp at k2; omega
 have l4' : l4.length ≤ 20 := by have := g4.len; simp at k2; omega
 simp only [k1] at hlx
 simp only [k2] at hly
 have HLX := Lib.hid hlx
 have HLY := Lib.hid hly
 have tS : decide ((200 : Int) < (s.size : Int)) = false := decide_eq_false (by omega)
 have b1 : n ≤ 100 := by have := g1.len; omega
 have b2 : n2 ≤ 100 := by have := g2.len; omega
 have b3' : n3 ≤ 100 := by have := g3.len; omega
 have b4 : n4 ≤ 100 := by have := g4.len; omega
 have hck := fun w g1 g2 => check05_any b a n c l a2 n2 c2 l2 w g1 g2 (by omega) (by omega)
 have htx := fun w g1 g2 => text_any b a n c l a2 n2 c2 l2 w g1 g2 (by omega) (by omega)
 have hty := fun w g3 g4 => text_any b3 a3 n3 c3 l3 a4 n4 c4 l4 w g3 g4 (by omega) (by omega)
 obtain ⟨bS, hbS⟩ : ∃ x, (readR s.data.toList).1 = x := ⟨_, rfl⟩
 obtain ⟨uS, huS⟩ : ∃ x, (readR s.data.toList).2.1 = x := ⟨_, rfl⟩
 obtain ⟨dS, hdS⟩ : ∃ x, (readR s.data.toList).2.2 = x := ⟨_, rfl⟩
 obtain ⟨AS, hAS⟩ : ∃ x, readA s.data.toList = x := ⟨_, rfl⟩
 have hrS : readR s.data.toList = (bS, uS, dS) := by rw [← hbS, ← huS, ← hdS]
 have hlS := readR_len s.data.toList
 rw [huS, hdS] at hlS
 obtain ⟨ES, hES⟩ : ∃ x, readE s.data.toList = x := ⟨_, rfl⟩
 rw [hES] at hE
 have tE : ((ES : Int) != 0) = true := bne_iff_ne.2 (by omega)
 have hrs := fun w hm => read_is s w hs hm hrS hES hAS
 have HRS := Lib.hid hrs
 clear hrs hlS hrS hbS huS hdS hAS hE hES
 have e1 : textE b l l2 = ⟨#[]⟩ := if_neg hc1
 simp only [chkR_no hc1] at hck
 simp only [chkR_no hc1, e1] at htx
 have e2 : textE b3 l3 l4 = ⟨#[]⟩ := if_neg hc2
 simp only [chkR_no hc2, e2] at hty
 clear e2
 have HCK := Lib.hid hck
 have HTX := Lib.hid htx
 have HTY := Lib.hid hty
 clear hck htx hty e1 hc1 hc2 hlx hly k1 k2 k3 l1 l2' l3' l4'
 go_enter Tryd.func5, Tryd.ntmps5
 have hB := Below.refl w.heap.size w
 go_wp2_with fail
 obtain ⟨w1, hW, hz0, hb, q, f⟩ := box1g w (w.heap.size) (by omega) #[.bool b, .slice a n c, .slice a2 n2 c2] 31
 rw [hW]
 clear hW
 have g1 := g1.past hb
 have g2 := g2.past hb
 have g3 := g3.past hb
 have g4 := g4.past hb
 have hB := below_later hB hb
 clear hb
 have lx : w.heap.size < w1.heap.size := by omega
 have qx0 := q 0; have qx1 := q 1; have qx2 := q 2
 simp only [lgA, lgZ, lgS] at qx0 qx1 qx2
 clear q f
 obtain ⟨w2, hW, hz1, hb, q, f⟩ := box1g w1 (w.heap.size + 1) (by omega) #[.bool b3, .slice a3 n3 c3, .slice a4 n4 c4] 31
 rw [hW]
 clear hW
 have g1 := g1.past hb
 have g2 := g2.past hb
 have g3 := g3.past hb
 have g4 := g4.past hb
 obtain ⟨qx0, qx1, qx2, lx⟩ := bq3 hb lx qx0 qx1 qx2
 have hB := below_later hB hb
 clear hb
 have ly : w.heap.size + 1 < w2.heap.size := by omega
 have qy0 := q 0; have qy1 := q 1; have qy2 := q 2
 simp only [lgA, lgZ, lgS] at qy0 qy1 qy2
 clear q f
 clear hz0
 clear hz1
 refine (digitsKnown_any _ (hm.later hB)).mono ?_
 rintro e w3 ⟨rfl, hb⟩
 have g1 := g1.past hb
 have g2 := g2.past hb
 have g3 := g3.past hb
 have g4 := g4.past hb
 obtain ⟨qx0, qx1, qx2, lx⟩ := bq3 hb lx qx0 qx1 qx2
 obtain ⟨qy0, qy1, qy2, ly⟩ := bq3 hb ly qy0 qy1 qy2
 have hB := below_later hB hb
 clear hb
 go_wp2_with fail
 refine (HLX.out _).mono ?_
 rintro e w4 ⟨rfl, hb⟩
 have g1 := g1.past hb
 have g2 := g2.past hb
 have g3 := g3.past hb
 have g4 := g4.past hb
 obtain ⟨qx0, qx1, qx2, lx⟩ := bq3 hb lx qx0 qx1 qx2
 obtain ⟨qy0, qy1, qy2, ly⟩ := bq3 hb ly qy0 qy1 qy2
 have hB := below_later hB hb
 clear hb
 go_wp2_with fail
 refine (HLY.out _).mono ?_
 rintro e w5 ⟨rfl, hb⟩
 have g1 := g1.past hb
 have g2 := g2.past hb
 have g3 := g3.past hb
 have g4 := g4.past hb
 obtain ⟨qx0, qx1, qx2, lx⟩ := bq3 hb lx qx0 qx1 qx2
 obtain ⟨qy0, qy1, qy2, ly⟩ := bq3 hb ly qy0 qy1 qy2
 have hB := below_later hB hb
 clear hb
 go_wp2_with fail
 refine (HTX.out _ g1 g2).mono ?_
 rintro e w6 ⟨rfl, hb⟩
 have g1 := g1.past hb
 have g2 := g2.past hb
 have g3 := g3.past hb
 have g4 := g4.past hb
 obtain ⟨qx0, qx1, qx2, lx⟩ := bq3 hb lx qx0 qx1 qx2
 obtain ⟨qy0, qy1, qy2, ly⟩ := bq3 hb ly qy0 qy1 qy2
 have hB := below_later hB hb
 clear hb
 go_wp2_with fail
 refine (HTY.out _ g3 g4).mono ?_
 rintro e w7 ⟨rfl, hb⟩
 have g1 := g1.past hb
 have g2 := g2.past hb
 have g3 := g3.past hb
 have g4 := g4.past hb
 obtain ⟨qx0, qx1, qx2, lx⟩ := bq3 hb lx qx0 qx1 qx2
 obtain ⟨qy0, qy1, qy2, ly⟩ := bq3 hb ly qy0 qy1 qy2
 have hB := below_later hB hb
 clear hb
 go_wp2_with fail
 refine (HCK.out _ g1 g2).mono ?_
 rintro e w8 ⟨rfl, hb⟩
 have g1 := g1.past hb
 have g2 := g2.past hb
 have g3 := g3.past hb
 have g4 := g4.past hb
 obtain ⟨qx0, qx1, qx2, lx⟩ := bq3 hb lx qx0 qx1 qx2
 obtain ⟨qy0, qy1, qy2, ly⟩ := bq3 hb ly qy0 qy1 qy2
 have hB := below_later hB hb
 clear hb
 go_wp2_with fail
 refine (HRS.out _ (hm.later hB)).mono ?_
 rintro e w9 ⟨ahSU, nhSU, chSU, ahSD, nhSD, chSD, rfl, hSU, hSD, hb⟩
 have g1 := g1.past hb
 have g2 := g2.past hb
 have g3 := g3.past hb
 have g4 := g4.past hb
 obtain ⟨qx0, qx1, qx2, lx⟩ := bq3 hb lx qx0 qx1 qx2
 obtain ⟨qy0, qy1, qy2, ly⟩ := bq3 hb ly qy0 qy1 qy2
 have hB := below_later hB hb
 clear hb
 go_wp2
 obtain ⟨w10, hW, hz0, hb, q, f⟩ := box1g w9 (w9.heap.size) (by omega) #[.bool bS, .slice ahSU nhSU chSU, .slice ahSD nhSD chSD] 31
 rw [hW]
 clear hW
 obtain ⟨qx0, qx1, qx2, lx⟩ := bq3 hb lx qx0 qx1 qx2
 obtain ⟨qy0, qy1, qy2, ly⟩ := bq3 hb ly qy0 qy1 qy2
 have hB := below_later hB hb
 clear hb
 have lr : w9.heap.size < w10.heap.size := by omega
 have qr0 := q 0; have qr1 := q 1; have qr2 := q 2
 simp only [lgA, lgZ, lgS] at qr0 qr1 qr2
 clear q f
 obtain ⟨w11, hW, hz1, hb, q, f⟩ := box1g w10 (w9.heap.size + 1) (by omega) #[.int .i64 ES, .int .i64 AS] 48
 rw [hW]
 clear hW
 obtain ⟨qx0, qx1, qx2, lx⟩ := bq3 hb lx qx0 qx1 qx2
 obtain ⟨qy0, qy1, qy2, ly⟩ := bq3 hb ly qy0 qy1 qy2
 obtain ⟨qr0, qr1, qr2, lr⟩ := bq3 hb lr qr0 qr1 qr2
 have hB := below_later hB hb
 clear hb
 have le : w9.heap.size + 1 < w11.heap.size := by omega
 have qe0 := q 0; have qe1 := q 1
 simp only [lgA, lgZ, lgS] at qe0 qe1
 clear q f
 clear hz0
 clear hz1
 go_ret
 exact ⟨rfl, hB⟩
set_option maxRecDepth 100000 in
set_option maxHeartbeats 8000000 in
theorem digitsSame_m010 (b : Bool) (a : Option Addr) (n c : Nat) (l : List Nat) (a2 : Option Addr) (n2 c2 : Nat) (l2 : List Nat) (b3 : Bool) (a3 : Option Addr) (n3 c3 : Nat) (l3 : List Nat) (a4 : Option Addr) (n4 c4 : Nat) (l4 : List Nat) (s : ByteArray) (w : World) (g1 : NatAt w a n c l) (g2 : NatAt w a2 n2 c2 l2) (g3 : NatAt w a3 n3 c3 l3) (g4 : NatAt w a4 n4 c4 l4) (hs : s.size ≤ 9223372036854775807) (hm : MaxL w) (k1 : (decide ((10 : Int) < (n : Int)) || decide ((10 : Int) < (n2 : Int))) = false) (k2 : (decide ((10 : Int) < (n3 : Int)) || decide ((10 : Int) < (n4 : Int))) = false) (k3 : ¬ 200 < s.size) (hc1 : chkR b l l2 ≠ 0) (hc2 : chkR b3 l3 l4 = 0) (hE : readE s.data.toList = 0) :
 Calls Tryd.prog 5 #[.agg #[.bool b, .slice a n c, .slice a2 n2 c2], .agg #[.bool b3, .slice a3 n3 c3, .slice a4 n4 c4], .string s] w (RetVal w (.bool true)) := by
 have hlx := fun w => longRatio_any b a n c a2 n2 c2 10 w (by have := g1.cle; have := g1.le; omega) (by have := g2.cle; have := g2.le; omega)
 have hly := fun w => longRatio_any b3 a3 n3 c3 a4 n4 c4 10 w (by have := g3.cle; have := g3.le; omega) (by have := g4.cle; have := g4.le; omega)
 have l1 : l.length ≤ 20 := by have := g1.len; simp at k1; omega
 have l2' : l2.length ≤ 20 := by have := g2.len; simp at k1; omega
 have l3' : l3.length ≤ 20 := by have := g3.len; simp at k2; omega
 have l4' : l4.length ≤ 20 := by have := g4.len; simp at k2; omega
 simp only [k1] at hlx
 simp only [k2] at hly
 have HLX := Lib.hid hlx
 have HLY := Lib.hid hly
 have tS : decide ((200 : Int) < (s.size : Int)) = false := decide_eq_false (by omega)
 have b1 : n ≤ 100 := by have := g1.len; omega
 have b2 : n2 ≤ 100 := by have := g2.len; omega
 have b3' : n3 ≤ 100 := by have := g3.len; omega
 have b4 : n4 ≤ 100 := by have := g4.len; omega
 have hck := fun w g1 g2 => check05_any b a n c l a2 n2 c2 l2 w g1 g2 (by omega) (by omega)
 have htx := fun w g1 g2 => text_any b a n c l a2 n2 c2 l2 w g1 g2 (by omega) (by omega)
 have hty := fun w g3 g4 => text_any b3 a3 n3 c3 l3 a4 n4 c4 l4 w g3 g4 (by omega) (by omega)
 obtain ⟨bS, hbS⟩ : ∃ x, (readR s.data.toList).1 = x := ⟨_, rfl⟩
 obtain ⟨uS, huS⟩ : ∃ x, (readR s.data.toList).2.1 = x := ⟨_, rfl⟩
 obtain ⟨dS, hdS⟩ : ∃ x, (readR s.data.toList).2.2 = x := ⟨_, rfl⟩
 obtain ⟨AS, hAS⟩ : ∃ x, readA s.data.toList = x := ⟨_, rfl⟩
 have hrS : readR s.data.toList = (bS, uS, dS) := by rw [← hbS, ← huS, ← hdS]
 have hlS := readR_len s.data.toList
 rw [huS, hdS] at hlS
 have hts := fun a n c a2 n2 c2 w g1 g2 => text_is bS a n c (digs uS) a2 n2 c2 (digs dS) w g1 g2 (by omega) (by omega) (T := s) (E := 0) (by have := (textB_back hE).1; rw [hbS, huS, hdS] at this; exact this) (by have := (textB_back hE).2; rw [hbS, huS, hdS] at this; exact this)
 have HTS := Lib.hid hts
 have hrs := fun w hm => read_is s w hs hm hrS hE hAS
 have HRS := Lib.hid hrs
 clear hts hrs hlS hrS hbS huS hdS hAS hE
 have e1 : textE b l l2 = ⟨#[]⟩ := if_neg hc1
 simp only [chkR_no hc1] at hck
 simp only [chkR_no hc1, e1] at htx
 obtain ⟨T2, hT2⟩ : ∃ x, textB b3 (val l3) (val l4) = x := ⟨_, rfl⟩
 have e2 : textE b3 l3 l4 = T2 := by rw [← hT2]; exact if_pos hc2
 simp only [hc2, e2] at hty
 clear hT2 e2
 have HCK := Lib.hid hck
 have HTX := Lib.hid htx
 have HTY := Lib.hid hty
 clear hck htx hty e1 hc1 hc2 hlx hly k1 k2 k3 l1 l2' l3' l4'
 go_enter Tryd.func5, Tryd.ntmps5
 have hB := Below.refl w.heap.size w
 go_wp2_with fail
 obtain ⟨w1, hW, hz0, hb, q, f⟩ := box1g w (w.heap.size) (by omega) #[.bool b, .slice a n c, .slice a2 n2 c2] 31
 rw [hW]
 clear hW
 have g1 := g1.past hb
 have g2 := g2.past hb
 have g3 := g3.past hb
 have g4 := g4.past hb
 have hB := below_later hB hb
 clear hb
 have lx : w.heap.size < w1.heap.size := by omega
 have qx0 := q 0; have qx1 := q 1; have qx2 := q 2
 simp only [lgA, lgZ, lgS] at qx0 qx1 qx2
 clear q f
 obtain ⟨w2, hW, hz1, hb, q, f⟩ := box1g w1 (w.heap.size + 1) (by omega) #[.bool b3, .slice a3 n3 c3, .slice a4 n4 c4] 31
 rw [hW]
 clear hW
 have g1 := g1.past hb
 have g2 := g2.past hb
 have g3 := g3.past hb
 have g4 := g4.past hb
 obtain ⟨qx0, qx1, qx2, lx⟩ := bq3 hb lx qx0 qx1 qx2
 have hB := below_later hB hb
 clear hb
 have ly : w.heap.size + 1 < w2.heap.size := by omega
 have qy0 := q 0; have qy1 := q 1; have qy2 := q 2
 simp only [lgA, lgZ, lgS] at qy0 qy1 qy2
 clear q f
 clear hz0
 clear hz1
 refine (digitsKnown_any _ (hm.later hB)).mono ?_
 rintro e w3 ⟨rfl, hb⟩
 have g1 := g1.past hb
 have g2 := g2.past hb
 have g3 := g3.past hb
 have g4 := g4.past hb
 obtain ⟨qx0, qx1, qx2, lx⟩ := bq3 hb lx qx0 qx1 qx2
 obtain ⟨qy0, qy1, qy2, ly⟩ := bq3 hb ly qy0 qy1 qy2
 have hB := below_later hB hb
 clear hb
 go_wp2_with fail
 refine (HLX.out _).mono ?_
 rintro e w4 ⟨rfl, hb⟩
 have g1 := g1.past hb
 have g2 := g2.past hb
 have g3 := g3.past hb
 have g4 := g4.past hb
 obtain ⟨qx0, qx1, qx2, lx⟩ := bq3 hb lx qx0 qx1 qx2
 obtain ⟨qy0, qy1, qy2, ly⟩ := bq3 hb ly qy0 qy1 qy2
 have hB := below_later hB hb
 clear hb
 go_wp2_with fail
 refine (HLY.out _).mono ?_
 rintro e w5 ⟨rfl, hb⟩
 have g1 := g1.past hb
 have g2 := g2.past hb
 have g3 := g3.past hb
 have g4 := g4.past hb
 obtain ⟨qx0, qx1, qx2, lx⟩ := bq3 hb lx qx0 qx1 qx2
 obtain ⟨qy0, qy1, qy2, ly⟩ := bq3 hb ly qy0 qy1 qy2
 have hB := below_later hB hb
 clear hb
 go_wp2_with fail
 refine (HTX.out _ g1 g2).mono ?_
 rintro e w6 ⟨rfl, hb⟩
 have g1 := g1.past hb
 have g2 := g2.past hb
 have g3 := g3.past hb
 have g4 := g4.past hb
 obtain ⟨qx0, qx1, qx2, lx⟩ := bq3 hb lx qx0 qx1 qx2
 obtain ⟨qy0, qy1, qy2, ly⟩ := bq3 hb ly qy0 qy1 qy2
 have hB := below_later hB hb
 clear hb
 go_wp2_with fail
 refine (HTY.out _ g3 g4).mono ?_
 rintro e w7 ⟨rfl, hb⟩
 have g1 := g1.past hb
 have g2 := g2.past hb
 have g3 := g3.past hb
 have g4 := g4.past hb
 obtain ⟨qx0, qx1, qx2, lx⟩ := bq3 hb lx qx0 qx1 qx2
 obtain ⟨qy0, qy1, qy2, ly⟩ := bq3 hb ly qy0 qy1 qy2
 have hB := below_later hB hb
 clear hb
 go_wp2_with fail
 refine (HCK.out _ g1 g2).mono ?_
 rintro e w8 ⟨rfl, hb⟩
 have g1 := g1.past hb
 have g2 := g2.past hb
 have g3 := g3.past hb
 have g4 := g4.past hb
 obtain ⟨qx0, qx1, qx2, lx⟩ := bq3 hb lx qx0 qx1 qx2
 obtain ⟨qy0, qy1, qy2, ly⟩ := bq3 hb ly qy0 qy1 qy2
 have hB := below_later hB hb
 clear hb
 go_wp2_with fail
 refine (HRS.out _ (hm.later hB)).mono ?_
 rintro e w9 ⟨ahSU, nhSU, chSU, ahSD, nhSD, chSD, rfl, hSU, hSD, hb⟩
 have g1 := g1.past hb
 have g2 := g2.past hb
 have g3 := g3.past hb
 have g4 := g4.past hb
 obtain ⟨qx0, qx1, qx2, lx⟩ := bq3 hb lx qx0 qx1 qx2
 obtain ⟨qy0, qy1, qy2, ly⟩ := bq3 hb ly qy0 qy1 qy2
 have hB := below_later hB hb
 clear hb
 go_wp2_with fail
 obtain ⟨w10, hW, hz0, hb, q, f⟩ := box1g w9 (w9.heap.size) (by omega) #[.bool bS, .slice ahSU nhSU chSU, .slice ahSD nhSD chSD] 31
 rw [hW]
 clear hW
 have g1 := g1.past hb
 have g2 := g2.past hb
 have g3 := g3.past hb
 have g4 := g4.past hb
 have hSU := hSU.past hb
 have hSD := hSD.past hb
 obtain ⟨qx0, qx1, qx2, lx⟩ := bq3 hb lx qx0 qx1 qx2
 obtain ⟨qy0, qy1, qy2, ly⟩ := bq3 hb ly qy0 qy1 qy2
 have hB := below_later hB hb
 clear hb
 have lr : w9.heap.size < w10.heap.size := by omega
 have qr0 := q 0; have qr1 := q 1; have qr2 := q 2
 simp only [lgA, lgZ, lgS] at qr0 qr1 qr2
 clear q f
 obtain ⟨w11, hW, hz1, hb, q, f⟩ := box1g w10 (w9.heap.size + 1) (by omega) #[.int .i64 0, .int .i64 AS] 48
 rw [hW]
 clear hW
 have g1 := g1.past hb
 have g2 := g2.past hb
 have g3 := g3.past hb
 have g4 := g4.past hb
 have hSU := hSU.past hb
 have hSD := hSD.past hb
 obtain ⟨qx0, qx1, qx2, lx⟩ := bq3 hb lx qx0 qx1 qx2
 obtain ⟨qy0, qy1, qy2, ly⟩ := bq3 hb ly qy0 qy1 qy2
 obtain ⟨qr0, qr1, qr2, lr⟩ := bq3 hb lr qr0 qr1 qr2
 have hB := below_later hB hb
 clear hb
 have le : w9.heap.size + 1 < w11.heap.size := by omega
 have qe0 := q 0; have qe1 := q 1
 simp only [lgA, lgZ, lgS] at qe0 qe1
 clear q f
 clear hz0
 clear hz1
 refine (HTS.out _ _ _ _ _ _ _ hSU.toNatAt hSD.toNatAt).mono ?_
 rintro e w12 ⟨rfl, hb⟩
 have g1 := g1.past hb
 have g2 := g2.past hb
 have g3 := g3.past hb
 have g4 := g4.past hb
 have hSU := hSU.past hb
 have hSD := hSD.past hb
 obtain ⟨qx0, qx1, qx2, lx⟩ := bq3 hb lx qx0 qx1 qx2
 obtain ⟨qy0, qy1, qy2, ly⟩ := bq3 hb ly qy0 qy1 qy2
 obtain ⟨qr0, qr1, qr2, lr⟩ := bq3 hb lr qr0 qr1 qr2
 obtain ⟨qe0, qe1, le⟩ := bq2 hb le qe0 qe1
 have hB := below_later hB hb
 clear hb
 go_wp2
 go_ret
 exact ⟨rfl, hB⟩
set_option maxRecDepth 100000 in
set_option maxHeartbeats 8000000 in
theorem digitsSame_m011 (b : Bool) (a : Option Addr) (n c : Nat) (l : List Nat) (a2 : Option Addr) (n2 c2 : Nat) (l2 : List Nat) (b3 : Bool) (a3 : Option Addr) (n3 c3 : Nat) (l3 : List Nat) (a4 : Option Addr) (n4 c4 : Nat) (l4 : List Nat) (s : ByteArray) (w : World) (g1 : NatAt w a n c l) (g2 : NatAt w a2 n2 c2 l2) (g3 : NatAt w a3 n3 c3 l3) (g4 : NatAt w a4 n4 c4 l4) (hs : s.size ≤ 9223372036854775807) (hm : MaxL w) (k1 : (decide ((10 : Int) < (n : Int)) || decide ((10 : Int) < (n2 : Int))) = false) (k2 : (decide ((10 : Int) < (n3 : Int)) || decide ((10 : Int) < (n4 : Int))) = false) (k3 : ¬ 200 < s.size) (hc1 : chkR b l l2 ≠ 0) (hc2 : chkR b3 l3 l4 = 0) (hE : readE s.data.toList ≠ 0) :
 Calls Tryd.prog 5 #[.agg #[.bool b, .slice a n c, .slice a2 n2 c2], .agg #[.bool b3, .slice a3 n3 c3, .slice a4 n4 c4], .string s] w (RetVal w (.bool true)) := by
 have hlx := fun w => longRatio_any b a n c a2 n2 c2 10 w (by have := g1.cle; have := g1.le; omega) (by have := g2.cle; have := g2.le; omega)
 have hly := fun w => longRatio_any b3 a3 n3 c3 a4 n4 c4 10 w (by have := g3.cle; have := g3.le; omega) (by have := g4.cle; have := g4.le; omega)
 have l1 : l.length ≤ 20 := by have := g1.len; simp at k1; omega
 have l2' : l2.length ≤ 20 := by have := g2.len; simp at k1; omega
 have l3' : l3.length ≤ 20 := by have := g3.len; simp at k2; omega
 have l4' : l4.length ≤ 20 := by have := g4.len; simp at k2; omega
 simp only [k1] at hlx
 simp only [k2] at hly
 have HLX := Lib.hid hlx
 have HLY := Lib.hid hly
 have tS : decide ((200 : Int) < (s.size : Int)) = false := decide_eq_false (by omega)
 have b1 : n ≤ 100 := by have := g1.len; omega
 have b2 : n2 ≤ 100 := by have := g2.len; omega
 have b3' : n3 ≤ 100 := by have := g3.len; omega
 have b4 : n4 ≤ 100 := by have := g4.len; omega
 have hck := fun w g1 g2 => check05_any b a n c l a2 n2 c2 l2 w g1 g2 (by omega) (by omega)
 have htx := fun w g1 g2 => text_any b a n c l a2 n2 c2 l2 w g1 g2 (by omega) (by omega)
 have hty := fun w g3 g4 => text_any b3 a3 n3 c3 l3 a4 n4 c4 l4 w g3 g4 (by omega) (by omega)
 obtain ⟨bS, hbS⟩ : ∃ x, (readR s.data.toList).1 = x := ⟨_, rfl⟩
 obtain ⟨uS, huS⟩ : ∃ x, (readR s.data.toList).2.1 = x := ⟨_, rfl⟩
 obtain ⟨dS, hdS⟩ : ∃ x, (readR s.data.toList).2.2 = x := ⟨_, rfl⟩
 obtain ⟨AS, hAS⟩ : ∃ x, readA s.data.toList = x := ⟨_, rfl⟩
 have hrS : readR s.data.toList = (bS, uS, dS) := by rw [← hbS, ← huS, ← hdS]
 have hlS := readR_len s.data.toList
 rw [huS, hdS] at hlS
 obtain ⟨ES, hES⟩ : ∃ x, readE s.data.toList = x := ⟨_, rfl⟩
 rw [hES] at hE
 have tE : ((ES : Int) != 0) = true := bne_iff_ne.2 (by omega)
 have hrs := fun w hm => read_is s w hs hm hrS hES hAS
 have HRS := Lib.hid hrs
 clear hrs hlS hrS hbS huS hdS hAS hE hES
 have e1 : textE b l l2 = ⟨#[]⟩ := if_neg hc1
 simp only [chkR_no hc1] at hck
 simp only [chkR_no hc1, e1] at htx
 obtain ⟨T2, hT2⟩ : ∃ x, textB b3 (val l3) (val l4) = x := ⟨_, rfl⟩
 have e2 : textE b3 l3 l4 = T2 := by rw [← hT2]; exact if_pos hc2
 simp only [hc2, e2] at hty
 clear hT2 e2
 have HCK := Lib.hid hck
 have HTX := Lib.hid htx
 have HTY := Lib.hid hty
 clear hck htx hty e1 hc1 hc2 hlx hly k1 k2 k3 l1 l2' l3' l4'
 go_enter Tryd.func5, Tryd.ntmps5
 have hB := Below.refl w.heap.size w
 go_wp2_with fail
 obtain ⟨w1, hW, hz0, hb, q, f⟩ := box1g w (w.heap.size) (by omega) #[.bool b, .slice a n c, .slice a2 n2 c2] 31
 rw [hW]
 clear hW
 have g1 := g1.past hb
 have g2 := g2.past hb
 have g3 := g3.past hb
 have g4 := g4.past hb
 have hB := below_later hB hb
 clear hb
 have lx : w.heap.size < w1.heap.size := by omega
 have qx0 := q 0; have qx1 := q 1; have qx2 := q 2
 simp only [lgA, lgZ, lgS] at qx0 qx1 qx2
 clear q f
 obtain ⟨w2, hW, hz1, hb, q, f⟩ := box1g w1 (w.heap.size + 1) (by omega) #[.bool b3, .slice a3 n3 c3, .slice a4 n4 c4] 31
 rw [hW]
 clear hW
 have g1 := g1.past hb
 have g2 := g2.past hb
 have g3 := g3.past hb
 have g4 := g4.past hb
 obtain ⟨qx0, qx1, qx2, lx⟩ := bq3 hb lx qx0 qx1 qx2
 have hB := below_later hB hb
 clear hb
 have ly : w.heap.size + 1 < w2.heap.size := by omega
 have qy0 := q 0; have qy1 := q 1; have qy2 := q 2
 simp only [lgA, lgZ, lgS] at qy0 qy1 qy2
 clear q f
 clear hz0
 clear hz1
 refine (digitsKnown_any _ (hm.later hB)).mono ?_
 rintro e w3 ⟨rfl, hb⟩
 have g1 := g1.past hb
 have g2 := g2.past hb
 have g3 := g3.past hb
 have g4 := g4.past hb
 obtain ⟨qx0, qx1, qx2, lx⟩ := bq3 hb lx qx0 qx1 qx2
 obtain ⟨qy0, qy1, qy2, ly⟩ := bq3 hb ly qy0 qy1 qy2
 have hB := below_later hB hb
 clear hb
 go_wp2_with fail
 refine (HLX.out _).mono ?_
 rintro e w4 ⟨rfl, hb⟩
 have g1 := g1.past hb
 have g2 := g2.past hb
 have g3 := g3.past hb
 have g4 := g4.past hb
 obtain ⟨qx0, qx1, qx2, lx⟩ := bq3 hb lx qx0 qx1 qx2
 obtain ⟨qy0, qy1, qy2, ly⟩ := bq3 hb ly qy0 qy1 qy2
 have hB := below_later hB hb
 clear hb
 go_wp2_with fail
 refine (HLY.out _).mono ?_
 rintro e w5 ⟨rfl, hb⟩
 have g1 := g1.past hb
 have g2 := g2.past hb
 have g3 := g3.past hb
 have g4 := g4.past hb
 obtain ⟨qx0, qx1, qx2, lx⟩ := bq3 hb lx qx0 qx1 qx2
 obtain ⟨qy0, qy1, qy2, ly⟩ := bq3 hb ly qy0 qy1 qy2
 have hB := below_later hB hb
 clear hb
 go_wp2_with fail
 refine (HTX.out _ g1 g2).mono ?_
 rintro e w6 ⟨rfl, hb⟩
 have g1 := g1.past hb
 have g2 := g2.past hb
 have g3 := g3.past hb
 have g4 := g4.past hb
 obtain ⟨qx0, qx1, qx2, lx⟩ := bq3 hb lx qx0 qx1 qx2
 obtain ⟨qy0, qy1, qy2, ly⟩ := bq3 hb ly qy0 qy1 qy2
 have hB := below_later hB hb
 clear hb
 go_wp2_with fail
 refine (HTY.out _ g3 g4).mono ?_
 rintro e w7 ⟨rfl, hb⟩
 have g1 := g1.past hb
 have g2 := g2.past hb
 have g3 := g3.past hb
 have g4 := g4.past hb
 obtain ⟨qx0, qx1, qx2, lx⟩ := bq3 hb lx qx0 qx1 qx2
 obtain ⟨qy0, qy1, qy2, ly⟩ := bq3 hb ly qy0 qy1 qy2
 have hB := below_later hB hb
 clear hb
 go_wp2_with fail
 refine (HCK.out _ g1 g2).mono ?_
 rintro e w8 ⟨rfl, hb⟩
 have g1 := g1.past hb
 have g2 := g2.past hb
 have g3 := g3.past hb
 have g4 := g4.past hb
 obtain ⟨qx0, qx1, qx2, lx⟩ := bq3 hb lx qx0 qx1 qx2
 obtain ⟨qy0, qy1, qy2, ly⟩ := bq3 hb ly qy0 qy1 qy2
 have hB := below_later hB hb
 clear hb
 go_wp2_with fail
 refine (HRS.out _ (hm.later hB)).mono ?_
 rintro e w9 ⟨ahSU, nhSU, chSU, ahSD, nhSD, chSD, rfl, hSU, hSD, hb⟩
 have g1 := g1.past hb
 have g2 := g2.past hb
 have g3 := g3.past hb
 have g4 := g4.past hb
 obtain ⟨qx0, qx1, qx2, lx⟩ := bq3 hb lx qx0 qx1 qx2
 obtain ⟨qy0, qy1, qy2, ly⟩ := bq3 hb ly qy0 qy1 qy2
 have hB := below_later hB hb
 clear hb
 go_wp2
 obtain ⟨w10, hW, hz0, hb, q, f⟩ := box1g w9 (w9.heap.size) (by omega) #[.bool bS, .slice ahSU nhSU chSU, .slice ahSD nhSD chSD] 31
 rw [hW]
 clear hW
 obtain ⟨qx0, qx1, qx2, lx⟩ := bq3 hb lx qx0 qx1 qx2
 obtain ⟨qy0, qy1, qy2, ly⟩ := bq3 hb ly qy0 qy1 qy2
 have hB := below_later hB hb
 clear hb
 have lr : w9.heap.size < w10.heap.size := by omega
 have qr0 := q 0; have qr1 := q 1; have qr2 := q 2
 simp only [lgA, lgZ, lgS] at qr0 qr1 qr2
 clear q f
 obtain ⟨w11, hW, hz1, hb, q, f⟩ := box1g w10 (w9.heap.size + 1) (by omega) #[.int .i64 ES, .int .i64 AS] 48
 rw [hW]
 clear hW
 obtain ⟨qx0, qx1, qx2, lx⟩ := bq3 hb lx qx0 qx1 qx2
 obtain ⟨qy0, qy1, qy2, ly⟩ := bq3 hb ly qy0 qy1 qy2
 obtain ⟨qr0, qr1, qr2, lr⟩ := bq3 hb lr qr0 qr1 qr2
 have hB := below_later hB hb
 clear hb
 have le : w9.heap.size + 1 < w11.heap.size := by omega
 have qe0 := q 0; have qe1 := q 1
 simp only [lgA, lgZ, lgS] at qe0 qe1
 clear q f
 clear hz0
 clear hz1
 go_ret
 exact ⟨rfl, hB⟩
set_option maxRecDepth 100000 in
set_option maxHeartbeats 8000000 in
theorem digitsSame_m100 (b : Bool) (a : Option Addr) (n c : Nat) (l : List Nat) (a2 : Option Addr) (n2 c2 : Nat) (l2 : List Nat) (b3 : Bool) (a3 : Option Addr) (n3 c3 : Nat) (l3 : List Nat) (a4 : Option Addr) (n4 c4 : Nat) (l4 : List Nat) (s : ByteArray) (w : World) (g1 : NatAt w a n c l) (g2 : NatAt w a2 n2 c2 l2) (g3 : NatAt w a3 n3 c3 l3) (g4 : NatAt w a4 n4 c4 l4) (hs : s.size ≤ 9223372036854775807) (hm : MaxL w) (k1 : (decide ((10 : Int) < (n : Int)) || decide ((10 : Int) < (n2 : Int))) = false) (k2 : (decide ((10 : Int) < (n3 : Int)) || decide ((10 : Int) < (n4 : Int))) = false) (k3 : ¬ 200 < s.size) (hc1 : chkR b l l2 = 0) (hc2 : chkR b3 l3 l4 ≠ 0) (hE : readE s.data.toList = 0) :
 Calls Tryd.prog 5 #[.agg #[.bool b, .slice a n c, .slice a2 n2 c2], .agg #[.bool b3, .slice a3 n3 c3, .slice a4 n4 c4], .string s] w (RetVal w (.bool true)) := by
 have hlx := fun w => longRatio_any b a n c a2 n2 c2 10 w (by have := g1.cle; have := g1.le; omega) (by have := g2.cle; have := g2.le; omega)
 have hly := fun w => longRatio_any b3 a3 n3 c3 a4 n4 c4 10 w (by have := g3.cle; have := g3.le; omega) (by have := g4.cle; have := g4.le; omega)
 have l1 : l.length ≤ 20 := by have := g1.len; simp at k1; omega
 have l2' : l2.length ≤ 20 := by have := g2.len; simp at k1; omega
 have l3' : l3.length ≤ 20 := by have := g3.len; simp at k2; omega
 have l4' : l4.length ≤ 20 := by have := g4.len; simp at k2; omega
 simp only [k1] at hlx
 simp only [k2] at hly
 have HLX := Lib.hid hlx
 have HLY := Lib.hid hly
 have tS : decide ((200 : Int) < (s.size : Int)) = false := decide_eq_false (by omega)
 have b1 : n ≤ 100 := by have := g1.len; omega
 have b2 : n2 ≤ 100 := by have := g2.len; omega
 have b3' : n3 ≤ 100 := by have := g3.len; omega
 have b4 : n4 ≤ 100 := by have := g4.len; omega
 have hck := fun w g1 g2 => check05_any b a n c l a2 n2 c2 l2 w g1 g2 (by omega) (by omega)
 have htx := fun w g1 g2 => text_any b a n c l a2 n2 c2 l2 w g1 g2 (by omega) (by omega)
 have hty := fun w g3 g4 => text_any b3 a3 n3 c3 l3 a4 n4 c4 l4 w g3 g4 (by omega) (by omega)
 obtain ⟨bS, hbS⟩ : ∃ x, (readR s.data.toList).1 = x := ⟨_, rfl⟩
 obtain ⟨uS, huS⟩ : ∃ x, (readR s.data.toList).2.1 = x := ⟨_, rfl⟩
 obtain ⟨dS, hdS⟩ : ∃ x, (readR s.data.toList).2.2 = x := ⟨_, rfl⟩
 obtain ⟨AS, hAS⟩ : ∃ x, readA s.data.toList = x := ⟨_, rfl⟩
 have hrS : readR s.data.toList = (bS, uS, dS) := by rw [← hbS, ← huS, ← hdS]
 have hlS := readR_len s.data.toList
 rw [huS, hdS] at hlS
 have hts := fun a n c a2 n2 c2 w g1 g2 => text_is bS a n c (digs uS) a2 n2 c2 (digs dS) w g1 g2 (by omega) (by omega) (T := s) (E := 0) (by have := (textB_back hE).1; rw [hbS, huS, hdS] at this; exact this) (by have := (textB_back hE).2; rw [hbS, huS, hdS] at this; exact this)
 have HTS := Lib.hid hts
 have hrs := fun w hm => read_is s w hs hm hrS hE hAS
 have HRS := Lib.hid hrs
 clear hts hrs hlS hrS hbS huS hdS hAS hE
 obtain ⟨T1, hT1⟩ : ∃ x, textB b (val l) (val l2) = x := ⟨_, rfl⟩
 have e1 : textE b l l2 = T1 := by rw [← hT1]; exact if_pos hc1
 obtain ⟨z1, z2, z3, z4, z5, z6⟩ := text_back g1.dig g2.dig l1 l2' hc1
 rw [hT1] at z1 z2 z3 z4
 simp only [hc1] at hck
 simp only [hc1, e1] at htx
 have hrx := fun w hm => read_is T1 w z1 hm z2 z3 z4
 simp only [z5, z6] at hrx
 have HRX := Lib.hid hrx
 have e2 : textE b3 l3 l4 = ⟨#[]⟩ := if_neg hc2
 simp only [chkR_no hc2, e2] at hty
 clear e2
 have HCK := Lib.hid hck
 have HTX := Lib.hid htx
 have HTY := Lib.hid hty
 clear hck htx hty e1 hc1 hc2 hlx hly k1 k2 k3 l1 l2' l3' l4' hT1 z1 z2 z3 z4 z5 z6 hrx
 go_enter Tryd.func5, Tryd.ntmps5
 have hB := Below.refl w.heap.size w
 go_wp2_with fail
 obtain ⟨w1, hW, hz0, hb, q, f⟩ := box1g w (w.heap.size) (by omega) #[.bool b, .slice a n c, .slice a2 n2 c2] 31
 rw [hW]
 clear hW
 have g1 := g1.past hb
 have g2 := g2.past hb
 have g3 := g3.past hb
 have g4 := g4.past hb
 have hB := below_later hB hb
 clear hb
 have lx : w.heap.size < w1.heap.size := by omega
 have qx0 := q 0; have qx1 := q 1; have qx2 := q 2
 simp only [lgA, lgZ, lgS] at qx0 qx1 qx2
 clear q f
 obtain ⟨w2, hW, hz1, hb, q, f⟩ := box1g w1 (w.heap.size + 1) (by omega) #[.bool b3, .slice a3 n3 c3, .slice a4 n4 c4] 31
 rw [hW]
 clear hW
 have g1 := g1.past hb
 have g2 := g2.past hb
 have g3 := g3.past hb
 have g4 := g4.past hb
 obtain ⟨qx0, qx1, qx2, lx⟩ := bq3 hb lx qx0 qx1 qx2
 have hB := below_later hB hb
 clear hb
 have ly : w.heap.size + 1 < w2.heap.size := by omega
 have qy0 := q 0; have qy1 := q 1; have qy2 := q 2
 simp only [lgA, lgZ, lgS] at qy0 qy1 qy2
 clear q f
 clear hz0
 clear hz1
 refine (digitsKnown_any _ (hm.later hB)).mono ?_
 rintro e w3 ⟨rfl, hb⟩
 have g1 := g1.past hb
 have g2 := g2.past hb
 have g3 := g3.past hb
 have g4 := g4.past hb
 obtain ⟨qx0, qx1, qx2, lx⟩ := bq3 hb lx qx0 qx1 qx2
 obtain ⟨qy0, qy1, qy2, ly⟩ := bq3 hb ly qy0 qy1 qy2
 have hB := below_later hB hb
 clear hb
 go_wp2_with fail
 refine (HLX.out _).mono ?_
 rintro e w4 ⟨rfl, hb⟩
 have g1 := g1.past hb
 have g2 := g2.past hb
 have g3 := g3.past hb
 have g4 := g4.past hb
 obtain ⟨qx0, qx1, qx2, lx⟩ := bq3 hb lx qx0 qx1 qx2
 obtain ⟨qy0, qy1, qy2, ly⟩ := bq3 hb ly qy0 qy1 qy2
 have hB := below_later hB hb
 clear hb
 go_wp2_with fail
 refine (HLY.out _).mono ?_
 rintro e w5 ⟨rfl, hb⟩
 have g1 := g1.past hb
 have g2 := g2.past hb
 have g3 := g3.past hb
 have g4 := g4.past hb
 obtain ⟨qx0, qx1, qx2, lx⟩ := bq3 hb lx qx0 qx1 qx2
 obtain ⟨qy0, qy1, qy2, ly⟩ := bq3 hb ly qy0 qy1 qy2
 have hB := below_later hB hb
 clear hb
 go_wp2_with fail
 refine (HTX.out _ g1 g2).mono ?_
 rintro e w6 ⟨rfl, hb⟩
 have g1 := g1.past hb
 have g2 := g2.past hb
 have g3 := g3.past hb
 have g4 := g4.past hb
 obtain ⟨qx0, qx1, qx2, lx⟩ := bq3 hb lx qx0 qx1 qx2
 obtain ⟨qy0, qy1, qy2, ly⟩ := bq3 hb ly qy0 qy1 qy2
 have hB := below_later hB hb
 clear hb
 go_wp2_with fail
 refine (HTY.out _ g3 g4).mono ?_
 rintro e w7 ⟨rfl, hb⟩
 have g1 := g1.past hb
 have g2 := g2.past hb
 have g3 := g3.past hb
 have g4 := g4.past hb
 obtain ⟨qx0, qx1, qx2, lx⟩ := bq3 hb lx qx0 qx1 qx2
 obtain ⟨qy0, qy1, qy2, ly⟩ := bq3 hb ly qy0 qy1 qy2
 have hB := below_later hB hb
 clear hb
 go_wp2_with fail
 refine (HCK.out _ g1 g2).mono ?_
 rintro e w8 ⟨rfl, hb⟩
 have g1 := g1.past hb
 have g2 := g2.past hb
 have g3 := g3.past hb
 have g4 := g4.past hb
 obtain ⟨qx0, qx1, qx2, lx⟩ := bq3 hb lx qx0 qx1 qx2
 obtain ⟨qy0, qy1, qy2, ly⟩ := bq3 hb ly qy0 qy1 qy2
 have hB := below_later hB hb
 clear hb
 go_wp2_with fail
 refine (HRX.out _ (hm.later hB)).mono ?_
 rintro e w9 ⟨ahZU, nhZU, chZU, ahZD, nhZD, chZD, rfl, hZU, hZD, hb⟩
 have g1 := g1.past hb
 have g2 := g2.past hb
 have g3 := g3.past hb
 have g4 := g4.past hb
 obtain ⟨qx0, qx1, qx2, lx⟩ := bq3 hb lx qx0 qx1 qx2
 obtain ⟨qy0, qy1, qy2, ly⟩ := bq3 hb ly qy0 qy1 qy2
 have hB := below_later hB hb
 clear hb
 go_wp2_with fail
 obtain ⟨w10, hW, hz0, hb, q, f⟩ := box1g w9 (w9.heap.size) (by omega) #[.bool b, .slice ahZU nhZU chZU, .slice ahZD nhZD chZD] 31
 rw [hW]
 clear hW
 have g1 := g1.past hb
 have g2 := g2.past hb
 have g3 := g3.past hb
 have g4 := g4.past hb
 have hZU := hZU.past hb
 have hZD := hZD.past hb
 obtain ⟨qx0, qx1, qx2, lx⟩ := bq3 hb lx qx0 qx1 qx2
 obtain ⟨qy0, qy1, qy2, ly⟩ := bq3 hb ly qy0 qy1 qy2
 have hB := below_later hB hb
 clear hb
 have lz : w9.heap.size < w10.heap.size := by omega
 have qz0 := q 0; have qz1 := q 1; have qz2 := q 2
 simp only [lgA, lgZ, lgS] at qz0 qz1 qz2
 clear q f
 obtain ⟨w11, hW, hz1, hb, q, f⟩ := box1g w10 (w9.heap.size + 1) (by omega) #[.int .i64 0, .int .i64 0] 48
 rw [hW]
 clear hW
 have g1 := g1.past hb
 have g2 := g2.past hb
 have g3 := g3.past hb
 have g4 := g4.past hb
 have hZU := hZU.past hb
 have hZD := hZD.past hb
 obtain ⟨qx0, qx1, qx2, lx⟩ := bq3 hb lx qx0 qx1 qx2
 obtain ⟨qy0, qy1, qy2, ly⟩ := bq3 hb ly qy0 qy1 qy2
 obtain ⟨qz0, qz1, qz2, lz⟩ := bq3 hb lz qz0 qz1 qz2
 have hB := below_later hB hb
 clear hb
 have lf : w9.heap.size + 1 < w11.heap.size := by omega
 have qf0 := q 0; have qf1 := q 1
 simp only [lgA, lgZ, lgS] at qf0 qf1
 clear q f
 clear hz0
 clear hz1
 refine (same_is _ _ _ _ _ _ _ _ _ _ _ _ _ _ _ _ hZU.toNatAt hZD.toNatAt g1 g2).mono ?_
 rintro e w12 ⟨rfl, hb⟩
 have g1 := g1.past hb
 have g2 := g2.past hb
 have g3 := g3.past hb
 have g4 := g4.past hb
 have hZU := hZU.past hb
 have hZD := hZD.past hb
 obtain ⟨qx0, qx1, qx2, lx⟩ := bq3 hb lx qx0 qx1 qx2
 obtain ⟨qy0, qy1, qy2, ly⟩ := bq3 hb ly qy0 qy1 qy2
 obtain ⟨qz0, qz1, qz2, lz⟩ := bq3 hb lz qz0 qz1 qz2
 obtain ⟨qf0, qf1, lf⟩ := bq2 hb lf qf0 qf1
 have hB := below_later hB hb
 clear hb
 go_wp2_with fail
 refine (HRS.out _ (hm.later hB)).mono ?_
 rintro e w13 ⟨ahSU, nhSU, chSU, ahSD, nhSD, chSD, rfl, hSU, hSD, hb⟩
 have g1 := g1.past hb
 have g2 := g2.past hb
 have g3 := g3.past hb
 have g4 := g4.past hb
 obtain ⟨qx0, qx1, qx2, lx⟩ := bq3 hb lx qx0 qx1 qx2
 obtain ⟨qy0, qy1, qy2, ly⟩ := bq3 hb ly qy0 qy1 qy2
 obtain ⟨qz0, qz1, qz2, lz⟩ := bq3 hb lz qz0 qz1 qz2
 obtain ⟨qf0, qf1, lf⟩ := bq2 hb lf qf0 qf1
 have hB := below_later hB hb
 clear hb
 go_wp2_with fail
 obtain ⟨w14, hW, hz0, hb, q, f⟩ := box1g w13 (w13.heap.size) (by omega) #[.bool bS, .slice ahSU nhSU chSU, .slice ahSD nhSD chSD] 31
 rw [hW]
 clear hW
 have g1 := g1.past hb
 have g2 := g2.past hb
 have g3 := g3.past hb
 have g4 := g4.past hb
 have hSU := hSU.past hb
 have hSD := hSD.past hb
 obtain ⟨qx0, qx1, qx2, lx⟩ := bq3 hb lx qx0 qx1 qx2
 obtain ⟨qy0, qy1, qy2, ly⟩ := bq3 hb ly qy0 qy1 qy2
 obtain ⟨qz0, qz1, qz2, lz⟩ := bq3 hb lz qz0 qz1 qz2
 obtain ⟨qf0, qf1, lf⟩ := bq2 hb lf qf0 qf1
 have hB := below_later hB hb
 clear hb
 have lr : w13.heap.size < w14.heap.size := by omega
 have qr0 := q 0; have qr1 := q 1; have qr2 := q 2
 simp only [lgA, lgZ, lgS] at qr0 qr1 qr2
 clear q f
 obtain ⟨w15, hW, hz1, hb, q, f⟩ := box1g w14 (w13.heap.size + 1) (by omega) #[.int .i64 0, .int .i64 AS] 48
 rw [hW]
 clear hW
 have g1 := g1.past hb
 have g2 := g2.past hb
 have g3 := g3.past hb
 have g4 := g4.past hb
 have hSU := hSU.past hb
 have hSD := hSD.past hb
 obtain ⟨qx0, qx1, qx2, lx⟩ := bq3 hb lx qx0 qx1 qx2
 obtain ⟨qy0, qy1, qy2, ly⟩ := bq3 hb ly qy0 qy1 qy2
 obtain ⟨qz0, qz1, qz2, lz⟩ := bq3 hb lz qz0 qz1 qz2
 obtain ⟨qf0, qf1, lf⟩ := bq2 hb lf qf0 qf1
 obtain ⟨qr0, qr1, qr2, lr⟩ := bq3 hb lr qr0 qr1 qr2
 have hB := below_later hB hb
 clear hb
 have le : w13.heap.size + 1 < w15.heap.size := by omega
 have qe0 := q 0; have qe1 := q 1
 simp only [lgA, lgZ, lgS] at qe0 qe1
 clear q f
 clear hz0
 clear hz1
 refine (HTS.out _ _ _ _ _ _ _ hSU.toNatAt hSD.toNatAt).mono ?_
 rintro e w16 ⟨rfl, hb⟩
 have g1 := g1.past hb
 have g2 := g2.past hb
 have g3 := g3.past hb
 have g4 := g4.past hb
 have hSU := hSU.past hb
 have hSD := hSD.past hb
 obtain ⟨qx0, qx1, qx2, lx⟩ := bq3 hb lx qx0 qx1 qx2
 obtain ⟨qy0, qy1, qy2, ly⟩ := bq3 hb ly qy0 qy1 qy2
 obtain ⟨qz0, qz1, qz2, lz⟩ := bq3 hb lz qz0 qz1 qz2
 obtain ⟨qf0, qf1, lf⟩ := bq2 hb lf qf0 qf1
 obtain ⟨qr0, qr1, qr2, lr⟩ := bq3 hb lr qr0 qr1 qr2
 obtain ⟨qe0, qe1, le⟩ := bq2 hb le qe0 qe1
 have hB := below_later hB hb
 clear hb
 go_wp2
 go_ret
 exact ⟨rfl, hB⟩
set_option maxRecDepth 100000 in
set_option maxHeartbeats 8000000 in
theorem digitsSame_m101 (b : Bool) (a : Option Addr) (n c : Nat) (l : List Nat) (a2 : Option Addr) (n2 c2 : Nat) (l2 : List Nat) (b3 : Bool) (a3 : Option Addr) (n3 c3 : Nat) (l3 : List Nat) (a4 : Option Addr) (n4 c4 : Nat) (l4 : List Nat) (s : ByteArray) (w : World) (g1 : NatAt w a n c l) (g2 : NatAt w a2 n2 c2 l2) (g3 : NatAt w a3 n3 c3 l3) (g4 : NatAt w a4 n4 c4 l4) (hs : s.size ≤ 9223372036854775807) (hm : MaxL w) (k1 : (decide ((10 : Int) < (n : Int)) || decide ((10 : Int) < (n2 : Int))) = false) (k2 : (decide ((10 : Int) < (n3 : Int)) || decide ((10 : Int) < (n4 : Int))) = false) (k3 : ¬ 200 < s.size) (hc1 : chkR b l l2 = 0) (hc2 : chkR b3 l3 l4 ≠ 0) (hE : readE s.data.toList ≠ 0) :
 Calls Tryd.prog 5 #[.agg #[.bool b, .slice a n c, .slice a2 n2 c2], .agg #[.bool b3, .slice a3 n3 c3, .slice a4 n4 c4], .string s] w (RetVal w (.bool true)) := by
 have hlx := fun w => longRatio_any b a n c a2 n2 c2 10 w (by have := g1.cle; have := g1.le; omega) (by have := g2.cle; have := g2.le; omega)
 have hly := fun w => longRatio_any b3 a3 n3 c3 a4 n4 c4 10 w (by have := g3.cle; have := g3.le; omega) (by have := g4.cle; have := g4.le; omega)
 have l1 : l.length ≤ 20 := by have := g1.len; simp at k1; omega
 have l2' : l2.length ≤ 20 := by have := g2.len; simp at k1; omega
 have l3' : l3.length ≤ 20 := by have := g3.len; simp at k2; omega
 have l4' : l4.length ≤ 20 := by have := g4.len; simp at k2; omega
 simp only [k1] at hlx
 simp only [k2] at hly
 have HLX := Lib.hid hlx
 have HLY := Lib.hid hly
 have tS : decide ((200 : Int) < (s.size : Int)) = false := decide_eq_false (by omega)
 have b1 : n ≤ 100 := by have := g1.len; omega
 have b2 : n2 ≤ 100 := by have := g2.len; omega
 have b3' : n3 ≤ 100 := by have := g3.len; omega
 have b4 : n4 ≤ 100 := by have := g4.len; omega
 have hck := fun w g1 g2 => check05_any b a n c l a2 n2 c2 l2 w g1 g2 (by omega) (by omega)
 have htx := fun w g1 g2 => text_any b a n c l a2 n2 c2 l2 w g1 g2 (by omega) (by omega)
 have hty := fun w g3 g4 => text_any b3 a3 n3 c3 l3 a4 n4 c4 l4 w g3 g4 (by omega) (by omega)
 obtain ⟨bS, hbS⟩ : ∃ x, (readR s.data.toList).1 = x := ⟨_, rfl⟩
 obtain ⟨uS, huS⟩ : ∃ x, (readR s.data.toList).2.1 = x := ⟨_, rfl⟩
 obtain ⟨dS, hdS⟩ : ∃ x, (readR s.data.toList).2.2 = x := ⟨_, rfl⟩
 obtain ⟨AS, hAS⟩ : ∃ x, readA s.data.toList = x := ⟨_, rfl⟩
 have hrS : readR s.data.toList = (bS, uS, dS) := by rw [← hbS, ← huS, ← hdS]
 have hlS := readR_len s.data.toList
 rw [huS, hdS] at hlS
 obtain ⟨ES, hES⟩ : ∃ x, readE s.data.toList = x := ⟨_, rfl⟩
 rw [hES] at hE
 have tE : ((ES : Int) != 0) = true := bne_iff_ne.2 (by omega)
 have hrs := fun w hm => read_is s w hs hm hrS hES hAS
 have HRS := Lib.hid hrs
 clear hrs hlS hrS hbS huS hdS hAS hE hES
 obtain ⟨T1, hT1⟩ : ∃ x, textB b (val l) (val l2) = x := ⟨_, rfl⟩
 have e1 : textE b l l2 = T1 := by rw [← hT1]; exact if_pos hc1
 obtain ⟨z1, z2, z3, z4, z5, z6⟩ := text_back g1.dig g2.dig l1 l2' hc1
 rw [hT1] at z1 z2 z3 z4
 simp only [hc1] at hck
 simp only [hc1, e1] at htx
 have hrx := fun w hm => read_is T1 w z1 hm z2 z3 z4
 simp only [z5, z6] at hrx
 have HRX := Lib.hid hrx
 have e2 : textE b3 l3 l4 = ⟨#[]⟩ := if_neg hc2
 simp only [chkR_no hc2, e2] at hty
 clear e2
 have HCK := Lib.hid hck
 have HTX := Lib.hid htx
 have HTY := Lib.hid hty
 clear hck htx hty e1 hc1 hc2 hlx hly k1 k2 k3 l1 l2' l3' l4' hT1 z1 z2 z3 z4 z5 z6 hrx
 go_enter Tryd.func5, Tryd.ntmps5
 have hB := Below.refl w.heap.size w
 go_wp2_with fail
 obtain ⟨w1, hW, hz0, hb, q, f⟩ := box1g w (w.heap.size) (by omega) #[.bool b, .slice a n c, .slice a2 n2 c2] 31
 rw [hW]
 clear hW
 have g1 := g1.past hb
 have g2 := g2.past hb
 have g3 := g3.past hb
 have g4 := g4.past hb
 have hB := below_later hB hb
 clear hb
 have lx : w.heap.size < w1.heap.size := by omega
 have qx0 := q 0; have qx1 := q 1; have qx2 := q 2
 simp only [lgA, lgZ, lgS] at qx0 qx1 qx2
 clear q f
 obtain ⟨w2, hW, hz1, hb, q, f⟩ := box1g w1 (w.heap.size + 1) (by omega) #[.bool b3, .slice a3 n3 c3, .slice a4 n4 c4] 31
 rw [hW]
 clear hW
 have g1 := g1.past hb
 have g2 := g2.past hb
 have g3 := g3.past hb
 have g4 := g4.past hb
 obtain ⟨qx0, qx1, qx2, lx⟩ := bq3 hb lx qx0 qx1 qx2
 have hB := below_later hB hb
 clear hb
 have ly : w.heap.size + 1 < w2.heap.size := by omega
 have qy0 := q 0; have qy1 := q 1; have qy2 := q 2
 simp only [lgA, lgZ, lgS] at qy0 qy1 qy2
 clear q f
 clear hz0
 clear hz1
 refine (digitsKnown_any _ (hm.later hB)).mono ?_
 rintro e w3 ⟨rfl, hb⟩
 have g1 := g1.past hb
 have g2 := g2.past hb
 have g3 := g3.past hb
 have g4 := g4.past hb
 obtain ⟨qx0, qx1, qx2, lx⟩ := bq3 hb lx qx0 qx1 qx2
 obtain ⟨qy0, qy1, qy2, ly⟩ := bq3 hb ly qy0 qy1 qy2
 have hB := below_later hB hb
 clear hb
 go_wp2_with fail
 refine (HLX.out _).mono ?_
 rintro e w4 ⟨rfl, hb⟩
 have g1 := g1.past hb
 have g2 := g2.past hb
 have g3 := g3.past hb
 have g4 := g4.past hb
 obtain ⟨qx0, qx1, qx2, lx⟩ := bq3 hb lx qx0 qx1 qx2
 obtain ⟨qy0, qy1, qy2, ly⟩ := bq3 hb ly qy0 qy1 qy2
 have hB := below_later hB hb
 clear hb
 go_wp2_with fail
 refine (HLY.out _).mono ?_
 rintro e w5 ⟨rfl, hb⟩
 have g1 := g1.past hb
 have g2 := g2.past hb
 have g3 := g3.past hb
 have g4 := g4.past hb
 obtain ⟨qx0, qx1, qx2, lx⟩ := bq3 hb lx qx0 qx1 qx2
 obtain ⟨qy0, qy1, qy2, ly⟩ := bq3 hb ly qy0 qy1 qy2
 have hB := below_later hB hb
 clear hb
 go_wp2_with fail
 refine (HTX.out _ g1 g2).mono ?_
 rintro e w6 ⟨rfl, hb⟩
 have g1 := g1.past hb
 have g2 := g2.past hb
 have g3 := g3.past hb
 have g4 := g4.past hb
 obtain ⟨qx0, qx1, qx2, lx⟩ := bq3 hb lx qx0 qx1 qx2
 obtain ⟨qy0, qy1, qy2, ly⟩ := bq3 hb ly qy0 qy1 qy2
 have hB := below_later hB hb
 clear hb
 go_wp2_with fail
 refine (HTY.out _ g3 g4).mono ?_
 rintro e w7 ⟨rfl, hb⟩
 have g1 := g1.past hb
 have g2 := g2.past hb
 have g3 := g3.past hb
 have g4 := g4.past hb
 obtain ⟨qx0, qx1, qx2, lx⟩ := bq3 hb lx qx0 qx1 qx2
 obtain ⟨qy0, qy1, qy2, ly⟩ := bq3 hb ly qy0 qy1 qy2
 have hB := below_later hB hb
 clear hb
 go_wp2_with fail
 refine (HCK.out _ g1 g2).mono ?_
 rintro e w8 ⟨rfl, hb⟩
 have g1 := g1.past hb
 have g2 := g2.past hb
 have g3 := g3.past hb
 have g4 := g4.past hb
 obtain ⟨qx0, qx1, qx2, lx⟩ := bq3 hb lx qx0 qx1 qx2
 obtain ⟨qy0, qy1, qy2, ly⟩ := bq3 hb ly qy0 qy1 qy2
 have hB := below_later hB hb
 clear hb
 go_wp2_with fail
 refine (HRX.out _ (hm.later hB)).mono ?_
 rintro e w9 ⟨ahZU, nhZU, chZU, ahZD, nhZD, chZD, rfl, hZU, hZD, hb⟩
 have g1 := g1.past hb
 have g2 := g2.past hb
 have g3 := g3.past hb
 have g4 := g4.past hb
 obtain ⟨qx0, qx1, qx2, lx⟩ := bq3 hb lx qx0 qx1 qx2
 obtain ⟨qy0, qy1, qy2, ly⟩ := bq3 hb ly qy0 qy1 qy2
 have hB := below_later hB hb
 clear hb
 go_wp2_with fail
 obtain ⟨w10, hW, hz0, hb, q, f⟩ := box1g w9 (w9.heap.size) (by omega) #[.bool b, .slice ahZU nhZU chZU, .slice ahZD nhZD chZD] 31
 rw [hW]
 clear hW
 have g1 := g1.past hb
 have g2 := g2.past hb
 have g3 := g3.past hb
 have g4 := g4.past hb
 have hZU := hZU.past hb
 have hZD := hZD.past hb
 obtain ⟨qx0, qx1, qx2, lx⟩ := bq3 hb lx qx0 qx1 qx2
 obtain ⟨qy0, qy1, qy2, ly⟩ := bq3 hb ly qy0 qy1 qy2
 have hB := below_later hB hb
 clear hb
 have lz : w9.heap.size < w10.heap.size := by omega
 have qz0 := q 0; have qz1 := q 1; have qz2 := q 2
 simp only [lgA, lgZ, lgS] at qz0 qz1 qz2
 clear q f
 obtain ⟨w11, hW, hz1, hb, q, f⟩ := box1g w10 (w9.heap.size + 1) (by omega) #[.int .i64 0, .int .i64 0] 48
 rw [hW]
 clear hW
 have g1 := g1.past hb
 have g2 := g2.past hb
 have g3 := g3.past hb
 have g4 := g4.past hb
 have hZU := hZU.past hb
 have hZD := hZD.past hb
 obtain ⟨qx0, qx1, qx2, lx⟩ := bq3 hb lx qx0 qx1 qx2
 obtain ⟨qy0, qy1, qy2, ly⟩ := bq3 hb ly qy0 qy1 qy2
 obtain ⟨qz0, qz1, qz2, lz⟩ := bq3 hb lz qz0 qz1 qz2
 have hB := below_later hB hb
 clear hb
 have lf : w9.heap.size + 1 < w11.heap.size := by omega
 have qf0 := q 0; have qf1 := q 1
 simp only [lgA, lgZ, lgS] at qf0 qf1
 clear q f
 clear hz0
 clear hz1
 refine (same_is _ _ _ _ _ _ _ _ _ _ _ _ _ _ _ _ hZU.toNatAt hZD.toNatAt g1 g2).mono ?_
 rintro e w12 ⟨rfl, hb⟩
 have g1 := g1.past hb
 have g2 := g2.past hb
 have g3 := g3.past hb
 have g4 := g4.past hb
 have hZU := hZU.past hb
 have hZD := hZD.past hb
 obtain ⟨qx0, qx1, qx2, lx⟩ := bq3 hb lx qx0 qx1 qx2
 obtain ⟨qy0, qy1, qy2, ly⟩ := bq3 hb ly qy0 qy1 qy2
 obtain ⟨qz0, qz1, qz2, lz⟩ := bq3 hb lz qz0 qz1 qz2
 obtain ⟨qf0, qf1, lf⟩ := bq2 hb lf qf0 qf1
 have hB := below_later hB hb
 clear hb
 go_wp2_with fail
 refine (HRS.out _ (hm.later hB)).mono ?_
 rintro e w13 ⟨ahSU, nhSU, chSU, ahSD, nhSD, chSD, rfl, hSU, hSD, hb⟩
 have g1 := g1.past hb
 have g2 := g2.past hb
 have g3 := g3.past hb
 have g4 := g4.past hb
 obtain ⟨qx0, qx1, qx2, lx⟩ := bq3 hb lx qx0 qx1 qx2
 obtain ⟨qy0, qy1, qy2, ly⟩ := bq3 hb ly qy0 qy1 qy2
 obtain ⟨qz0, qz1, qz2, lz⟩ := bq3 hb lz qz0 qz1 qz2
 obtain ⟨qf0, qf1, lf⟩ := bq2 hb lf qf0 qf1
 have hB := below_later hB hb
 clear hb
 go_wp2
 obtain ⟨w14, hW, hz0, hb, q, f⟩ := box1g w13 (w13.heap.size) (by omega) #[.bool bS, .slice ahSU nhSU chSU, .slice ahSD nhSD chSD] 31
 rw [hW]
 clear hW
 obtain ⟨qx0, qx1, qx2, lx⟩ := bq3 hb lx qx0 qx1 qx2
 obtain ⟨qy0, qy1, qy2, ly⟩ := bq3 hb ly qy0 qy1 qy2
 obtain ⟨qz0, qz1, qz2, lz⟩ := bq3 hb lz qz0 qz1 qz2
 obtain ⟨qf0, qf1, lf⟩ := bq2 hb lf qf0 qf1
 have hB := below_later hB hb
 clear hb
 have lr : w13.heap.size < w14.heap.size := by omega
 have qr0 := q 0; have qr1 := q 1; have qr2 := q 2
 simp only [lgA, lgZ, lgS] at qr0 qr1 qr2
 clear q f
 obtain ⟨w15, hW, hz1, hb, q, f⟩ := box1g w14 (w13.heap.size + 1) (by omega) #[.int .i64 ES, .int .i64 AS] 48
 rw [hW]
 clear hW
 obtain ⟨qx0, qx1, qx2, lx⟩ := bq3 hb lx qx0 qx1 qx2
 obtain ⟨qy0, qy1, qy2, ly⟩ := bq3 hb ly qy0 qy1 qy2
 obtain ⟨qz0, qz1, qz2, lz⟩ := bq3 hb lz qz0 qz1 qz2
 obtain ⟨qf0, qf1, lf⟩ := bq2 hb lf qf0 qf1
 obtain ⟨qr0, qr1, qr2, lr⟩ := bq3 hb lr qr0 qr1 qr2
 have hB := below_later hB hb
 clear hb
 have le : w13.heap.size + 1 < w15.heap.size := by omega
 have qe0 := q 0; have qe1 := q 1
 simp only [lgA, lgZ, lgS] at qe0 qe1
 clear q f
 clear hz0
 clear hz1
 go_ret
 exact ⟨rfl, hB⟩
set_option maxRecDepth 100000 in
set_option maxHeartbeats 8000000 in
theorem digitsSame_m110 (b : Bool) (a : Option Addr) (n c : Nat) (l : List Nat) (a2 : Option Addr) (n2 c2 : Nat) (l2 : List Nat) (b3 : Bool) (a3 : Option Addr) (n3 c3 : Nat) (l3 : List Nat) (a4 : Option Addr) (n4 c4 : Nat) (l4 : List Nat) (s : ByteArray) (w : World) (g1 : NatAt w a n c l) (g2 : NatAt w a2 n2 c2 l2) (g3 : NatAt w a3 n3 c3 l3) (g4 : NatAt w a4 n4 c4 l4) (hs : s.size ≤ 9223372036854775807) (hm : MaxL w) (k1 : (decide ((10 : Int) < (n : Int)) || decide ((10 : Int) < (n2 : Int))) = false) (k2 : (decide ((10 : Int) < (n3 : Int)) || decide ((10 : Int) < (n4 : Int))) = false) (k3 : ¬ 200 < s.size) (hc1 : chkR b l l2 = 0) (hc2 : chkR b3 l3 l4 = 0) (hE : readE s.data.toList = 0) :
 Calls Tryd.prog 5 #[.agg #[.bool b, .slice a n c, .slice a2 n2 c2], .agg #[.bool b3, .slice a3 n3 c3, .slice a4 n4 c4], .string s] w (RetVal w (.bool true)) := by
 have hlx := fun w => longRatio_any b a n c a2 n2 c2 10 w (by have := g1.cle; have := g1.le; omega) (by have := g2.cle; have := g2.le; omega)
 have hly := fun w => longRatio_any b3 a3 n3 c3 a4 n4 c4 10 w (by have := g3.cle; have := g3.le; omega) (by have := g4.cle; have := g4.le; omega)
 have l1 : l.length ≤ 20 := by have := g1.len; simp at k1; omega
 have l2' : l2.length ≤ 20 := by have := g2.len; simp at k1; omega
 have l3' : l3.length ≤ 20 := by have := g3.len; simp at k2; omega
 have l4' : l4.length ≤ 20 := by have := g4.len; simp at k2; omega
 simp only [k1] at hlx
 simp only [k2] at hly
 have HLX := Lib.hid hlx
 have HLY := Lib.hid hly
 have tS : decide ((200 : Int) < (s.size : Int)) = false := decide_eq_false (by omega)
 have b1 : n ≤ 100 := by have := g1.len; omega
 have b2 : n2 ≤ 100 := by have := g2.len; omega
 have b3' : n3 ≤ 100 := by have := g3.len; omega
 have b4 : n4 ≤ 100 := by have := g4.len; omega
 have hck := fun w g1 g2 => check05_any b a n c l a2 n2 c2 l2 w g1 g2 (by omega) (by omega)
 have htx := fun w g1 g2 => text_any b a n c l a2 n2 c2 l2 w g1 g2 (by omega) (by omega)
 have hty := fun w g3 g4 => text_any b3 a3 n3 c3 l3 a4 n4 c4 l4 w g3 g4 (by omega) (by omega)
 obtain ⟨bS, hbS⟩ : ∃ x, (readR s.data.toList).1 = x := ⟨_, rfl⟩
 obtain ⟨uS, huS⟩ : ∃ x, (readR s.data.toList).2.1 = x := ⟨_, rfl⟩
 obtain ⟨dS, hdS⟩ : ∃ x, (readR s.data.toList).2.2 = x := ⟨_, rfl⟩
 obtain ⟨AS, hAS⟩ : ∃ x, readA s.data.toList = x := ⟨_, rfl⟩
 have hrS : readR s.data.toList = (bS, uS, dS) := by rw [← hbS, ← huS, ← hdS]
 have hlS := readR_len s.data.toList
 rw [huS, hdS] at hlS
 have hts := fun a n c a2 n2 c2 w g1 g2 => text_is bS a n c (digs uS) a2 n2 c2 (digs dS) w g1 g2 (by omega) (by omega) (T := s) (E := 0) (by have := (textB_back hE).1; rw [hbS, huS, hdS] at this; exact this) (by have := (textB_back hE).2; rw [hbS, huS, hdS] at this; exact this)
 have HTS := Lib.hid hts
 have hrs := fun w hm => read_is s w hs hm hrS hE hAS
 have HRS := Lib.hid hrs
 clear hts hrs hlS hrS hbS huS hdS hAS hE
 obtain ⟨T1, hT1⟩ : ∃ x, textB b (val l) (val l2) = x := ⟨_, rfl⟩
 have e1 : textE b l l2 = T1 := by rw [← hT1]; exact if_pos hc1
 obtain ⟨z1, z2, z3, z4, z5, z6⟩ := text_back g1.dig g2.dig l1 l2' hc1
 rw [hT1] at z1 z2 z3 z4
 simp only [hc1] at hck
 simp only [hc1, e1] at htx
 have hrx := fun w hm => read_is T1 w z1 hm z2 z3 z4
 simp only [z5, z6] at hrx
 have HRX := Lib.hid hrx
 obtain ⟨T2, hT2⟩ : ∃ x, textB b3 (val l3) (val l4) = x := ⟨_, rfl⟩
 have e2 : textE b3 l3 l4 = T2 := by rw [← hT2]; exact if_pos hc2
 simp only [hc2, e2] at hty
 obtain ⟨Q, hQ⟩ : ∃ x, eqR b l l2 b3 l3 l4 = x := ⟨_, rfl⟩
 have tQ := text_same g1.dig g2.dig l1 l2' hc1 g3.dig g4.dig l3' l4' hc2
 rw [hT1, hT2, hQ] at tQ
 have hsr := fun w g1 g2 g3 g4 => sameRatio_any b a n c l a2 n2 c2 l2 b3 a3 n3 c3 l3 a4 n4 c4 l4 w g1 g2 g3 g4
 simp only [hQ] at hsr
 have HSR := Lib.hid hsr
 clear hsr hQ
 clear hT2 e2
 have HCK := Lib.hid hck
 have HTX := Lib.hid htx
 have HTY := Lib.hid hty
 clear hck htx hty e1 hc1 hc2 hlx hly k1 k2 k3 l1 l2' l3' l4' hT1 z1 z2 z3 z4 z5 z6 hrx
 go_enter Tryd.func5, Tryd.ntmps5
 have hB := Below.refl w.heap.size w
 go_wp2_with fail
 obtain ⟨w1, hW, hz0, hb, q, f⟩ := box1g w (w.heap.size) (by omega) #[.bool b, .slice a n c, .slice a2 n2 c2] 31
 rw [hW]
 clear hW
 have g1 := g1.past hb
 have g2 := g2.past hb
 have g3 := g3.past hb
 have g4 := g4.past hb
 have hB := below_later hB hb
 clear hb
 have lx : w.heap.size < w1.heap.size := by omega
 have qx0 := q 0; have qx1 := q 1; have qx2 := q 2
 simp only [lgA, lgZ, lgS] at qx0 qx1 qx2
 clear q f
 obtain ⟨w2, hW, hz1, hb, q, f⟩ := box1g w1 (w.heap.size + 1) (by omega) #[.bool b3, .slice a3 n3 c3, .slice a4 n4 c4] 31
 rw [hW]
 clear hW
 have g1 := g1.past hb
 have g2 := g2.past hb
 have g3 := g3.past hb
 have g4 := g4.past hb
 obtain ⟨qx0, qx1, qx2, lx⟩ := bq3 hb lx qx0 qx1 qx2
 have hB := below_later hB hb
 clear hb
 have ly : w.heap.size + 1 < w2.heap.size := by omega
 have qy0 := q 0; have qy1 := q 1; have qy2 := q 2
 simp only [lgA, lgZ, lgS] at qy0 qy1 qy2
 clear q f
 clear hz0
 clear hz1
 refine (digitsKnown_any _ (hm.later hB)).mono ?_
 rintro e w3 ⟨rfl, hb⟩
 have g1 := g1.past hb
 have g2 := g2.past hb
 have g3 := g3.past hb
 have g4 := g4.past hb
 obtain ⟨qx0, qx1, qx2, lx⟩ := bq3 hb lx qx0 qx1 qx2
 obtain ⟨qy0, qy1, qy2, ly⟩ := bq3 hb ly qy0 qy1 qy2
 have hB := below_later hB hb
 clear hb
 go_wp2_with fail
 refine (HLX.out _).mono ?_
 rintro e w4 ⟨rfl, hb⟩
 have g1 := g1.past hb
 have g2 := g2.past hb
 have g3 := g3.past hb
 have g4 := g4.past hb
 obtain ⟨qx0, qx1, qx2, lx⟩ := bq3 hb lx qx0 qx1 qx2
 obtain ⟨qy0, qy1, qy2, ly⟩ := bq3 hb ly qy0 qy1 qy2
 have hB := below_later hB hb
 clear hb
 go_wp2_with fail
 refine (HLY.out _).mono ?_
 rintro e w5 ⟨rfl, hb⟩
 have g1 := g1.past hb
 have g2 := g2.past hb
 have g3 := g3.past hb
 have g4 := g4.past hb
 obtain ⟨qx0, qx1, qx2, lx⟩ := bq3 hb lx qx0 qx1 qx2
 obtain ⟨qy0, qy1, qy2, ly⟩ := bq3 hb ly qy0 qy1 qy2
 have hB := below_later hB hb
 clear hb
 go_wp2_with fail
 refine (HTX.out _ g1 g2).mono ?_
 rintro e w6 ⟨rfl, hb⟩
 have g1 := g1.past hb
 have g2 := g2.past hb
 have g3 := g3.past hb
 have g4 := g4.past hb
 obtain ⟨qx0, qx1, qx2, lx⟩ := bq3 hb lx qx0 qx1 qx2
 obtain ⟨qy0, qy1, qy2, ly⟩ := bq3 hb ly qy0 qy1 qy2
 have hB := below_later hB hb
 clear hb
 go_wp2_with fail
 refine (HTY.out _ g3 g4).mono ?_
 rintro e w7 ⟨rfl, hb⟩
 have g1 := g1.past hb
 have g2 := g2.past hb
 have g3 := g3.past hb
 have g4 := g4.past hb
 obtain ⟨qx0, qx1, qx2, lx⟩ := bq3 hb lx qx0 qx1 qx2
 obtain ⟨qy0, qy1, qy2, ly⟩ := bq3 hb ly qy0 qy1 qy2
 have hB := below_later hB hb
 clear hb
 go_wp2_with fail
 refine (HCK.out _ g1 g2).mono ?_
 rintro e w8 ⟨rfl, hb⟩
 have g1 := g1.past hb
 have g2 := g2.past hb
 have g3 := g3.past hb
 have g4 := g4.past hb
 obtain ⟨qx0, qx1, qx2, lx⟩ := bq3 hb lx qx0 qx1 qx2
 obtain ⟨qy0, qy1, qy2, ly⟩ := bq3 hb ly qy0 qy1 qy2
 have hB := below_later hB hb
 clear hb
 go_wp2_with fail
 refine (HSR.out _ g1 g2 g3 g4).mono ?_
 rintro e w9 ⟨rfl, hb⟩
 have g1 := g1.past hb
 have g2 := g2.past hb
 have g3 := g3.past hb
 have g4 := g4.past hb
 obtain ⟨qx0, qx1, qx2, lx⟩ := bq3 hb lx qx0 qx1 qx2
 obtain ⟨qy0, qy1, qy2, ly⟩ := bq3 hb ly qy0 qy1 qy2
 have hB := below_later hB hb
 clear hb
 go_wp2_with fail
 refine (HRX.out _ (hm.later hB)).mono ?_
 rintro e w10 ⟨ahZU, nhZU, chZU, ahZD, nhZD, chZD, rfl, hZU, hZD, hb⟩
 have g1 := g1.past hb
 have g2 := g2.past hb
 have g3 := g3.past hb
 have g4 := g4.past hb
 obtain ⟨qx0, qx1, qx2, lx⟩ := bq3 hb lx qx0 qx1 qx2
 obtain ⟨qy0, qy1, qy2, ly⟩ := bq3 hb ly qy0 qy1 qy2
 have hB := below_later hB hb
 clear hb
 go_wp2_with fail
 obtain ⟨w11, hW, hz0, hb, q, f⟩ := box1g w10 (w10.heap.size) (by omega) #[.bool b, .slice ahZU nhZU chZU, .slice ahZD nhZD chZD] 31
 rw [hW]
 clear hW
 have g1 := g1.past hb
 have g2 := g2.past hb
 have g3 := g3.past hb
 have g4 := g4.past hb
 have hZU := hZU.past hb
 have hZD := hZD.past hb
 obtain ⟨qx0, qx1, qx2, lx⟩ := bq3 hb lx qx0 qx1 qx2
 obtain ⟨qy0, qy1, qy2, ly⟩ := bq3 hb ly qy0 qy1 qy2
 have hB := below_later hB hb
 clear hb
 have lz : w10.heap.size < w11.heap.size := by omega
 have qz0 := q 0; have qz1 := q 1; have qz2 := q 2
 simp only [lgA, lgZ, lgS] at qz0 qz1 qz2
 clear q f
 obtain ⟨w12, hW, hz1, hb, q, f⟩ := box1g w11 (w10.heap.size + 1) (by omega) #[.int .i64 0, .int .i64 0] 48
 rw [hW]
 clear hW
 have g1 := g1.past hb
 have g2 := g2.past hb
 have g3 := g3.past hb
 have g4 := g4.past hb
 have hZU := hZU.past hb
 have hZD := hZD.past hb
 obtain ⟨qx0, qx1, qx2, lx⟩ := bq3 hb lx qx0 qx1 qx2
 obtain ⟨qy0, qy1, qy2, ly⟩ := bq3 hb ly qy0 qy1 qy2
 obtain ⟨qz0, qz1, qz2, lz⟩ := bq3 hb lz qz0 qz1 qz2
 have hB := below_later hB hb
 clear hb
 have lf : w10.heap.size + 1 < w12.heap.size := by omega
 have qf0 := q 0; have qf1 := q 1
 simp only [lgA, lgZ, lgS] at qf0 qf1
 clear q f
 clear hz0
 clear hz1
 refine (same_is _ _ _ _ _ _ _ _ _ _ _ _ _ _ _ _ hZU.toNatAt hZD.toNatAt g1 g2).mono ?_
 rintro e w13 ⟨rfl, hb⟩
 have g1 := g1.past hb
 have g2 := g2.past hb
 have g3 := g3.past hb
 have g4 := g4.past hb
 have hZU := hZU.past hb
 have hZD := hZD.past hb
 obtain ⟨qx0, qx1, qx2, lx⟩ := bq3 hb lx qx0 qx1 qx2
 obtain ⟨qy0, qy1, qy2, ly⟩ := bq3 hb ly qy0 qy1 qy2
 obtain ⟨qz0, qz1, qz2, lz⟩ := bq3 hb lz qz0 qz1 qz2
 obtain ⟨qf0, qf1, lf⟩ := bq2 hb lf qf0 qf1
 have hB := below_later hB hb
 clear hb
 go_wp2_with fail
 refine (HRS.out _ (hm.later hB)).mono ?_
 rintro e w14 ⟨ahSU, nhSU, chSU, ahSD, nhSD, chSD, rfl, hSU, hSD, hb⟩
 have g1 := g1.past hb
 have g2 := g2.past hb
 have g3 := g3.past hb
 have g4 := g4.past hb
 obtain ⟨qx0, qx1, qx2, lx⟩ := bq3 hb lx qx0 qx1 qx2
 obtain ⟨qy0, qy1, qy2, ly⟩ := bq3 hb ly qy0 qy1 qy2
 obtain ⟨qz0, qz1, qz2, lz⟩ := bq3 hb lz qz0 qz1 qz2
 obtain ⟨qf0, qf1, lf⟩ := bq2 hb lf qf0 qf1
 have hB := below_later hB hb
 clear hb
 go_wp2_with fail
 obtain ⟨w15, hW, hz0, hb, q, f⟩ := box1g w14 (w14.heap.size) (by omega) #[.bool bS, .slice ahSU nhSU chSU, .slice ahSD nhSD chSD] 31
 rw [hW]
 clear hW
 have g1 := g1.past hb
 have g2 := g2.past hb
 have g3 := g3.past hb
 have g4 := g4.past hb
 have hSU := hSU.past hb
 have hSD := hSD.past hb
 obtain ⟨qx0, qx1, qx2, lx⟩ := bq3 hb lx qx0 qx1 qx2
 obtain ⟨qy0, qy1, qy2, ly⟩ := bq3 hb ly qy0 qy1 qy2
 obtain ⟨qz0, qz1, qz2, lz⟩ := bq3 hb lz qz0 qz1 qz2
 obtain ⟨qf0, qf1, lf⟩ := bq2 hb lf qf0 qf1
 have hB := below_later hB hb
 clear hb
 have lr : w14.heap.size < w15.heap.size := by omega
 have qr0 := q 0; have qr1 := q 1; have qr2 := q 2
 simp only [lgA, lgZ, lgS] at qr0 qr1 qr2
 clear q f
 obtain ⟨w16, hW, hz1, hb, q, f⟩ := box1g w15 (w14.heap.size + 1) (by omega) #[.int .i64 0, .int .i64 AS] 48
 rw [hW]
 clear hW
 have g1 := g1.past hb
 have g2 := g2.past hb
 have g3 := g3.past hb
 have g4 := g4.past hb
 have hSU := hSU.past hb
 have hSD := hSD.past hb
 obtain ⟨qx0, qx1, qx2, lx⟩ := bq3 hb lx qx0 qx1 qx2
 obtain ⟨qy0, qy1, qy2, ly⟩ := bq3 hb ly qy0 qy1 qy2
 obtain ⟨qz0, qz1, qz2, lz⟩ := bq3 hb lz qz0 qz1 qz2
 obtain ⟨qf0, qf1, lf⟩ := bq2 hb lf qf0 qf1
 obtain ⟨qr0, qr1, qr2, lr⟩ := bq3 hb lr qr0 qr1 qr2
 have hB := below_later hB hb
 clear hb
 have le : w14.heap.size + 1 < w16.heap.size := by omega
 have qe0 := q 0; have qe1 := q 1
 simp only [lgA, lgZ, lgS] at qe0 qe1
 clear q f
 clear hz0
 clear hz1
 refine (HTS.out _ _ _ _ _ _ _ hSU.toNatAt hSD.toNatAt).mono ?_
 rintro e w17 ⟨rfl, hb⟩
 have g1 := g1.past hb
 have g2 := g2.past hb
 have g3 := g3.past hb
 have g4 := g4.past hb
 have hSU := hSU.past hb
 have hSD := hSD.past hb
 obtain ⟨qx0, qx1, qx2, lx⟩ := bq3 hb lx qx0 qx1 qx2
 obtain ⟨qy0, qy1, qy2, ly⟩ := bq3 hb ly qy0 qy1 qy2
 obtain ⟨qz0, qz1, qz2, lz⟩ := bq3 hb lz qz0 qz1 qz2
 obtain ⟨qf0, qf1, lf⟩ := bq2 hb lf qf0 qf1
 obtain ⟨qr0, qr1, qr2, lr⟩ := bq3 hb lr qr0 qr1 qr2
 obtain ⟨qe0, qe1, le⟩ := bq2 hb le qe0 qe1
 have hB := below_later hB hb
 clear hb
 go_wp2
 go_ret
 exact ⟨rfl, hB⟩
set_option maxRecDepth 100000 in
set_option maxHeartbeats 8000000 in
theorem digitsSame_m111 (b : Bool) (a : Option Addr) (n c : Nat) (l : List Nat) (a2 : Option Addr) (n2 c2 : Nat) (l2 : List Nat) (b3 : Bool) (a3 : Option Addr) (n3 c3 : Nat) (l3 : List Nat) (a4 : Option Addr) (n4 c4 : Nat) (l4 : List Nat) (s : ByteArray) (w : World) (g1 : NatAt w a n c l) (g2 : NatAt w a2 n2 c2 l2) (g3 : NatAt w a3 n3 c3 l3) (g4 : NatAt w a4 n4 c4 l4) (hs : s.size ≤ 9223372036854775807) (hm : MaxL w) (k1 : (decide ((10 : Int) < (n : Int)) || decide ((10 : Int) < (n2 : Int))) = false) (k2 : (decide ((10 : Int) < (n3 : Int)) || decide ((10 : Int) < (n4 : Int))) = false) (k3 : ¬ 200 < s.size) (hc1 : chkR b l l2 = 0) (hc2 : chkR b3 l3 l4 = 0) (hE : readE s.data.toList ≠ 0) :
 Calls Tryd.prog 5 #[.agg #[.bool b, .slice a n c, .slice a2 n2 c2], .agg #[.bool b3, .slice a3 n3 c3, .slice a4 n4 c4], .string s] w (RetVal w (.bool true)) := by
 have hlx := fun w => longRatio_any b a n c a2 n2 c2 10 w (by have := g1.cle; have := g1.le; omega) (by have := g2.cle; have := g2.le; omega)
 have hly := fun w => longRatio_any b3 a3 n3 c3 a4 n4 c4 10 w (by have := g3.cle; have := g3.le; omega) (by have := g4.cle; have := g4.le; omega)
 have l1 : l.length ≤ 20 := by have := g1.len; simp at k1; omega
 have l2' : l2.length ≤ 20 := by have := g2.len; simp at k1; omega
 have l3' : l3.length ≤ 20 := by have := g3.len; simp at k2; omega
 have l4' : l4.length ≤ 20 := by have := g4.len; simp at k2; omega
 simp only [k1] at hlx
 simp only [k2] at hly
 have HLX := Lib.hid hlx
 have HLY := Lib.hid hly
 have tS : decide ((200 : Int) < (s.size : Int)) = false := decide_eq_false (by omega)
 have b1 : n ≤ 100 := by have := g1.len; omega
 have b2 : n2 ≤ 100 := by have := g2.len; omega
 have b3' : n3 ≤ 100 := by have := g3.len; omega
 have b4 : n4 ≤ 100 := by have := g4.len; omega
 have hck := fun w g1 g2 => check05_any b a n c l a2 n2 c2 l2 w g1 g2 (by omega) (by omega)
 have htx := fun w g1 g2 => text_any b a n c l a2 n2 c2 l2 w g1 g2 (by omega) (by omega)
 have hty := fun w g3 g4 => text_any b3 a3 n3 c3 l3 a4 n4 c4 l4 w g3 g4 (by omega) (by omega)
 obtain ⟨bS, hbS⟩ : ∃ x, (readR s.data.toList).1 = x := ⟨_, rfl⟩
 obtain ⟨uS, huS⟩ : ∃ x, (readR s.data.toList).2.1 = x := ⟨_, rfl⟩
 obtain ⟨dS, hdS⟩ : ∃ x, (readR s.data.toList).2.2 = x := ⟨_, rfl⟩
 obtain ⟨AS, hAS⟩ : ∃ x, readA s.data.toList = x := ⟨_, rfl⟩
 have hrS : readR s.data.toList = (bS, uS, dS) := by rw [← hbS, ← huS, ← hdS]
 have hlS := readR_len s.data.toList
 rw [huS, hdS] at hlS
 obtain ⟨ES, hES⟩ : ∃ x, readE s.data.toList = x := ⟨_, rfl⟩
 rw [hES] at hE
 have tE : ((ES : Int) != 0) = true := bne_iff_ne.2 (by omega)
 have hrs := fun w hm => read_is s w hs hm hrS hES hAS
 have HRS := Lib.hid hrs
 clear hrs hlS hrS hbS huS hdS hAS hE hES
 obtain ⟨T1, hT1⟩ : ∃ x, textB b (val l) (val l2) = x := ⟨_, rfl⟩
 have e1 : textE b l l2 = T1 := by rw [← hT1]; exact if_pos hc1
 obtain ⟨z1, z2, z3, z4, z5, z6⟩ := text_back g1.dig g2.dig l1 l2' hc1
 rw [hT1] at z1 z2 z3 z4
 simp only [hc1] at hck
 simp only [hc1, e1] at htx
 have hrx := fun w hm => read_is T1 w z1 hm z2 z3 z4
 simp only [z5, z6] at hrx
 have HRX := Lib.hid hrx
 obtain ⟨T2, hT2⟩ : ∃ x, textB b3 (val l3) (val l4) = x := ⟨_, rfl⟩
 have e2 : textE b3 l3 l4 = T2 := by rw [← hT2]; exact if_pos hc2
 simp only [hc2, e2] at hty
 obtain ⟨Q, hQ⟩ : ∃ x, eqR b l l2 b3 l3 l4 = x := ⟨_, rfl⟩
 have tQ := text_same g1.dig g2.dig l1 l2' hc1 g3.dig g4.dig l3' l4' hc2
 rw [hT1, hT2, hQ] at tQ
 have hsr := fun w g1 g2 g3 g4 => sameRatio_any b a n c l a2 n2 c2 l2 b3 a3 n3 c3 l3 a4 n4 c4 l4 w g1 g2 g3 g4
 simp only [hQ] at hsr
 have HSR := Lib.hid hsr
 clear hsr hQ
 clear hT2 e2
 have HCK := Lib.hid hck
 have HTX := Lib.hid htx
 have HTY := Lib.hid hty
 clear hck htx hty e1 hc1 hc2 hlx hly k1 k2 k3 l1 l2' l3' l4' hT1 z1 z2 z3 z4 z5 z6 hrx
 go_enter Tryd.func5, Tryd.ntmps5
 have hB := Below.refl w.heap.size w
 go_wp2_with fail
 obtain ⟨w1, hW, hz0, hb, q, f⟩ := box1g w (w.heap.size) (by omega) #[.bool b, .slice a n c, .slice a2 n2 c2] 31
 rw [hW]
 clear hW
 have g1 := g1.past hb
 have g2 := g2.past hb
 have g3 := g3.past hb
 have g4 := g4.past hb
 have hB := below_later hB hb
 clear hb
 have lx : w.heap.size < w1.heap.size := by omega
 have qx0 := q 0; have qx1 := q 1; have qx2 := q 2
 simp only [lgA, lgZ, lgS] at qx0 qx1 qx2
 clear q f
 obtain ⟨w2, hW, hz1, hb, q, f⟩ := box1g w1 (w.heap.size + 1) (by omega) #[.bool b3, .slice a3 n3 c3, .slice a4 n4 c4] 31
 rw [hW]
 clear hW
 have g1 := g1.past hb
 have g2 := g2.past hb
 have g3 := g3.past hb
 have g4 := g4.past hb
 obtain ⟨qx0, qx1, qx2, lx⟩ := bq3 hb lx qx0 qx1 qx2
 have hB := below_later hB hb
 clear hb
 have ly : w.heap.size + 1 < w2.heap.size := by omega
 have qy0 := q 0; have qy1 := q 1; have qy2 := q 2
 simp only [lgA, lgZ, lgS] at qy0 qy1 qy2
 clear q f
 clear hz0
 clear hz1
 refine (digitsKnown_any _ (hm.later hB)).mono ?_
 rintro e w3 ⟨rfl, hb⟩
 have g1 := g1.past hb
 have g2 := g2.past hb
 have g3 := g3.past hb
 have g4 := g4.past hb
 obtain ⟨qx0, qx1, qx2, lx⟩ := bq3 hb lx qx0 qx1 qx2
 obtain ⟨qy0, qy1, qy2, ly⟩ := bq3 hb ly qy0 qy1 qy2
 have hB := below_later hB hb
 clear hb
 go_wp2_with fail
 refine (HLX.out _).mono ?_
 rintro e w4 ⟨rfl, hb⟩
 have g1 := g1.past hb
 have g2 := g2.past hb
 have g3 := g3.past hb
 have g4 := g4.past hb
 obtain ⟨qx0, qx1, qx2, lx⟩ := bq3 hb lx qx0 qx1 qx2
 obtain ⟨qy0, qy1, qy2, ly⟩ := bq3 hb ly qy0 qy1 qy2
 have hB := below_later hB hb
 clear hb
 go_wp2_with fail
 refine (HLY.out _).mono ?_
 rintro e w5 ⟨rfl, hb⟩
 have g1 := g1.past hb
 have g2 := g2.past hb
 have g3 := g3.past hb
 have g4 := g4.past hb
 obtain ⟨qx0, qx1, qx2, lx⟩ := bq3 hb lx qx0 qx1 qx2
 obtain ⟨qy0, qy1, qy2, ly⟩ := bq3 hb ly qy0 qy1 qy2
 have hB := below_later hB hb
 clear hb
 go_wp2_with fail
 refine (HTX.out _ g1 g2).mono ?_
 rintro e w6 ⟨rfl, hb⟩
 have g1 := g1.past hb
 have g2 := g2.past hb
 have g3 := g3.past hb
 have g4 := g4.past hb
 obtain ⟨qx0, qx1, qx2, lx⟩ := bq3 hb lx qx0 qx1 qx2
 obtain ⟨qy0, qy1, qy2, ly⟩ := bq3 hb ly qy0 qy1 qy2
 have hB := below_later hB hb
 clear hb
 go_wp2_with fail
 refine (HTY.out _ g3 g4).mono ?_
 rintro e w7 ⟨rfl, hb⟩
 have g1 := g1.past hb
 have g2 := g2.past hb
 have g3 := g3.past hb
 have g4 := g4.past hb
 obtain ⟨qx0, qx1, qx2, lx⟩ := bq3 hb lx qx0 qx1 qx2
 obtain ⟨qy0, qy1, qy2, ly⟩ := bq3 hb ly qy0 qy1 qy2
 have hB := below_later hB hb
 clear hb
 go_wp2_with fail
 refine (HCK.out _ g1 g2).mono ?_
 rintro e w8 ⟨rfl, hb⟩
 have g1 := g1.past hb
 have g2 := g2.past hb
 have g3 := g3.past hb
 have g4 := g4.past hb
 obtain ⟨qx0, qx1, qx2, lx⟩ := bq3 hb lx qx0 qx1 qx2
 obtain ⟨qy0, qy1, qy2, ly⟩ := bq3 hb ly qy0 qy1 qy2
 have hB := below_later hB hb
 clear hb
 go_wp2_with fail
 refine (HSR.out _ g1 g2 g3 g4).mono ?_
 rintro e w9 ⟨rfl, hb⟩
 have g1 := g1.past hb
 have g2 := g2.past hb
 have g3 := g3.past hb
 have g4 := g4.past hb
 obtain ⟨qx0, qx1, qx2, lx⟩ := bq3 hb lx qx0 qx1 qx2
 obtain ⟨qy0, qy1, qy2, ly⟩ := bq3 hb ly qy0 qy1 qy2
 have hB := below_later hB hb
 clear hb
 go_wp2_with fail
 refine (HRX.out _ (hm.later hB)).mono ?_
 rintro e w10 ⟨ahZU, nhZU, chZU, ahZD, nhZD, chZD, rfl, hZU, hZD, hb⟩
 have g1 := g1.past hb
 have g2 := g2.past hb
 have g3 := g3.past hb
 have g4 := g4.past hb
 obtain ⟨qx0, qx1, qx2, lx⟩ := bq3 hb lx qx0 qx1 qx2
 obtain ⟨qy0, qy1, qy2, ly⟩ := bq3 hb ly qy0 qy1 qy2
 have hB := below_later hB hb
 clear hb
 go_wp2_with fail
 obtain ⟨w11, hW, hz0, hb, q, f⟩ := box1g w10 (w10.heap.size) (by omega) #[.bool b, .slice ahZU nhZU chZU, .slice ahZD nhZD chZD] 31
 rw [hW]
 clear hW
 have g1 := g1.past hb
 have g2 := g2.past hb
 have g3 := g3.past hb
 have g4 := g4.past hb
 have hZU := hZU.past hb
 have hZD := hZD.past hb
 obtain ⟨qx0, qx1, qx2, lx⟩ := bq3 hb lx qx0 qx1 qx2
 obtain ⟨qy0, qy1, qy2, ly⟩ := bq3 hb ly qy0 qy1 qy2
 have hB := below_later hB hb
 clear hb
 have lz : w10.heap.size < w11.heap.size := by omega
 have qz0 := q 0; have qz1 := q 1; have qz2 := q 2
 simp only [lgA, lgZ, lgS] at qz0 qz1 qz2
 clear q f
 obtain ⟨w12, hW, hz1, hb, q, f⟩ := box1g w11 (w10.heap.size + 1) (by omega) #[.int .i64 0, .int .i64 0] 48
 rw [hW]
 clear hW
 have g1 := g1.past hb
 have g2 := g2.past hb
 have g3 := g3.past hb
 have g4 := g4.past hb
 have hZU := hZU.past hb
 have hZD := hZD.past hb
 obtain ⟨qx0, qx1, qx2, lx⟩ := bq3 hb lx qx0 qx1 qx2
 obtain ⟨qy0, qy1, qy2, ly⟩ := bq3 hb ly qy0 qy1 qy2
 obtain ⟨qz0, qz1, qz2, lz⟩ := bq3 hb lz qz0 qz1 qz2
 have hB := below_later hB hb
 clear hb
 have lf : w10.heap.size + 1 < w12.heap.size := by omega
 have qf0 := q 0; have qf1 := q 1
 simp only [lgA, lgZ, lgS] at qf0 qf1
 clear q f
 clear hz0
 clear hz1
 refine (same_is _ _ _ _ _ _ _ _ _ _ _ _ _ _ _ _ hZU.toNatAt hZD.toNatAt g1 g2).mono ?_
 rintro e w13 ⟨rfl, hb⟩
 have g1 := g1.past hb
 have g2 := g2.past hb
 have g3 := g3.past hb
 have g4 := g4.past hb
 have hZU := hZU.past hb
 have hZD := hZD.past hb
 obtain ⟨qx0, qx1, qx2, lx⟩ := bq3 hb lx qx0 qx1 qx2
 obtain ⟨qy0, qy1, qy2, ly⟩ := bq3 hb ly qy0 qy1 qy2
 obtain ⟨qz0, qz1, qz2, lz⟩ := bq3 hb lz qz0 qz1 qz2
 obtain ⟨qf0, qf1, lf⟩ := bq2 hb lf qf0 qf1
 have hB := below_later hB hb
 clear hb
 go_wp2_with fail
 refine (HRS.out _ (hm.later hB)).mono ?_
 rintro e w14 ⟨ahSU, nhSU, chSU, ahSD, nhSD, chSD, rfl, hSU, hSD, hb⟩
 have g1 := g1.past hb
 have g2 := g2.past hb
 have g3 := g3.past hb
 have g4 := g4.past hb
 obtain ⟨qx0, qx1, qx2, lx⟩ := bq3 hb lx qx0 qx1 qx2
 obtain ⟨qy0, qy1, qy2, ly⟩ := bq3 hb ly qy0 qy1 qy2
 obtain ⟨qz0, qz1, qz2, lz⟩ := bq3 hb lz qz0 qz1 qz2
 obtain ⟨qf0, qf1, lf⟩ := bq2 hb lf qf0 qf1
 have hB := below_later hB hb
 clear hb
 go_wp2
 obtain ⟨w15, hW, hz0, hb, q, f⟩ := box1g w14 (w14.heap.size) (by omega) #[.bool bS, .slice ahSU nhSU chSU, .slice ahSD nhSD chSD] 31
 rw [hW]
 clear hW
 obtain ⟨qx0, qx1, qx2, lx⟩ := bq3 hb lx qx0 qx1 qx2
 obtain ⟨qy0, qy1, qy2, ly⟩ := bq3 hb ly qy0 qy1 qy2
 obtain ⟨qz0, qz1, qz2, lz⟩ := bq3 hb lz qz0 qz1 qz2
 obtain ⟨qf0, qf1, lf⟩ := bq2 hb lf qf0 qf1
 have hB := below_later hB hb
 clear hb
 have lr : w14.heap.size < w15.heap.size := by omega
 have qr0 := q 0; have qr1 := q 1; have qr2 := q 2
 simp only [lgA, lgZ, lgS] at qr0 qr1 qr2
 clear q f
 obtain ⟨w16, hW, hz1, hb, q, f⟩ := box1g w15 (w14.heap.size + 1) (by omega) #[.int .i64 ES, .int .i64 AS] 48
 rw [hW]
 clear hW
 obtain ⟨qx0, qx1, qx2, lx⟩ := bq3 hb lx qx0 qx1 qx2
 obtain ⟨qy0, qy1, qy2, ly⟩ := bq3 hb ly qy0 qy1 qy2
 obtain ⟨qz0, qz1, qz2, lz⟩ := bq3 hb lz qz0 qz1 qz2
 obtain ⟨qf0, qf1, lf⟩ := bq2 hb lf qf0 qf1
 obtain ⟨qr0, qr1, qr2, lr⟩ := bq3 hb lr qr0 qr1 qr2
 have hB := below_later hB hb
 clear hb
 have le : w14.heap.size + 1 < w16.heap.size := by omega
 have qe0 := q 0; have qe1 := q 1
 simp only [lgA, lgZ, lgS] at qe0 qe1
 clear q f
 clear hz0
 clear hz1
 go_ret
 exact ⟨rfl, hB⟩
theorem digitsSame_any (b : Bool) (a : Option Addr) (n c : Nat) (l : List Nat) (a2 : Option Addr) (n2 c2 : Nat) (l2 : List Nat) (b3 : Bool) (a3 : Option Addr) (n3 c3 : Nat) (l3 : List Nat) (a4 : Option Addr) (n4 c4 : Nat) (l4 : List Nat) (s : ByteArray) (w : World) (g1 : NatAt w a n c l) (g2 : NatAt w a2 n2 c2 l2) (g3 : NatAt w a3 n3 c3 l3) (g4 : NatAt w a4 n4 c4 l4) (hs : s.size ≤ 9223372036854775807) (hm : MaxL w) :
 Calls Tryd.prog 5 #[.agg #[.bool b, .slice a n c, .slice a2 n2 c2], .agg #[.bool b3, .slice a3 n3 c3, .slice a4 n4 c4], .string s] w (RetVal w (.bool true)) := by
 cases k1 : (decide ((10 : Int) < (n : Int)) || decide ((10 : Int) < (n2 : Int))) with
 | true => exact digitsSame_long1 b a n c l a2 n2 c2 l2 b3 a3 n3 c3 l3 a4 n4 c4 l4 s w g1 g2 g3 g4 hs hm k1
 | false =>
   cases k2 : (decide ((10 : Int) < (n3 : Int)) || decide ((10 : Int) < (n4 : Int))) with
   | true => exact digitsSame_long2 b a n c l a2 n2 c2 l2 b3 a3 n3 c3 l3 a4 n4 c4 l4 s w g1 g2 g3 g4 hs hm k1 k2
   | false =>
     by_cases k3 : 200 < s.size
     · exact digitsSame_long3 b a n c l a2 n2 c2 l2 b3 a3 n3 c3 l3 a4 n4 c4 l4 s w g1 g2 g3 g4 hs hm k1 k2 k3
     · by_cases hc1 : chkR b l l2 = 0 <;> by_cases hc2 : chkR b3 l3 l4 = 0 <;> by_cases hE : readE s.data.toList = 0
       · exact digitsSame_m110 b a n c l a2 n2 c2 l2 b3 a3 n3 c3 l3 a4 n4 c4 l4 s w g1 g2 g3 g4 hs hm k1 k2 k3 hc1 hc2 hE
       · exact digitsSame_m111 b a n c l a2 n2 c2 l2 b3 a3 n3 c3 l3 a4 n4 c4 l4 s w g1 g2 g3 g4 hs hm k1 k2 k3 hc1 hc2 hE
       · exact digitsSame_m100 b a n c l a2 n2 c2 l2 b3 a3 n3 c3 l3 a4 n4 c4 l4 s w g1 g2 g3 g4 hs hm k1 k2 k3 hc1 hc2 hE
       · exact digitsSame_m101 b a n c l a2 n2 c2 l2 b3 a3 n3 c3 l3 a4 n4 c4 l4 s w g1 g2 g3 g4 hs hm k1 k2 k3 hc1 hc2 hE
       · exact digitsSame_m010 b a n c l a2 n2 c2 l2 b3 a3 n3 c3 l3 a4 n4 c4 l4 s w g1 g2 g3 g4 hs hm k1 k2 k3 hc1 hc2 hE
       · exact digitsSame_m011 b a n c l a2 n2 c2 l2 b3 a3 n3 c3 l3 a4 n4 c4 l4 s w g1 g2 g3 g4 hs hm k1 k2 k3 hc1 hc2 hE
       · exact digitsSame_m000 b a n c l a2 n2 c2 l2 b3 a3 n3 c3 l3 a4 n4 c4 l4 s w g1 g2 g3 g4 hs hm k1 k2 k3 hc1 hc2 hE
       · exact digitsSame_m001 b a n c l a2 n2 c2 l2 b3 a3 n3 c3 l3 a4 n4 c4 l4 s w g1 g2 g3 g4 hs hm k1 k2 k3 hc1 hc2 hE
end Go.Proofs.YtoecndogaklngaaDoor
