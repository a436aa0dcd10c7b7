import Derived.Test.YtmhjhhcdjecdbaaGreatS0Rk
import Derived.Test.YtmhjhhcdjecdbaaGreatLaw05eRk
import Derived.Test.YtmhjhhcdjecdbaaGreatKit6Rk
import Derived.Test.YtmhjhhcdjecdbaaGreatReg5Rk
import Derived.Test.YtmhjhhcdjecdbaaGreatRatio17Rk
set_option linter.unusedVariables false
set_option linter.unusedSimpArgs false
namespace Go.Proofs.YtmhjhhcdjecdbaaGreat
open Go.RowKit
theorem longB2 (x y : Bool × List Nat × List Nat) : longB (rawF [x, y]) 2 = (longP x || longP y) := by
 show ((longP x || (longP y || false)) || decide ((6 : Int) < ((2 : Nat) : Int))) = _
 rw [show decide ((6 : Int) < ((2 : Nat) : Int)) = false from rfl, Bool.or_false, Bool.or_false]
theorem rsub05_any (b1 b3 : Bool) (a1 : Option Addr) (n1 c1 : Nat) (a2 : Option Addr) (n2 c2 : Nat) (a3 : Option Addr) (n3 c3 : Nat) (a4 : Option Addr) (n4 c4 : Nat) (l1 l2 l3 l4 : List Nat) (w : World) (g1 : NatAt w a1 n1 c1 l1) (g2 : NatAt w a2 n2 c2 l2) (g3 : NatAt w a3 n3 c3 l3) (g4 : NatAt w a4 n4 c4 l4) (hs1 : n1 ≤ 40000) (hs2 : n2 ≤ 40000) (hs3 : n3 ≤ 40000) (hs4 : n4 ≤ 40000) :
 Calls Tryz.prog 17 #[.agg #[.bool b1, .slice a1 n1 c1, .slice a2 n2 c2], .agg #[.bool b3, .slice a3 n3 c3, .slice a4 n4 c4]] w (RetAns w (subA (b1, l1, l2) (b3, l3, l4))) := by
 by_cases h : chk3 (b1, l1, l2) = 0 ∧ chk3 (b3, l3, l4) = 0
 · obtain ⟨h1, h2⟩ := h
   obtain ⟨p, rfl, rfl, rfl⟩ := chkR_rat g1.dig g2.dig h1
   obtain ⟨q, rfl, rfl, rfl⟩ := chkR_rat g3.dig g4.dig h2
   have e := subA_rat p q
   unfold partsOf at e
   rw [e]
   exact rsub05_rat p q _ _ _ _ _ _ _ _ _ _ _ _ w g1 g2 g3 g4 hs1 hs2 hs3 hs4
 · have e : subA (b1, l1, l2) (b3, l3, l4) = .error 6 := if_neg h
   rw [e]
   exact rsub05_bad b1 b3 l1 l2 l3 l4 _ _ _ _ _ _ _ _ _ _ _ _ w g1 g2 g3 g4 hs1 hs2 hs3 hs4 h
theorem rdiv05_any (b1 b3 : Bool) (a1 : Option Addr) (n1 c1 : Nat) (a2 : Option Addr) (n2 c2 : Nat) (a3 : Option Addr) (n3 c3 : Nat) (a4 : Option Addr) (n4 c4 : Nat) (l1 l2 l3 l4 : List Nat) (w : World) (g1 : NatAt w a1 n1 c1 l1) (g2 : NatAt w a2 n2 c2 l2) (g3 : NatAt w a3 n3 c3 l3) (g4 : NatAt w a4 n4 c4 l4) (hs1 : n1 ≤ 40000) (hs2 : n2 ≤ 40000) (hs3 : n3 ≤ 40000) (hs4 : n4 ≤ 40000) :
 Calls Tryz.prog 19 #[.agg #[.bool b1, .slice a1 n1 c1, .slice a2 n2 c2], .agg #[.bool b3, .slice a3 n3 c3, .slice a4 n4 c4]] w (RetAns w (divA (b1, l1, l2) (b3, l3, l4))) := by
 by_cases h : chk3 (b1, l1, l2) = 0 ∧ chk3 (b3, l3, l4) = 0
 · obtain ⟨h1, h2⟩ := h
   obtain ⟨p, rfl, rfl, rfl⟩ := chkR_rat g1.dig g2.dig h1
   obtain ⟨q, rfl, rfl, rfl⟩ := chkR_rat g3.dig g4.dig h2
   have e := divA_rat p q
   unfold partsOf at e
   rw [e]
   by_cases hq : q = 0
   · rw [if_pos hq]
     exact rdiv05_zero p q _ _ _ _ _ _ _ _ _ _ _ _ w g1 g2 g3 g4 hs1 hs2 hs3 hs4 hq
   · rw [if_neg hq]
     exact rdiv05_rat p q _ _ _ _ _ _ _ _ _ _ _ _ w g1 g2 g3 g4 hs1 hs2 hs3 hs4 hq
 · have e : divA (b1, l1, l2) (b3, l3, l4) = .error 6 := if_neg h
   rw [e]
   exact rdiv05_bad b1 b3 l1 l2 l3 l4 _ _ _ _ _ _ _ _ _ _ _ _ w g1 g2 g3 g4 hs1 hs2 hs3 hs4 h
theorem rcmp05_any (b1 b3 : Bool) (a1 : Option Addr) (n1 c1 : Nat) (a2 : Option Addr) (n2 c2 : Nat) (a3 : Option Addr) (n3 c3 : Nat) (a4 : Option Addr) (n4 c4 : Nat) (l1 l2 l3 l4 : List Nat) (w : World) (g1 : NatAt w a1 n1 c1 l1) (g2 : NatAt w a2 n2 c2 l2) (g3 : NatAt w a3 n3 c3 l3) (g4 : NatAt w a4 n4 c4 l4) (hs1 : n1 ≤ 40000) (hs2 : n2 ≤ 40000) (hs3 : n3 ≤ 40000) (hs4 : n4 ≤ 40000) :
 Calls Tryz.prog 23 #[.agg #[.bool b1, .slice a1 n1 c1, .slice a2 n2 c2], .agg #[.bool b3, .slice a3 n3 c3, .slice a4 n4 c4]] w (RetVal w (.tuple #[.int .i64 (subA (b1, l1, l2) (b3, l3, l4)).up.sign, .int .i64 (subA (b1, l1, l2) (b3, l3, l4)).why])) := by
 by_cases h : chk3 (b1, l1, l2) = 0 ∧ chk3 (b3, l3, l4) = 0
 · obtain ⟨h1, h2⟩ := h
   obtain ⟨p, rfl, rfl, rfl⟩ := chkR_rat g1.dig g2.dig h1
   obtain ⟨q, rfl, rfl, rfl⟩ := chkR_rat g3.dig g4.dig h2
   have e := subA_rat p q
   unfold partsOf at e
   rw [e]
   exact rcmp05_rat p q _ _ _ _ _ _ _ _ _ _ _ _ w g1 g2 g3 g4 hs1 hs2 hs3 hs4
 · have e : subA (b1, l1, l2) (b3, l3, l4) = .error 6 := if_neg h
   rw [e]
   exact rcmp05_bad b1 b3 l1 l2 l3 l4 _ _ _ _ _ _ _ _ _ _ _ _ w g1 g2 g3 g4 hs1 hs2 hs3 hs4 h
theorem short_of {b1 : Bool} {l1 l2 : List Nat} {n : Int} (h1 : l1.length ≤ 5) (h2 : l2.length ≤ 5) (d1 : Dig l1) (d2 : Dig l2) (hn : -10000 ≤ n → n ≤ 10000 → n.natAbs ≤ 12) :
 chk3 (b1, l1, l2) = 0 → -10000 ≤ n → n ≤ 10000 → ShortPow (ratOf (b1, l1, l2)) n.natAbs := by
 intro hc u v
 obtain ⟨q, rfl, rfl, rfl⟩ := chkR_rat d1 d2 hc
 have e2 : ratOf (neg q.num, digs q.num.natAbs, digs q.den) = q := ratOf_parts q
 rw [e2]
 refine shortPow (L := 5) (Nat.max_le.2 ⟨h1, h2⟩) ?_
 have := hn u v
 omega
set_option maxRecDepth 100000 in
set_option maxHeartbeats 16000000 in
theorem ratioReckons_long {b1 b3 : Bool} {l1 l2 l3 l4 : List Nat} {a1 : Option Addr} {n1 c1 : Nat} {a2 : Option Addr} {n2 c2 : Nat} {a3 : Option Addr} {n3 c3 : Nat} {a4 : Option Addr} {n4 c4 : Nat} (n : Int) {w : World} (g1 : NatAt w a1 n1 c1 l1) (g2 : NatAt w a2 n2 c2 l2) (g3 : NatAt w a3 n3 c3 l3) (g4 : NatAt w a4 n4 c4 l4) (hlong : (longP (b1, l1, l2) || longP (b3, l3, l4)) = true) :
 Calls Tryz.prog 4 #[.agg #[.bool b1, .slice a1 n1 c1, .slice a2 n2 c2], .agg #[.bool b3, .slice a3 n3 c3, .slice a4 n4 c4], .int .i64 n] w (RetVal w (.bool true)) := by
 have hl : longB (rawF [(b1, l1, l2), (b3, l3, l4)]) 2 = true := by rw [longB2]; exact hlong
 have LB := Lib.hid hl
 clear hl hlong
 go_enter Tryz.func4, Tryz.ntmps4
 have hB := Below.refl w.heap.size w
 go_wp2_with fail
 obtain ⟨w1, hW, hz0, hb, q, f⟩ := box1g w (w.heap.size) (by omega) #[.bool b1, .slice a1 n1 c1, .slice a2 n2 c2] 30
 rw [hW]
 clear hW
 have g1 := g1.past hb
 have g2 := g2.past hb
 have g3 := g3.past hb
 have g4 := g4.past hb
 have hB := below_later hB hb
 clear hb
 have la : w.heap.size < w1.heap.size := by omega
 have qa0 := q 0; have qa1 := q 1; have qa2 := q 2
 simp only [lgA, lgZ, lgS] at qa0 qa1 qa2
 clear q f
 obtain ⟨w2, hW, hz1, hb, q, f⟩ := box1g w1 (w.heap.size + 1) (by omega) #[.bool b3, .slice a3 n3 c3, .slice a4 n4 c4] 30
 rw [hW]
 clear hW
 have g1 := g1.past hb
 have g2 := g2.past hb
 have g3 := g3.past hb
 have g4 := g4.past hb
 obtain ⟨qa0, qa1, qa2, la⟩ := bq3 hb la qa0 qa1 qa2
 have hB := below_later hB hb
 clear hb
 have lb : w.heap.size + 1 < w2.heap.size := by omega
 have qb0 := q 0; have qb1 := q 1; have qb2 := q 2
 simp only [lgA, lgZ, lgS] at qb0 qb1 qb2
 clear q f
 obtain ⟨w3, hW, hz2, hb, q, f⟩ := box1g w2 (w.heap.size + 1 + 1) (by omega) #[.bool b1, .slice a1 n1 c1, .slice a2 n2 c2, .bool b3, .slice a3 n3 c3, .slice a4 n4 c4] 30
 rw [hW]
 clear hW
 have g1 := g1.past hb
 have g2 := g2.past hb
 have g3 := g3.past hb
 have g4 := g4.past hb
 obtain ⟨qa0, qa1, qa2, la⟩ := bq3 hb la qa0 qa1 qa2
 obtain ⟨qb0, qb1, qb2, lb⟩ := bq3 hb lb qb0 qb1 qb2
 have hB := below_later hB hb
 clear hb
 have ls : w.heap.size + 1 + 1 < w3.heap.size := by omega
 have qs0 := q 0; have qs1 := q 1; have qs2 := q 2; have qs3 := q 3; have qs4 := q 4; have qs5 := q 5
 simp only [lgA, lgZ, lgS] at qs0 qs1 qs2 qs3 qs4 qs5
 clear q f
 clear hz0
 clear hz1
 clear hz2
 with_reducible refine (long05_any _ _ _ _ _ (RatsAt.raw2 (x := (b1, l1, l2)) (y := (b3, l3, l4)) ls qs0 qs1 qs2 qs3 qs4 qs5 g1 g2 g3 g4)).mono ?_
 rintro e w4 ⟨rfl, hb⟩
 have g1 := g1.past hb
 have g2 := g2.past hb
 have g3 := g3.past hb
 have g4 := g4.past hb
 obtain ⟨qa0, qa1, qa2, la⟩ := bq3 hb la qa0 qa1 qa2
 obtain ⟨qb0, qb1, qb2, lb⟩ := bq3 hb lb qb0 qb1 qb2
 have qs0 := bq hb ls qs0; have qs1 := bq hb ls qs1; have qs2 := bq hb ls qs2; have qs3 := bq hb ls qs3; have qs4 := bq hb ls qs4; have qs5 := bq hb ls qs5
 have ls := bl hb ls
 have hB := below_later hB hb
 clear hb
 rw [LB.out]
 go_wp2_with fail
 with_reducible refine (awake05 _).mono ?_
 rintro e w5 ⟨rfl, hb⟩
 have g1 := g1.past hb
 have g2 := g2.past hb
 have g3 := g3.past hb
 have g4 := g4.past hb
 obtain ⟨qa0, qa1, qa2, la⟩ := bq3 hb la qa0 qa1 qa2
 obtain ⟨qb0, qb1, qb2, lb⟩ := bq3 hb lb qb0 qb1 qb2
 have hB := below_later hB hb
 clear hb
 go_wp2
 go_ret
 exact ⟨rfl, hB⟩
set_option maxRecDepth 100000 in
set_option maxHeartbeats 16000000 in
theorem ratioReckons_up {b1 b3 : Bool} {l1 l2 l3 l4 : List Nat} {a1 : Option Addr} {n1 c1 : Nat} {a2 : Option Addr} {n2 c2 : Nat} {a3 : Option Addr} {n3 c3 : Nat} {a4 : Option Addr} {n4 c4 : Nat} (n : Int) {w : World} (g1 : NatAt w a1 n1 c1 l1) (g2 : NatAt w a2 n2 c2 l2) (g3 : NatAt w a3 n3 c3 l3) (g4 : NatAt w a4 n4 c4 l4) (hlong : (longP (b1, l1, l2) || longP (b3, l3, l4)) = false) (h1 : 12 < n) (h2 : n ≤ 10000) :
 Calls Tryz.prog 4 #[.agg #[.bool b1, .slice a1 n1 c1, .slice a2 n2 c2], .agg #[.bool b3, .slice a3 n3 c3, .slice a4 n4 c4], .int .i64 n] w (RetVal w (.bool true)) := by
 have hl : longB (rawF [(b1, l1, l2), (b3, l3, l4)]) 2 = false := by rw [longB2]; exact hlong
 have LB := Lib.hid hl
 clear hl hlong
 go_enter Tryz.func4, Tryz.ntmps4
 have hB := Below.refl w.heap.size w
 go_wp2_with fail
 obtain ⟨w1, hW, hz0, hb, q, f⟩ := box1g w (w.heap.size) (by omega) #[.bool b1, .slice a1 n1 c1, .slice a2 n2 c2] 30
 rw [hW]
 clear hW
 have g1 := g1.past hb
 have g2 := g2.past hb
 have g3 := g3.past hb
 have g4 := g4.past hb
 have hB := below_later hB hb
 clear hb
 have la : w.heap.size < w1.heap.size := by omega
 have qa0 := q 0; have qa1 := q 1; have qa2 := q 2
 simp only [lgA, lgZ, lgS] at qa0 qa1 qa2
 clear q f
 obtain ⟨w2, hW, hz1, hb, q, f⟩ := box1g w1 (w.heap.size + 1) (by omega) #[.bool b3, .slice a3 n3 c3, .slice a4 n4 c4] 30
 rw [hW]
 clear hW
 have g1 := g1.past hb
 have g2 := g2.past hb
 have g3 := g3.past hb
 have g4 := g4.past hb
 obtain ⟨qa0, qa1, qa2, la⟩ := bq3 hb la qa0 qa1 qa2
 have hB := below_later hB hb
 clear hb
 have lb : w.heap.size + 1 < w2.heap.size := by omega
 have qb0 := q 0; have qb1 := q 1; have qb2 := q 2
 simp only [lgA, lgZ, lgS] at qb0 qb1 qb2
 clear q f
 obtain ⟨w3, hW, hz2, hb, q, f⟩ := box1g w2 (w.heap.size + 1 + 1) (by omega) #[.bool b1, .slice a1 n1 c1, .slice a2 n2 c2, .bool b3, .slice a3 n3 c3, .slice a4 n4 c4] 30
 rw [hW]
 clear hW
 have g1 := g1.past hb
 have g2 := g2.past hb
 have g3 := g3.past hb
 have g4 := g4.past hb
 obtain ⟨qa0, qa1, qa2, la⟩ := bq3 hb la qa0 qa1 qa2
 obtain ⟨qb0, qb1, qb2, lb⟩ := bq3 hb lb qb0 qb1 qb2
 have hB := below_later hB hb
 clear hb
 have ls : w.heap.size + 1 + 1 < w3.heap.size := by omega
 have qs0 := q 0; have qs1 := q 1; have qs2 := q 2; have qs3 := q 3; have qs4 := q 4; have qs5 := q 5
 simp only [lgA, lgZ, lgS] at qs0 qs1 qs2 qs3 qs4 qs5
 clear q f
 clear hz0
 clear hz1
 clear hz2
 with_reducible refine (long05_any _ _ _ _ _ (RatsAt.raw2 (x := (b1, l1, l2)) (y := (b3, l3, l4)) ls qs0 qs1 qs2 qs3 qs4 qs5 g1 g2 g3 g4)).mono ?_
 rintro e w4 ⟨rfl, hb⟩
 have g1 := g1.past hb
 have g2 := g2.past hb
 have g3 := g3.past hb
 have g4 := g4.past hb
 obtain ⟨qa0, qa1, qa2, la⟩ := bq3 hb la qa0 qa1 qa2
 obtain ⟨qb0, qb1, qb2, lb⟩ := bq3 hb lb qb0 qb1 qb2
 have qs0 := bq hb ls qs0; have qs1 := bq hb ls qs1; have qs2 := bq hb ls qs2; have qs3 := bq hb ls qs3; have qs4 := bq hb ls qs4; have qs5 := bq hb ls qs5
 have ls := bl hb ls
 have hB := below_later hB hb
 clear hb
 rw [LB.out]
 go_wp2_with fail
 with_reducible refine (awake05 _).mono ?_
 rintro e w5 ⟨rfl, hb⟩
 have g1 := g1.past hb
 have g2 := g2.past hb
 have g3 := g3.past hb
 have g4 := g4.past hb
 obtain ⟨qa0, qa1, qa2, la⟩ := bq3 hb la qa0 qa1 qa2
 obtain ⟨qb0, qb1, qb2, lb⟩ := bq3 hb lb qb0 qb1 qb2
 have hB := below_later hB hb
 clear hb
 go_wp2
 go_ret
 exact ⟨rfl, hB⟩
set_option maxRecDepth 100000 in
set_option maxHeartbeats 16000000 in
theorem ratioReckons_down {b1 b3 : Bool} {l1 l2 l3 l4 : List Nat} {a1 : Option Addr} {n1 c1 : Nat} {a2 : Option Addr} {n2 c2 : Nat} {a3 : Option Addr} {n3 c3 : Nat} {a4 : Option Addr} {n4 c4 : Nat} (n : Int) {w : World} (g1 : NatAt w a1 n1 c1 l1) (g2 : NatAt w a2 n2 c2 l2) (g3 : NatAt w a3 n3 c3 l3) (g4 : NatAt w a4 n4 c4 l4) (hlong : (longP (b1, l1, l2) || longP (b3, l3, l4)) = false) (h1 : n < -12) (h2 : -10000 ≤ n) :
 Calls Tryz.prog 4 #[.agg #[.bool b1, .slice a1 n1 c1, .slice a2 n2 c2], .agg #[.bool b3, .slice a3 n3 c3, .slice a4 n4 c4], .int .i64 n] w (RetVal w (.bool true)) := by
 have hl : longB (rawF [(b1, l1, l2), (b3, l3, l4)]) 2 = false := by rw [longB2]; exact hlong
 have LB := Lib.hid hl
 clear hl hlong
 go_enter Tryz.func4, Tryz.ntmps4
 have hB := Below.refl w.heap.size w
 go_wp2_with fail
 obtain ⟨w1, hW, hz0, hb, q, f⟩ := box1g w (w.heap.size) (by omega) #[.bool b1, .slice a1 n1 c1, .slice a2 n2 c2] 30
 rw [hW]
 clear hW
 have g1 := g1.past hb
 have g2 := g2.past hb
 have g3 := g3.past hb
 have g4 := g4.past hb
 have hB := below_later hB hb
 clear hb
 have la : w.heap.size < w1.heap.size := by omega
 have qa0 := q 0; have qa1 := q 1; have qa2 := q 2
 simp only [lgA, lgZ, lgS] at qa0 qa1 qa2
 clear q f
 obtain ⟨w2, hW, hz1, hb, q, f⟩ := box1g w1 (w.heap.size + 1) (by omega) #[.bool b3, .slice a3 n3 c3, .slice a4 n4 c4] 30
 rw [hW]
 clear hW
 have g1 := g1.past hb
 have g2 := g2.past hb
 have g3 := g3.past hb
 have g4 := g4.past hb
 obtain ⟨qa0, qa1, qa2, la⟩ := bq3 hb la qa0 qa1 qa2
 have hB := below_later hB hb
 clear hb
 have lb : w.heap.size + 1 < w2.heap.size := by omega
 have qb0 := q 0; have qb1 := q 1; have qb2 := q 2
 simp only [lgA, lgZ, lgS] at qb0 qb1 qb2
 clear q f
 obtain ⟨w3, hW, hz2, hb, q, f⟩ := box1g w2 (w.heap.size + 1 + 1) (by omega) #[.bool b1, .slice a1 n1 c1, .slice a2 n2 c2, .bool b3, .slice a3 n3 c3, .slice a4 n4 c4] 30
 rw [hW]
 clear hW
 have g1 := g1.past hb
 have g2 := g2.past hb
 have g3 := g3.past hb
 have g4 := g4.past hb
 obtain ⟨qa0, qa1, qa2, la⟩ := bq3 hb la qa0 qa1 qa2
 obtain ⟨qb0, qb1, qb2, lb⟩ := bq3 hb lb qb0 qb1 qb2
 have hB := below_later hB hb
 clear hb
 have ls : w.heap.size + 1 + 1 < w3.heap.size := by omega
 have qs0 := q 0; have qs1 := q 1; have qs2 := q 2; have qs3 := q 3; have qs4 := q 4; have qs5 := q 5
 simp only [lgA, lgZ, lgS] at qs0 qs1 qs2 qs3 qs4 qs5
 clear q f
 clear hz0
 clear hz1
 clear hz2
 with_reducible refine (long05_any _ _ _ _ _ (RatsAt.raw2 (x := (b1, l1, l2)) (y := (b3, l3, l4)) ls qs0 qs1 qs2 qs3 qs4 qs5 g1 g2 g3 g4)).mono ?_
 rintro e w4 ⟨rfl, hb⟩
 have g1 := g1.past hb
 have g2 := g2.past hb
 have g3 := g3.past hb
 have g4 := g4.past hb
 obtain ⟨qa0, qa1, qa2, la⟩ := bq3 hb la qa0 qa1 qa2
 obtain ⟨qb0, qb1, qb2, lb⟩ := bq3 hb lb qb0 qb1 qb2
 have qs0 := bq hb ls qs0; have qs1 := bq hb ls qs1; have qs2 := bq hb ls qs2; have qs3 := bq hb ls qs3; have qs4 := bq hb ls qs4; have qs5 := bq hb ls qs5
 have ls := bl hb ls
 have hB := below_later hB hb
 clear hb
 rw [LB.out]
 go_wp2_with fail
 with_reducible refine (awake05 _).mono ?_
 rintro e w5 ⟨rfl, hb⟩
 have g1 := g1.past hb
 have g2 := g2.past hb
 have g3 := g3.past hb
 have g4 := g4.past hb
 obtain ⟨qa0, qa1, qa2, la⟩ := bq3 hb la qa0 qa1 qa2
 obtain ⟨qb0, qb1, qb2, lb⟩ := bq3 hb lb qb0 qb1 qb2
 have hB := below_later hB hb
 clear hb
 go_wp2
 go_ret
 exact ⟨rfl, hB⟩
set_option maxRecDepth 100000 in
set_option maxHeartbeats 16000000 in
theorem ratioReckons_go {b1 b3 : Bool} {l1 l2 l3 l4 : List Nat} {a1 : Option Addr} {n1 c1 : Nat} {a2 : Option Addr} {n2 c2 : Nat} {a3 : Option Addr} {n3 c3 : Nat} {a4 : Option Addr} {n4 c4 : Nat} (n : Int) {w : World} (g1 : NatAt w a1 n1 c1 l1) (g2 : NatAt w a2 n2 c2 l2) (g3 : NatAt w a3 n3 c3 l3) (g4 : NatAt w a4 n4 c4 l4) (hlong : (longP (b1, l1, l2) || longP (b3, l3, l4)) = false) (hn : (-12 ≤ n ∧ n ≤ 12) ∨ 10000 < n ∨ n < -10000) :
 Calls Tryz.prog 4 #[.agg #[.bool b1, .slice a1 n1 c1, .slice a2 n2 c2], .agg #[.bool b3, .slice a3 n3 c3, .slice a4 n4 c4], .int .i64 n] w (RetVal w (.bool true)) := by
 obtain ⟨⟨k1, k2⟩, k3, k4⟩ := (Bool.or_eq_false_iff.1 hlong).imp longP_no.1 longP_no.1
 have hp := short_of (b1 := b1) (n := n) k1 k2 g1.dig g2.dig (fun u v => by omega)
 have HP := Lib.hid hp
 have q1 : n1 ≤ 5 := by rw [← g1.len]; exact k1
 have q2 : n2 ≤ 5 := by rw [← g2.len]; exact k2
 have q3 : n3 ≤ 5 := by rw [← g3.len]; exact k3
 have q4 : n4 ≤ 5 := by rw [← g4.len]; exact k4
 clear hp k1 k2 k3 k4
 obtain ⟨S, hS⟩ : ∃ S, subA (b1, l1, l2) (b3, l3, l4) = S := ⟨_, rfl⟩
 obtain ⟨D, hD⟩ : ∃ D, divA (b1, l1, l2) (b3, l3, l4) = D := ⟨_, rfl⟩
 obtain ⟨P, hP⟩ : ∃ P, powA (b1, l1, l2) n = P := ⟨_, rfl⟩
 obtain ⟨R, hR⟩ : ∃ R, roundA (b1, l1, l2) = R := ⟨_, rfl⟩
 have HS := Lib.hid hS
 have HD := Lib.hid hD
 have HPP := Lib.hid hP
 have HR := Lib.hid hR
 clear hS hD hP hR
 have hl : longB (rawF [(b1, l1, l2), (b3, l3, l4)]) 2 = false := by rw [longB2]; exact hlong
 have LB := Lib.hid hl
 clear hl hlong
 rcases hn with ⟨h1, h2⟩ | h1 | h1
 all_goals
  go_enter Tryz.func4, Tryz.ntmps4
  have hB := Below.refl w.heap.size w
  go_wp2_with fail
  obtain ⟨w1, hW, hz0, hb, q, f⟩ := box1g w (w.heap.size) (by omega) #[.bool b1, .slice a1 n1 c1, .slice a2 n2 c2] 30
  rw [hW]
  clear hW
  have g1 := g1.past hb
  have g2 := g2.past hb
  have g3 := g3.past hb
  have g4 := g4.past hb
  have hB := below_later hB hb
  clear hb
  have la : w.heap.size < w1.heap.size := by omega
  have qa0 := q 0; have qa1 := q 1; have qa2 := q 2
  simp only [lgA, lgZ, lgS] at qa0 qa1 qa2
  clear q f
  obtain ⟨w2, hW, hz1, hb, q, f⟩ := box1g w1 (w.heap.size + 1) (by omega) #[.bool b3, .slice a3 n3 c3, .slice a4 n4 c4] 30
  rw [hW]
  clear hW
  have g1 := g1.past hb
  have g2 := g2.past hb
  have g3 := g3.past hb
  have g4 := g4.past hb
  obtain ⟨qa0, qa1, qa2, la⟩ := bq3 hb la qa0 qa1 qa2
  have hB := below_later hB hb
  clear hb
  have lb : w.heap.size + 1 < w2.heap.size := by omega
  have qb0 := q 0; have qb1 := q 1; have qb2 := q 2
  simp only [lgA, lgZ, lgS] at qb0 qb1 qb2
  clear q f
  obtain ⟨w3, hW, hz2, hb, q, f⟩ := box1g w2 (w.heap.size + 1 + 1) (by omega) #[.bool b1, .slice a1 n1 c1, .slice a2 n2 c2, .bool b3, .slice a3 n3 c3, .slice a4 n4 c4] 30
  rw [hW]
  clear hW
  have g1 := g1.past hb
  have g2 := g2.past hb
  have g3 := g3.past hb
  have g4 := g4.past hb
  obtain ⟨qa0, qa1, qa2, la⟩ := bq3 hb la qa0 qa1 qa2
  obtain ⟨qb0, qb1, qb2, lb⟩ := bq3 hb lb qb0 qb1 qb2
  have hB := below_later hB hb
  clear hb
  have ls : w.heap.size + 1 + 1 < w3.heap.size := by omega
  have qs0 := q 0; have qs1 := q 1; have qs2 := q 2; have qs3 := q 3; have qs4 := q 4; have qs5 := q 5
  simp only [lgA, lgZ, lgS] at qs0 qs1 qs2 qs3 qs4 qs5
  clear q f
  clear hz0
  clear hz1
  clear hz2
  with_reducible refine (long05_any _ _ _ _ _ (RatsAt.raw2 (x := (b1, l1, l2)) (y := (b3, l3, l4)) ls qs0 qs1 qs2 qs3 qs4 qs5 g1 g2 g3 g4)).mono ?_
  rintro e w4 ⟨rfl, hb⟩
  have g1 := g1.past hb
  have g2 := g2.past hb
  have g3 := g3.past hb
  have g4 := g4.past hb
  obtain ⟨qa0, qa1, qa2, la⟩ := bq3 hb la qa0 qa1 qa2
  obtain ⟨qb0, qb1, qb2, lb⟩ := bq3 hb lb qb0 qb1 qb2
  have qs0 := bq hb ls qs0; have qs1 := bq hb ls qs1; have qs2 := bq hb ls qs2; have qs3 := bq hb ls qs3; have qs4 := bq hb ls qs4; have qs5 := bq hb ls qs5
  have ls := bl hb ls
  have hB := below_later hB hb
  clear hb
  rw [LB.out]
  go_wp2_with fail
  refine wp_region_inv (by kernel_rfl) rfl (by kernel_rfl) (fun A0 V0 dd aa ww => ∃ (blk : Nat → Nat) (y43 y44 y45 y46 y7 y8 : Value), aa = puts A0 [(43, y43), (44, y44), (45, y45), (46, y46), (7, y7), (8, y8)] ∧ Below V0.heap.size V0 ww ∧ Boxes [(4, 3), (5, 3)] V0.heap.size dd blk ww ∧ Shut (dd 0 = true → y43 = .agg #[.bool b1, .slice a1 n1 c1, .slice a2 n2 c2]) ∧ Shut (dd 1 = true → PartV V0.heap.size (b1) (l1) (l2) y44 ww) ∧ Shut (dd 2 = true → y45 = .agg #[.bool b3, .slice a3 n3 c3, .slice a4 n4 c4]) ∧ Shut (dd 3 = true → PartV V0.heap.size (b3) (l3) (l4) y46 ww) ∧ Shut (dd 4 = true → y7 = .pointer (some ⟨blk 4, 0, none⟩)) ∧ Shut (dd 5 = true → y8 = .pointer (some ⟨blk 5, 0, none⟩)) ∧ Shut (dd 6 = true → HoldsV dd 4 1 (blk 4) y44 ww) ∧ Shut (dd 7 = true → HoldsV dd 5 3 (blk 5) y46 ww) ∧ True) ?_ ?_ ?_
  · exact ⟨fun _ => 0, _, _, _, _, _, _, puts_self _ [43, 44, 45, 46, 7, 8], (Below.refl _ _).drew, Boxes.none _ _ _ _, fun h => (by cases h), fun h => (by cases h), fun h => (by cases h), fun h => (by cases h), fun h => (by cases h), fun h => (by cases h), fun h => (by cases h), fun h => (by cases h), trivial⟩
  · refine Steps.cons ?_ (Steps.cons ?_ (Steps.cons ?_ (Steps.cons ?_ (Steps.cons ?_ (Steps.cons ?_ (Steps.cons ?_ (Steps.cons ?_ (Steps.nil))))))))
    · intro dd aa ww K hc hun hn hI hK
      obtain ⟨blk, y43, y44, y45, y46, y7, y8, ea, hb, hX, f0, f1, f2, f3, f4, f5, f6, f7, _⟩ := hI
      try simp [Region.binds] at hn
      have e0 := (hb.cell (p := ⟨w.heap.size, 0, none⟩) la).trans qa0
      have e1 := (hb.cell (p := ⟨w.heap.size, 1, none⟩) la).trans qa1
      have e2 := (hb.cell (p := ⟨w.heap.size, 2, none⟩) la).trans qa2
      subst ea
      simp only [puts, Act.put, lsA, lsZ, lsS]
      go_simp
      refine hK.out _ _ ?_
      exact ⟨blk, .agg #[.bool b1, .slice a1 n1 c1, .slice a2 n2 c2], y44, y45, y46, y7, y8, by simp only [puts, Act.put, lsA, lsZ, lsS], hb, hX.same 0 rfl, fun _ => rfl, uo f1 rfl, uo f2 rfl, uo f3 rfl, uo f4 rfl, uo f5 rfl, fun h => (f6.out (upd_of rfl h)).same 0, fun h => (f7.out (upd_of rfl h)).same 0, trivial⟩
    · intro dd aa ww K hc hun hn hI hK
      obtain ⟨blk, y43, y44, y45, y46, y7, y8, ea, hb, hX, f0, f1, f2, f3, f4, f5, f6, f7, _⟩ := hI
      try simp [Region.binds] at hn
      have ex := f0.out (by first | (simp [hn]; done) | exact rc hc hn | exact rc hc hn.1 | exact rc hc hn.2 | exact rc hc hn.2.1 | exact rc hc hn.2.2)
      subst ex
      subst ea
      simp only [puts, Act.put, lsA, lsZ, lsS]
      go_simp
      with_reducible refine (copyRatio_any b1 _ _ _ l1 _ _ _ l2 _ (g1.past hb) (g2.past hb) (by omega) (by omega)).mono ?_
      rintro e w1 ⟨ahIU, nhIU, chIU, ahID, nhID, chID, rfl, hIU, hID, h1⟩
      refine hK.out _ _ ?_
      exact ⟨blk, .agg #[.bool b1, .slice a1 n1 c1, .slice a2 n2 c2], .agg #[.bool (b1), .slice ahIU nhIU chIU, .slice ahID nhID chID], y45, y46, y7, y8, by simp only [puts, Act.put, lsA, lsZ, lsS], below_later hb h1, hX.past h1 1 rfl, fun h => rfl, fun _ => ⟨_, _, _, _, _, _, rfl, hIU.mono hb.size, hID.mono hb.size⟩, uo f2 rfl, fun h => (f3.out (upd_of rfl h)).past h1, uo f4 rfl, uo f5 rfl, fun h => absurd (HoldsV.vp (f6.out (upd_of rfl h))) (by rw [hun]; decide), fun h => (f7.out (upd_of rfl h)).past h1 1, trivial⟩
    · intro dd aa ww K hc hun hn hI hK
      obtain ⟨blk, y43, y44, y45, y46, y7, y8, ea, hb, hX, f0, f1, f2, f3, f4, f5, f6, f7, _⟩ := hI
      try simp [Region.binds] at hn
      have e0 := (hb.cell (p := ⟨w.heap.size + 1, 0, none⟩) lb).trans qb0
      have e1 := (hb.cell (p := ⟨w.heap.size + 1, 1, none⟩) lb).trans qb1
      have e2 := (hb.cell (p := ⟨w.heap.size + 1, 2, none⟩) lb).trans qb2
      subst ea
      simp only [puts, Act.put, lsA, lsZ, lsS]
      go_simp
      refine hK.out _ _ ?_
      exact ⟨blk, y43, y44, .agg #[.bool b3, .slice a3 n3 c3, .slice a4 n4 c4], y46, y7, y8, by simp only [puts, Act.put, lsA, lsZ, lsS], hb, hX.same 2 rfl, uo f0 rfl, uo f1 rfl, fun _ => rfl, uo f3 rfl, uo f4 rfl, uo f5 rfl, fun h => (f6.out (upd_of rfl h)).same 2, fun h => (f7.out (upd_of rfl h)).same 2, trivial⟩
    · intro dd aa ww K hc hun hn hI hK
      obtain ⟨blk, y43, y44, y45, y46, y7, y8, ea, hb, hX, f0, f1, f2, f3, f4, f5, f6, f7, _⟩ := hI
      try simp [Region.binds] at hn
      have ex := f2.out (by first | (simp [hn]; done) | exact rc hc hn | exact rc hc hn.1 | exact rc hc hn.2 | exact rc hc hn.2.1 | exact rc hc hn.2.2)
      subst ex
      subst ea
      simp only [puts, Act.put, lsA, lsZ, lsS]
      go_simp
      with_reducible refine (copyRatio_any b3 _ _ _ l3 _ _ _ l4 _ (g3.past hb) (g4.past hb) (by omega) (by omega)).mono ?_
      rintro e w1 ⟨ahJU, nhJU, chJU, ahJD, nhJD, chJD, rfl, hJU, hJD, h1⟩
      refine hK.out _ _ ?_
      exact ⟨blk, y43, y44, .agg #[.bool b3, .slice a3 n3 c3, .slice a4 n4 c4], .agg #[.bool (b3), .slice ahJU nhJU chJU, .slice ahJD nhJD chJD], y7, y8, by simp only [puts, Act.put, lsA, lsZ, lsS], below_later hb h1, hX.past h1 3 rfl, uo f0 rfl, fun h => (f1.out (upd_of rfl h)).past h1, fun h => rfl, fun _ => ⟨_, _, _, _, _, _, rfl, hJU.mono hb.size, hJD.mono hb.size⟩, uo f4 rfl, uo f5 rfl, fun h => (f6.out (upd_of rfl h)).past h1 3, fun h => absurd (HoldsV.vp (f7.out (upd_of rfl h))) (by rw [hun]; decide), trivial⟩
    · intro dd aa ww K hc hun hn hI hK
      obtain ⟨blk, y43, y44, y45, y46, y7, y8, ea, hb, hX, f0, f1, f2, f3, f4, f5, f6, f7, _⟩ := hI
      try simp [Region.binds] at hn
      subst ea
      simp only [puts, Act.put, lsA, lsZ, lsS]
      go_simp
      refine hK.out _ _ ?_
      exact ⟨setB blk 4 ww.heap.size, y43, y44, y45, y46, .pointer (some ⟨ww.heap.size, 0, none⟩), y8, by simp only [puts, Act.put, lsA, lsZ, lsS], below_alloc hb _, hX.new hb.size 4 #[.bool false, .slice none 0 0, .slice none 0 0] _ rfl (by simp [notU_bool, notU_slice, notU_i64]), uo f0 rfl, fun h => (f1.out (upd_of rfl h)).past ((Below.refl _ _).alloc (Nat.le_refl _) _), uo f2 rfl, fun h => (f3.out (upd_of rfl h)).past ((Below.refl _ _).alloc (Nat.le_refl _) _), fun _ => rfl, uo f5 rfl, fun h => absurd (HoldsV.up (f6.out (upd_of rfl h))) (by rw [hun]; decide), fun h => (f7.out (upd_of rfl h)).past ((Below.refl _ _).alloc (Nat.le_refl _) _) 4, trivial⟩
    · intro dd aa ww K hc hun hn hI hK
      obtain ⟨blk, y43, y44, y45, y46, y7, y8, ea, hb, hX, f0, f1, f2, f3, f4, f5, f6, f7, _⟩ := hI
      try simp [Region.binds] at hn
      subst ea
      simp only [puts, Act.put, lsA, lsZ, lsS]
      go_simp
      refine hK.out _ _ ?_
      exact ⟨setB blk 5 ww.heap.size, y43, y44, y45, y46, y7, .pointer (some ⟨ww.heap.size, 0, none⟩), by simp only [puts, Act.put, lsA, lsZ, lsS], below_alloc hb _, hX.new hb.size 5 #[.bool false, .slice none 0 0, .slice none 0 0] _ rfl (by simp [notU_bool, notU_slice, notU_i64]), uo f0 rfl, fun h => (f1.out (upd_of rfl h)).past ((Below.refl _ _).alloc (Nat.le_refl _) _), uo f2 rfl, fun h => (f3.out (upd_of rfl h)).past ((Below.refl _ _).alloc (Nat.le_refl _) _), uo f4 rfl, fun _ => rfl, fun h => (f6.out (upd_of rfl h)).past ((Below.refl _ _).alloc (Nat.le_refl _) _) 5, fun h => absurd (HoldsV.up (f7.out (upd_of rfl h))) (by rw [hun]; decide), trivial⟩
    · intro dd aa ww K hc hun hn hI hK
      obtain ⟨blk, y43, y44, y45, y46, y7, y8, ea, hb, hX, f0, f1, f2, f3, f4, f5, f6, f7, _⟩ := hI
      try simp [Region.binds] at hn
      have ex := f4.out (by first | (simp [hn]; done) | exact rc hc hn | exact rc hc hn.1 | exact rc hc hn.2 | exact rc hc hn.2.1 | exact rc hc hn.2.2)
      subst ex
      obtain ⟨ahIU, nhIU, chIU, ahID, nhID, chID, ex, hIU, hID⟩ := f1.out (by first | (simp [hn]; done) | exact rc hc hn | exact rc hc hn.1 | exact rc hc hn.2 | exact rc hc hn.2.1 | exact rc hc hn.2.2)
      subst ex
      have hd4 : dd 4 = true := by simp [hn]
      have hv1 : dd 1 = true := by simp [hn]
      obtain ⟨x1, x2, x3⟩ := hX.at_ (4, 3) (by simp) hd4
      obtain ⟨v0, v1, v2, z0, z1, z2, z3, z4, z5, _, _, _⟩ := x3.three
      have hv : ∀ v ∈ ([.bool (b1), .slice ahIU nhIU chIU, .slice ahID nhID chID] : List Value), notU v := by simp [notU_bool, notU_slice, notU_i64]
      subst ea
      simp only [puts, Act.put, lsA, lsZ, lsS]
      go_simp
      refine hK.out _ _ ?_
      exact ⟨blk, y43, .agg #[.bool (b1), .slice ahIU nhIU chIU, .slice ahID nhID chID], y45, y46, .pointer (some ⟨blk 4, 0, none⟩), y8, by simp only [puts, Act.put, lsA, lsZ, lsS], hb.trans (below_setCells _ _ x1 [.bool (b1), .slice ahIU nhIU chIU, .slice ahID nhID chID] 0 _), (hX.sets [.bool (b1), .slice ahIU nhIU chIU, .slice ahID nhID chID] _ 0 _ hv).same 6 rfl, uo f0 rfl, fun h => ((f1.out (upd_of rfl h)).sets [.bool (b1), .slice ahIU nhIU chIU, .slice ahID nhID chID] x3 (by simp) hv), uo f2 rfl, fun h => ((f3.out (upd_of rfl h)).sets [.bool (b1), .slice ahIU nhIU chIU, .slice ahID nhID chID] x3 (by simp) hv), fun h => rfl, uo f5 rfl, fun _ => (HoldsV.new hd4 hv1 x2 x3 [.bool (b1), .slice ahIU nhIU chIU, .slice ahID nhID chID] (by simp)).same 6, fun h => ((f7.out (upd_of rfl h)).sets (fun e => absurd (hX.ne (4, 3) (by simp) (5, 3) (by simp) hd4 (HoldsV.up (f7.out (upd_of rfl h))) e) (by decide)) [.bool (b1), .slice ahIU nhIU chIU, .slice ahID nhID chID]).same 6, trivial⟩
    · intro dd aa ww K hc hun hn hI hK
      obtain ⟨blk, y43, y44, y45, y46, y7, y8, ea, hb, hX, f0, f1, f2, f3, f4, f5, f6, f7, _⟩ := hI
      try simp [Region.binds] at hn
      have ex := f5.out (by first | (simp [hn]; done) | exact rc hc hn | exact rc hc hn.1 | exact rc hc hn.2 | exact rc hc hn.2.1 | exact rc hc hn.2.2)
      subst ex
      obtain ⟨ahJU, nhJU, chJU, ahJD, nhJD, chJD, ex, hJU, hJD⟩ := f3.out (by first | (simp [hn]; done) | exact rc hc hn | exact rc hc hn.1 | exact rc hc hn.2 | exact rc hc hn.2.1 | exact rc hc hn.2.2)
      subst ex
      have hd5 : dd 5 = true := by simp [hn]
      have hv3 : dd 3 = true := by simp [hn]
      obtain ⟨x1, x2, x3⟩ := hX.at_ (5, 3) (by simp) hd5
      obtain ⟨v0, v1, v2, z0, z1, z2, z3, z4, z5, _, _, _⟩ := x3.three
      have hv : ∀ v ∈ ([.bool (b3), .slice ahJU nhJU chJU, .slice ahJD nhJD chJD] : List Value), notU v := by simp [notU_bool, notU_slice, notU_i64]
      subst ea
      simp only [puts, Act.put, lsA, lsZ, lsS]
      go_simp
      refine hK.out _ _ ?_
      exact ⟨blk, y43, y44, y45, .agg #[.bool (b3), .slice ahJU nhJU chJU, .slice ahJD nhJD chJD], y7, .pointer (some ⟨blk 5, 0, none⟩), by simp only [puts, Act.put, lsA, lsZ, lsS], hb.trans (below_setCells _ _ x1 [.bool (b3), .slice ahJU nhJU chJU, .slice ahJD nhJD chJD] 0 _), (hX.sets [.bool (b3), .slice ahJU nhJU chJU, .slice ahJD nhJD chJD] _ 0 _ hv).same 7 rfl, uo f0 rfl, fun h => ((f1.out (upd_of rfl h)).sets [.bool (b3), .slice ahJU nhJU chJU, .slice ahJD nhJD chJD] x3 (by simp) hv), uo f2 rfl, fun h => ((f3.out (upd_of rfl h)).sets [.bool (b3), .slice ahJU nhJU chJU, .slice ahJD nhJD chJD] x3 (by simp) hv), uo f4 rfl, fun h => rfl, fun h => ((f6.out (upd_of rfl h)).sets (fun e => absurd (hX.ne (5, 3) (by simp) (4, 3) (by simp) hd5 (HoldsV.up (f6.out (upd_of rfl h))) e) (by decide)) [.bool (b3), .slice ahJU nhJU chJU, .slice ahJD nhJD chJD]).same 7, fun _ => (HoldsV.new hd5 hv3 x2 x3 [.bool (b3), .slice ahJU nhJU chJU, .slice ahJD nhJD chJD] (by simp)).same 7, trivial⟩
  intro dd aa w5 hd hI
  obtain ⟨blk, y43, y44, y45, y46, y7, y8, ea, hb, hX, f0, f1, f2, f3, f4, f5, f6, f7, _⟩ := hI
  have ex := f0.out (hd 0 (by simp))
  subst ex
  obtain ⟨ahIU, nhIU, chIU, ahID, nhID, chID, ex, hIU, hID⟩ := f1.out (hd 1 (by simp))
  subst ex
  have ex := f2.out (hd 2 (by simp))
  subst ex
  obtain ⟨ahJU, nhJU, chJU, ahJD, nhJD, chJD, ex, hJU, hJD⟩ := f3.out (hd 3 (by simp))
  subst ex
  have ex := f4.out (hd 4 (by simp))
  subst ex
  have ex := f5.out (hd 5 (by simp))
  subst ex
  obtain ⟨vs6, e, h6⟩ := f6.out (hd 6 (by simp))
  cases e
  obtain ⟨vs7, e, h7⟩ := f7.out (hd 7 (by simp))
  cases e
  have lin := h6.lt
  have qin0 := h6.at_ 0 (by simp)
  simp only [lgZ, lgS] at qin0
  have qin1 := h6.at_ 1 (by simp)
  simp only [lgZ, lgS] at qin1
  have qin2 := h6.at_ 2 (by simp)
  simp only [lgZ, lgS] at qin2
  generalize blk 4 = Bin at *
  have lby := h7.lt
  have qby0 := h7.at_ 0 (by simp)
  simp only [lgZ, lgS] at qby0
  have qby1 := h7.at_ 1 (by simp)
  simp only [lgZ, lgS] at qby1
  have qby2 := h7.at_ 2 (by simp)
  simp only [lgZ, lgS] at qby2
  generalize blk 5 = Bby at *
  subst ea
  simp only [puts, Act.put, lsA, lsZ, lsS]
  have g1 := g1.past hb
  have g2 := g2.past hb
  have g3 := g3.past hb
  have g4 := g4.past hb
  obtain ⟨qa0, qa1, qa2, la⟩ := bq3 hb la qa0 qa1 qa2
  obtain ⟨qb0, qb1, qb2, lb⟩ := bq3 hb lb qb0 qb1 qb2
  have hB := below_later hB hb
  clear hX
  clear hb hd
  have bhIU : nhIU ≤ 5 := by have h1 := hIU.len; have h2 := g1.len; omega
  have bhID : nhID ≤ 5 := by have h1 := hID.len; have h2 := g2.len; omega
  have bhJU : nhJU ≤ 5 := by have h1 := hJU.len; have h2 := g3.len; omega
  have bhJD : nhJD ≤ 5 := by have h1 := hJD.len; have h2 := g4.len; omega
  have hZ := Below.refl w5.heap.size w5
  have zB := hB
  have zg1 := g1
  have zg2 := g2
  have zg3 := g3
  have zg4 := g4
  have zhIU := hIU.toNatAt
  have zhID := hID.toNatAt
  have zhJU := hJU.toNatAt
  have zhJD := hJD.toNatAt
  go_wp2_with fail
  with_reducible refine (sub05_any b1 b3 _ _ _ _ _ _ _ _ _ _ _ _ l1 l2 l3 l4 _ hIU.toNatAt hID.toNatAt hJU.toNatAt hJD.toNatAt (by omega) (by omega) (by omega) (by omega)).mono ?_
  rintro e w6 ⟨ahSU, nhSU, chSU, ahSD, nhSD, chSD, rfl, hSU, hSD, hb⟩
  have hSU := hSU.mono hZ.size
  have hSD := hSD.mono hZ.size
  have g1 := g1.past hb
  have g2 := g2.past hb
  have g3 := g3.past hb
  have g4 := g4.past hb
  have hIU := hIU.past hb
  have hID := hID.past hb
  have hJU := hJU.past hb
  have hJD := hJD.past hb
  obtain ⟨qa0, qa1, qa2, la⟩ := bq3 hb la qa0 qa1 qa2
  obtain ⟨qb0, qb1, qb2, lb⟩ := bq3 hb lb qb0 qb1 qb2
  obtain ⟨qin0, qin1, qin2, lin⟩ := bq3 hb lin qin0 qin1 qin2
  obtain ⟨qby0, qby1, qby2, lby⟩ := bq3 hb lby qby0 qby1 qby2
  have hB := below_later hB hb
  have hZ := below_later hZ hb
  clear hb
  rw [HS.out] at hSU hSD ⊢
  go_wp2_with fail
  obtain ⟨w7, hW, hz0, hb, q, f⟩ := box1g w6 (w6.heap.size) (by omega) #[.bool (neg (Ans.up (S))), .slice ahSU nhSU chSU, .slice ahSD nhSD chSD] 30
  have gx : w5.heap.size ≤ w6.heap.size := by have := hZ.size; omega
  rw [hW]
  clear hW
  have g1 := g1.past hb
  have g2 := g2.past hb
  have g3 := g3.past hb
  have g4 := g4.past hb
  have hIU := hIU.past hb
  have hID := hID.past hb
  have hJU := hJU.past hb
  have hJD := hJD.past hb
  have hSU := hSU.past hb
  have hSD := hSD.past hb
  obtain ⟨qa0, qa1, qa2, la⟩ := bq3 hb la qa0 qa1 qa2
  obtain ⟨qb0, qb1, qb2, lb⟩ := bq3 hb lb qb0 qb1 qb2
  obtain ⟨qin0, qin1, qin2, lin⟩ := bq3 hb lin qin0 qin1 qin2
  obtain ⟨qby0, qby1, qby2, lby⟩ := bq3 hb lby qby0 qby1 qby2
  have hB := below_later hB hb
  have hZ := below_later hZ hb
  clear hb
  have lx : w6.heap.size < w7.heap.size := by omega
  have qx0 := q 0; have qx1 := q 1; have qx2 := q 2
  simp only [lgA, lgZ, lgS] at qx0 qx1 qx2
  have xx : BoxAt w7 (w6.heap.size) 3 := BoxAt.of q f rfl (by simp [notU_bool, notU_slice, notU_i64])
  clear q f
  clear hz0
  with_reducible refine (rsub05_any b1 b3 _ _ _ _ _ _ _ _ _ _ _ _ l1 l2 l3 l4 _ g1 g2 g3 g4 (by omega) (by omega) (by omega) (by omega)).mono ?_
  rintro e w8 ⟨akSU, nkSU, ckSU, akSD, nkSD, ckSD, rfl, kSU, kSD, hb⟩
  have kSU := kSU.mono hZ.size
  have kSD := kSD.mono hZ.size
  have g1 := g1.past hb
  have g2 := g2.past hb
  have g3 := g3.past hb
  have g4 := g4.past hb
  have hIU := hIU.past hb
  have hID := hID.past hb
  have hJU := hJU.past hb
  have hJD := hJD.past hb
  have hSU := hSU.past hb
  have hSD := hSD.past hb
  obtain ⟨qa0, qa1, qa2, la⟩ := bq3 hb la qa0 qa1 qa2
  obtain ⟨qb0, qb1, qb2, lb⟩ := bq3 hb lb qb0 qb1 qb2
  obtain ⟨qin0, qin1, qin2, lin⟩ := bq3 hb lin qin0 qin1 qin2
  obtain ⟨qby0, qby1, qby2, lby⟩ := bq3 hb lby qby0 qby1 qby2
  have xx := xx.past hb lx
  obtain ⟨qx0, qx1, qx2, lx⟩ := bq3 hb lx qx0 qx1 qx2
  have hB := below_later hB hb
  have hZ := below_later hZ hb
  clear hb
  rw [HS.out] at kSU kSD ⊢
  go_wp2_with fail
  obtain ⟨w9, hW, hz0, hb, q, f⟩ := box1g w8 (w8.heap.size) (by omega) #[.bool (neg (Ans.up (S))), .slice akSU nkSU ckSU, .slice akSD nkSD ckSD] 30
  have gy : w5.heap.size ≤ w8.heap.size := by have := hZ.size; omega
  rw [hW]
  clear hW
  have g1 := g1.past hb
  have g2 := g2.past hb
  have g3 := g3.past hb
  have g4 := g4.past hb
  have hIU := hIU.past hb
  have hID := hID.past hb
  have hJU := hJU.past hb
  have hJD := hJD.past hb
  have hSU := hSU.past hb
  have hSD := hSD.past hb
  have kSU := kSU.past hb
  have kSD := kSD.past hb
  obtain ⟨qa0, qa1, qa2, la⟩ := bq3 hb la qa0 qa1 qa2
  obtain ⟨qb0, qb1, qb2, lb⟩ := bq3 hb lb qb0 qb1 qb2
  obtain ⟨qin0, qin1, qin2, lin⟩ := bq3 hb lin qin0 qin1 qin2
  obtain ⟨qby0, qby1, qby2, lby⟩ := bq3 hb lby qby0 qby1 qby2
  have xx := xx.past hb lx
  obtain ⟨qx0, qx1, qx2, lx⟩ := bq3 hb lx qx0 qx1 qx2
  have hB := below_later hB hb
  have hZ := below_later hZ hb
  clear hb
  have ly : w8.heap.size < w9.heap.size := by omega
  have qy0 := q 0; have qy1 := q 1; have qy2 := q 2
  simp only [lgA, lgZ, lgS] at qy0 qy1 qy2
  have xy : BoxAt w9 (w8.heap.size) 3 := BoxAt.of q f rfl (by simp [notU_bool, notU_slice, notU_i64])
  clear q f
  clear hz0
  with_reducible refine (like05_yes w5.heap.size (S) _ _ _ _ _ _ _ _ _ _ _ _ _ hZ.size hSU hSD kSU.toNatAt kSD.toNatAt).mono ?_
  rintro e w10 ⟨rfl, hb, K⟩
  have qa0 := K.cell _ _ qa0 (nu rfl)
  have qa1 := K.cell _ _ qa1 (nu rfl)
  have qa2 := K.cell _ _ qa2 (nu rfl)
  have la := Nat.lt_of_lt_of_le la K.size
  have qb0 := K.cell _ _ qb0 (nu rfl)
  have qb1 := K.cell _ _ qb1 (nu rfl)
  have qb2 := K.cell _ _ qb2 (nu rfl)
  have lb := Nat.lt_of_lt_of_le lb K.size
  have qin0 := K.cell _ _ qin0 (nu rfl)
  have qin1 := K.cell _ _ qin1 (nu rfl)
  have qin2 := K.cell _ _ qin2 (nu rfl)
  have lin := Nat.lt_of_lt_of_le lin K.size
  have qby0 := K.cell _ _ qby0 (nu rfl)
  have qby1 := K.cell _ _ qby1 (nu rfl)
  have qby2 := K.cell _ _ qby2 (nu rfl)
  have lby := Nat.lt_of_lt_of_le lby K.size
  have qx0 := K.cell _ _ qx0 (nu rfl)
  have qx1 := K.cell _ _ qx1 (nu rfl)
  have qx2 := K.cell _ _ qx2 (nu rfl)
  have xx := K.box xx
  have lx := Nat.lt_of_lt_of_le lx K.size
  have qy0 := K.cell _ _ qy0 (nu rfl)
  have qy1 := K.cell _ _ qy1 (nu rfl)
  have qy2 := K.cell _ _ qy2 (nu rfl)
  have xy := K.box xy
  have ly := Nat.lt_of_lt_of_le ly K.size
  have hZ := hZ.trans hb
  clear hb K
  have g1 := zg1.past hZ
  have g2 := zg2.past hZ
  have g3 := zg3.past hZ
  have g4 := zg4.past hZ
  have hIU := zhIU.past hZ
  have hID := zhID.past hZ
  have hJU := zhJU.past hZ
  have hJD := zhJD.past hZ
  have hB := below_later zB hZ
  go_wp2_with fail
  with_reducible refine (div05_any b1 b3 _ _ _ _ _ _ _ _ _ _ _ _ l1 l2 l3 l4 _ hIU hID hJU hJD (by omega) (by omega) (by omega) (by omega)).mono ?_
  rintro e w11 ⟨ahDU, nhDU, chDU, ahDD, nhDD, chDD, rfl, hDU, hDD, hb⟩
  have hDU := hDU.mono hZ.size
  have hDD := hDD.mono hZ.size
  have g1 := g1.past hb
  have g2 := g2.past hb
  have g3 := g3.past hb
  have g4 := g4.past hb
  have hIU := hIU.past hb
  have hID := hID.past hb
  have hJU := hJU.past hb
  have hJD := hJD.past hb
  obtain ⟨qa0, qa1, qa2, la⟩ := bq3 hb la qa0 qa1 qa2
  obtain ⟨qb0, qb1, qb2, lb⟩ := bq3 hb lb qb0 qb1 qb2
  obtain ⟨qin0, qin1, qin2, lin⟩ := bq3 hb lin qin0 qin1 qin2
  obtain ⟨qby0, qby1, qby2, lby⟩ := bq3 hb lby qby0 qby1 qby2
  have xx := xx.past hb lx
  obtain ⟨qx0, qx1, qx2, lx⟩ := bq3 hb lx qx0 qx1 qx2
  have xy := xy.past hb ly
  obtain ⟨qy0, qy1, qy2, ly⟩ := bq3 hb ly qy0 qy1 qy2
  have hB := below_later hB hb
  have hZ := below_later hZ hb
  clear hb
  rw [HD.out] at hDU hDD ⊢
  have zf0 := xx.f 0 (by decide)
  have zf1 := xx.f 1 (by decide)
  have zf2 := xx.f 2 (by decide)
  go_wp2_with fail
  obtain ⟨w12, hW, hO, qN0, qN1, qN2, xN⟩ := store3 xx (.bool (neg (Ans.up (D)))) (.slice ahDU nhDU chDU) (.slice ahDD nhDD chDD) (nu rfl) (nu rfl) (nu rfl)
  try rw [hW]
  clear hW
  have g1 := hO.nat g1
  have g2 := hO.nat g2
  have g3 := hO.nat g3
  have g4 := hO.nat g4
  have hIU := hO.nat hIU
  have hID := hO.nat hID
  have hJU := hO.nat hJU
  have hJD := hO.nat hJD
  have hDU := hO.own hDU
  have hDD := hO.own hDD
  have qa0 := (hO.cell (b2 := w.heap.size) (k := 0) (by omega)).trans qa0
  have qa1 := (hO.cell (b2 := w.heap.size) (k := 1) (by omega)).trans qa1
  have qa2 := (hO.cell (b2 := w.heap.size) (k := 2) (by omega)).trans qa2
  have la : w.heap.size < w12.heap.size := by rw [hO.size]; exact la
  have qb0 := (hO.cell (b2 := w.heap.size + 1) (k := 0) (by omega)).trans qb0
  have qb1 := (hO.cell (b2 := w.heap.size + 1) (k := 1) (by omega)).trans qb1
  have qb2 := (hO.cell (b2 := w.heap.size + 1) (k := 2) (by omega)).trans qb2
  have lb : w.heap.size + 1 < w12.heap.size := by rw [hO.size]; exact lb
  have qin0 := (hO.cell (b2 := Bin) (k := 0) (by omega)).trans qin0
  have qin1 := (hO.cell (b2 := Bin) (k := 1) (by omega)).trans qin1
  have qin2 := (hO.cell (b2 := Bin) (k := 2) (by omega)).trans qin2
  have lin : Bin < w12.heap.size := by rw [hO.size]; exact lin
  have qby0 := (hO.cell (b2 := Bby) (k := 0) (by omega)).trans qby0
  have qby1 := (hO.cell (b2 := Bby) (k := 1) (by omega)).trans qby1
  have qby2 := (hO.cell (b2 := Bby) (k := 2) (by omega)).trans qby2
  have lby : Bby < w12.heap.size := by rw [hO.size]; exact lby
  have lx : w6.heap.size < w12.heap.size := by rw [hO.size]; exact lx
  have qy0 := (hO.cell (b2 := w8.heap.size) (k := 0) (by omega)).trans qy0
  have qy1 := (hO.cell (b2 := w8.heap.size) (k := 1) (by omega)).trans qy1
  have qy2 := (hO.cell (b2 := w8.heap.size) (k := 2) (by omega)).trans qy2
  have xy := hO.box xy
  have ly : w8.heap.size < w12.heap.size := by rw [hO.size]; exact ly
  have qx0 := qN0
  have qx1 := qN1
  have qx2 := qN2
  have xx := xN
  have hB := hO.below (by omega) hB
  have hZ := hO.below (by omega) hZ
  clear hO qN0 qN1 qN2 xN zf0 zf1 zf2
  go_wp2_with fail
  with_reducible refine (rdiv05_any b1 b3 _ _ _ _ _ _ _ _ _ _ _ _ l1 l2 l3 l4 _ g1 g2 g3 g4 (by omega) (by omega) (by omega) (by omega)).mono ?_
  rintro e w13 ⟨akDU, nkDU, ckDU, akDD, nkDD, ckDD, rfl, kDU, kDD, hb⟩
  have kDU := kDU.mono hZ.size
  have kDD := kDD.mono hZ.size
  have g1 := g1.past hb
  have g2 := g2.past hb
  have g3 := g3.past hb
  have g4 := g4.past hb
  have hIU := hIU.past hb
  have hID := hID.past hb
  have hJU := hJU.past hb
  have hJD := hJD.past hb
  have hDU := hDU.past hb
  have hDD := hDD.past hb
  obtain ⟨qa0, qa1, qa2, la⟩ := bq3 hb la qa0 qa1 qa2
  obtain ⟨qb0, qb1, qb2, lb⟩ := bq3 hb lb qb0 qb1 qb2
  obtain ⟨qin0, qin1, qin2, lin⟩ := bq3 hb lin qin0 qin1 qin2
  obtain ⟨qby0, qby1, qby2, lby⟩ := bq3 hb lby qby0 qby1 qby2
  have xx := xx.past hb lx
  obtain ⟨qx0, qx1, qx2, lx⟩ := bq3 hb lx qx0 qx1 qx2
  have xy := xy.past hb ly
  obtain ⟨qy0, qy1, qy2, ly⟩ := bq3 hb ly qy0 qy1 qy2
  have hB := below_later hB hb
  have hZ := below_later hZ hb
  clear hb
  rw [HD.out] at kDU kDD ⊢
  have zf0 := xy.f 0 (by decide)
  have zf1 := xy.f 1 (by decide)
  have zf2 := xy.f 2 (by decide)
  go_wp2_with fail
  obtain ⟨w14, hW, hO, qN0, qN1, qN2, xN⟩ := store3 xy (.bool (neg (Ans.up (D)))) (.slice akDU nkDU ckDU) (.slice akDD nkDD ckDD) (nu rfl) (nu rfl) (nu rfl)
  try rw [hW]
  clear hW
  have g1 := hO.nat g1
  have g2 := hO.nat g2
  have g3 := hO.nat g3
  have g4 := hO.nat g4
  have hIU := hO.nat hIU
  have hID := hO.nat hID
  have hJU := hO.nat hJU
  have hJD := hO.nat hJD
  have hDU := hO.own hDU
  have hDD := hO.own hDD
  have kDU := hO.own kDU
  have kDD := hO.own kDD
  have qa0 := (hO.cell (b2 := w.heap.size) (k := 0) (by omega)).trans qa0
  have qa1 := (hO.cell (b2 := w.heap.size) (k := 1) (by omega)).trans qa1
  have qa2 := (hO.cell (b2 := w.heap.size) (k := 2) (by omega)).trans qa2
  have la : w.heap.size < w14.heap.size := by rw [hO.size]; exact la
  have qb0 := (hO.cell (b2 := w.heap.size + 1) (k := 0) (by omega)).trans qb0
  have qb1 := (hO.cell (b2 := w.heap.size + 1) (k := 1) (by omega)).trans qb1
  have qb2 := (hO.cell (b2 := w.heap.size + 1) (k := 2) (by omega)).trans qb2
  have lb : w.heap.size + 1 < w14.heap.size := by rw [hO.size]; exact lb
  have qin0 := (hO.cell (b2 := Bin) (k := 0) (by omega)).trans qin0
  have qin1 := (hO.cell (b2 := Bin) (k := 1) (by omega)).trans qin1
  have qin2 := (hO.cell (b2 := Bin) (k := 2) (by omega)).trans qin2
  have lin : Bin < w14.heap.size := by rw [hO.size]; exact lin
  have qby0 := (hO.cell (b2 := Bby) (k := 0) (by omega)).trans qby0
  have qby1 := (hO.cell (b2 := Bby) (k := 1) (by omega)).trans qby1
  have qby2 := (hO.cell (b2 := Bby) (k := 2) (by omega)).trans qby2
  have lby : Bby < w14.heap.size := by rw [hO.size]; exact lby
  have qx0 := (hO.cell (b2 := w6.heap.size) (k := 0) (by omega)).trans qx0
  have qx1 := (hO.cell (b2 := w6.heap.size) (k := 1) (by omega)).trans qx1
  have qx2 := (hO.cell (b2 := w6.heap.size) (k := 2) (by omega)).trans qx2
  have xx := hO.box xx
  have lx : w6.heap.size < w14.heap.size := by rw [hO.size]; exact lx
  have ly : w8.heap.size < w14.heap.size := by rw [hO.size]; exact ly
  have qy0 := qN0
  have qy1 := qN1
  have qy2 := qN2
  have xy := xN
  have hB := hO.below (by omega) hB
  have hZ := hO.below (by omega) hZ
  clear hO qN0 qN1 qN2 xN zf0 zf1 zf2
  go_wp2_with fail
  with_reducible refine (like05_yes w5.heap.size (D) _ _ _ _ _ _ _ _ _ _ _ _ _ hZ.size hDU hDD kDU.toNatAt kDD.toNatAt).mono ?_
  rintro e w15 ⟨rfl, hb, K⟩
  have qa0 := K.cell _ _ qa0 (nu rfl)
  have qa1 := K.cell _ _ qa1 (nu rfl)
  have qa2 := K.cell _ _ qa2 (nu rfl)
  have la := Nat.lt_of_lt_of_le la K.size
  have qb0 := K.cell _ _ qb0 (nu rfl)
  have qb1 := K.cell _ _ qb1 (nu rfl)
  have qb2 := K.cell _ _ qb2 (nu rfl)
  have lb := Nat.lt_of_lt_of_le lb K.size
  have qin0 := K.cell _ _ qin0 (nu rfl)
  have qin1 := K.cell _ _ qin1 (nu rfl)
  have qin2 := K.cell _ _ qin2 (nu rfl)
  have lin := Nat.lt_of_lt_of_le lin K.size
  have qby0 := K.cell _ _ qby0 (nu rfl)
  have qby1 := K.cell _ _ qby1 (nu rfl)
  have qby2 := K.cell _ _ qby2 (nu rfl)
  have lby := Nat.lt_of_lt_of_le lby K.size
  have qx0 := K.cell _ _ qx0 (nu rfl)
  have qx1 := K.cell _ _ qx1 (nu rfl)
  have qx2 := K.cell _ _ qx2 (nu rfl)
  have xx := K.box xx
  have lx := Nat.lt_of_lt_of_le lx K.size
  have qy0 := K.cell _ _ qy0 (nu rfl)
  have qy1 := K.cell _ _ qy1 (nu rfl)
  have qy2 := K.cell _ _ qy2 (nu rfl)
  have xy := K.box xy
  have ly := Nat.lt_of_lt_of_le ly K.size
  have hZ := hZ.trans hb
  clear hb K
  have g1 := zg1.past hZ
  have g2 := zg2.past hZ
  have g3 := zg3.past hZ
  have g4 := zg4.past hZ
  have hIU := zhIU.past hZ
  have hID := zhID.past hZ
  have hJU := zhJU.past hZ
  have hJD := zhJD.past hZ
  have hB := below_later zB hZ
  go_wp2_with fail
  with_reducible refine (pow05_any b1 _ _ _ _ _ _ l1 l2 n _ hIU hID (by omega) (by omega)).mono ?_
  rintro e w16 ⟨ahPU, nhPU, chPU, ahPD, nhPD, chPD, rfl, hPU, hPD, hb⟩
  have hPU := hPU.mono hZ.size
  have hPD := hPD.mono hZ.size
  have g1 := g1.past hb
  have g2 := g2.past hb
  have g3 := g3.past hb
  have g4 := g4.past hb
  have hIU := hIU.past hb
  have hID := hID.past hb
  have hJU := hJU.past hb
  have hJD := hJD.past hb
  obtain ⟨qa0, qa1, qa2, la⟩ := bq3 hb la qa0 qa1 qa2
  obtain ⟨qb0, qb1, qb2, lb⟩ := bq3 hb lb qb0 qb1 qb2
  obtain ⟨qin0, qin1, qin2, lin⟩ := bq3 hb lin qin0 qin1 qin2
  obtain ⟨qby0, qby1, qby2, lby⟩ := bq3 hb lby qby0 qby1 qby2
  have xx := xx.past hb lx
  obtain ⟨qx0, qx1, qx2, lx⟩ := bq3 hb lx qx0 qx1 qx2
  have xy := xy.past hb ly
  obtain ⟨qy0, qy1, qy2, ly⟩ := bq3 hb ly qy0 qy1 qy2
  have hB := below_later hB hb
  have hZ := below_later hZ hb
  clear hb
  rw [HPP.out] at hPU hPD ⊢
  have zf0 := xx.f 0 (by decide)
  have zf1 := xx.f 1 (by decide)
  have zf2 := xx.f 2 (by decide)
  go_wp2_with fail
  obtain ⟨w17, hW, hO, qN0, qN1, qN2, xN⟩ := store3 xx (.bool (neg (Ans.up (P)))) (.slice ahPU nhPU chPU) (.slice ahPD nhPD chPD) (nu rfl) (nu rfl) (nu rfl)
  try rw [hW]
  clear hW
  have g1 := hO.nat g1
  have g2 := hO.nat g2
  have g3 := hO.nat g3
  have g4 := hO.nat g4
  have hIU := hO.nat hIU
  have hID := hO.nat hID
  have hJU := hO.nat hJU
  have hJD := hO.nat hJD
  have hPU := hO.own hPU
  have hPD := hO.own hPD
  have qa0 := (hO.cell (b2 := w.heap.size) (k := 0) (by omega)).trans qa0
  have qa1 := (hO.cell (b2 := w.heap.size) (k := 1) (by omega)).trans qa1
  have qa2 := (hO.cell (b2 := w.heap.size) (k := 2) (by omega)).trans qa2
  have la : w.heap.size < w17.heap.size := by rw [hO.size]; exact la
  have qb0 := (hO.cell (b2 := w.heap.size + 1) (k := 0) (by omega)).trans qb0
  have qb1 := (hO.cell (b2 := w.heap.size + 1) (k := 1) (by omega)).trans qb1
  have qb2 := (hO.cell (b2 := w.heap.size + 1) (k := 2) (by omega)).trans qb2
  have lb : w.heap.size + 1 < w17.heap.size := by rw [hO.size]; exact lb
  have qin0 := (hO.cell (b2 := Bin) (k := 0) (by omega)).trans qin0
  have qin1 := (hO.cell (b2 := Bin) (k := 1) (by omega)).trans qin1
  have qin2 := (hO.cell (b2 := Bin) (k := 2) (by omega)).trans qin2
  have lin : Bin < w17.heap.size := by rw [hO.size]; exact lin
  have qby0 := (hO.cell (b2 := Bby) (k := 0) (by omega)).trans qby0
  have qby1 := (hO.cell (b2 := Bby) (k := 1) (by omega)).trans qby1
  have qby2 := (hO.cell (b2 := Bby) (k := 2) (by omega)).trans qby2
  have lby : Bby < w17.heap.size := by rw [hO.size]; exact lby
  have lx : w6.heap.size < w17.heap.size := by rw [hO.size]; exact lx
  have qy0 := (hO.cell (b2 := w8.heap.size) (k := 0) (by omega)).trans qy0
  have qy1 := (hO.cell (b2 := w8.heap.size) (k := 1) (by omega)).trans qy1
  have qy2 := (hO.cell (b2 := w8.heap.size) (k := 2) (by omega)).trans qy2
  have xy := hO.box xy
  have ly : w8.heap.size < w17.heap.size := by rw [hO.size]; exact ly
  have qx0 := qN0
  have qx1 := qN1
  have qx2 := qN2
  have xx := xN
  have hB := hO.below (by omega) hB
  have hZ := hO.below (by omega) hZ
  clear hO qN0 qN1 qN2 xN zf0 zf1 zf2
  go_wp2_with fail
  with_reducible refine (rpow05_any b1 _ _ _ _ _ _ l1 l2 n _ g1 g2 (by omega) (by omega) HP.out).mono ?_
  rintro e w18 ⟨akPU, nkPU, ckPU, akPD, nkPD, ckPD, rfl, kPU, kPD, hb⟩
  have kPU := kPU.mono hZ.size
  have kPD := kPD.mono hZ.size
  have g1 := g1.past hb
  have g2 := g2.past hb
  have g3 := g3.past hb
  have g4 := g4.past hb
  have hIU := hIU.past hb
  have hID := hID.past hb
  have hJU := hJU.past hb
  have hJD := hJD.past hb
  have hPU := hPU.past hb
  have hPD := hPD.past hb
  obtain ⟨qa0, qa1, qa2, la⟩ := bq3 hb la qa0 qa1 qa2
  obtain ⟨qb0, qb1, qb2, lb⟩ := bq3 hb lb qb0 qb1 qb2
  obtain ⟨qin0, qin1, qin2, lin⟩ := bq3 hb lin qin0 qin1 qin2
  obtain ⟨qby0, qby1, qby2, lby⟩ := bq3 hb lby qby0 qby1 qby2
  have xx := xx.past hb lx
  obtain ⟨qx0, qx1, qx2, lx⟩ := bq3 hb lx qx0 qx1 qx2
  have xy := xy.past hb ly
  obtain ⟨qy0, qy1, qy2, ly⟩ := bq3 hb ly qy0 qy1 qy2
  have hB := below_later hB hb
  have hZ := below_later hZ hb
  clear hb
  rw [HPP.out] at kPU kPD ⊢
  have zf0 := xy.f 0 (by decide)
  have zf1 := xy.f 1 (by decide)
  have zf2 := xy.f 2 (by decide)
  go_wp2_with fail
  obtain ⟨w19, hW, hO, qN0, qN1, qN2, xN⟩ := store3 xy (.bool (neg (Ans.up (P)))) (.slice akPU nkPU ckPU) (.slice akPD nkPD ckPD) (nu rfl) (nu rfl) (nu rfl)
  try rw [hW]
  clear hW
  have g1 := hO.nat g1
  have g2 := hO.nat g2
  have g3 := hO.nat g3
  have g4 := hO.nat g4
  have hIU := hO.nat hIU
  have hID := hO.nat hID
  have hJU := hO.nat hJU
  have hJD := hO.nat hJD
  have hPU := hO.own hPU
  have hPD := hO.own hPD
  have kPU := hO.own kPU
  have kPD := hO.own kPD
  have qa0 := (hO.cell (b2 := w.heap.size) (k := 0) (by omega)).trans qa0
  have qa1 := (hO.cell (b2 := w.heap.size) (k := 1) (by omega)).trans qa1
  have qa2 := (hO.cell (b2 := w.heap.size) (k := 2) (by omega)).trans qa2
  have la : w.heap.size < w19.heap.size := by rw [hO.size]; exact la
  have qb0 := (hO.cell (b2 := w.heap.size + 1) (k := 0) (by omega)).trans qb0
  have qb1 := (hO.cell (b2 := w.heap.size + 1) (k := 1) (by omega)).trans qb1
  have qb2 := (hO.cell (b2 := w.heap.size + 1) (k := 2) (by omega)).trans qb2
  have lb : w.heap.size + 1 < w19.heap.size := by rw [hO.size]; exact lb
  have qin0 := (hO.cell (b2 := Bin) (k := 0) (by omega)).trans qin0
  have qin1 := (hO.cell (b2 := Bin) (k := 1) (by omega)).trans qin1
  have qin2 := (hO.cell (b2 := Bin) (k := 2) (by omega)).trans qin2
  have lin : Bin < w19.heap.size := by rw [hO.size]; exact lin
  have qby0 := (hO.cell (b2 := Bby) (k := 0) (by omega)).trans qby0
  have qby1 := (hO.cell (b2 := Bby) (k := 1) (by omega)).trans qby1
  have qby2 := (hO.cell (b2 := Bby) (k := 2) (by omega)).trans qby2
  have lby : Bby < w19.heap.size := by rw [hO.size]; exact lby
  have qx0 := (hO.cell (b2 := w6.heap.size) (k := 0) (by omega)).trans qx0
  have qx1 := (hO.cell (b2 := w6.heap.size) (k := 1) (by omega)).trans qx1
  have qx2 := (hO.cell (b2 := w6.heap.size) (k := 2) (by omega)).trans qx2
  have xx := hO.box xx
  have lx : w6.heap.size < w19.heap.size := by rw [hO.size]; exact lx
  have ly : w8.heap.size < w19.heap.size := by rw [hO.size]; exact ly
  have qy0 := qN0
  have qy1 := qN1
  have qy2 := qN2
  have xy := xN
  have hB := hO.below (by omega) hB
  have hZ := hO.below (by omega) hZ
  clear hO qN0 qN1 qN2 xN zf0 zf1 zf2
  go_wp2_with fail
  with_reducible refine (like05_yes w5.heap.size (P) _ _ _ _ _ _ _ _ _ _ _ _ _ hZ.size hPU hPD kPU.toNatAt kPD.toNatAt).mono ?_
  rintro e w20 ⟨rfl, hb, K⟩
  have qa0 := K.cell _ _ qa0 (nu rfl)
  have qa1 := K.cell _ _ qa1 (nu rfl)
  have qa2 := K.cell _ _ qa2 (nu rfl)
  have la := Nat.lt_of_lt_of_le la K.size
  have qb0 := K.cell _ _ qb0 (nu rfl)
  have qb1 := K.cell _ _ qb1 (nu rfl)
  have qb2 := K.cell _ _ qb2 (nu rfl)
  have lb := Nat.lt_of_lt_of_le lb K.size
  have qin0 := K.cell _ _ qin0 (nu rfl)
  have qin1 := K.cell _ _ qin1 (nu rfl)
  have qin2 := K.cell _ _ qin2 (nu rfl)
  have lin := Nat.lt_of_lt_of_le lin K.size
  have qby0 := K.cell _ _ qby0 (nu rfl)
  have qby1 := K.cell _ _ qby1 (nu rfl)
  have qby2 := K.cell _ _ qby2 (nu rfl)
  have lby := Nat.lt_of_lt_of_le lby K.size
  have qx0 := K.cell _ _ qx0 (nu rfl)
  have qx1 := K.cell _ _ qx1 (nu rfl)
  have qx2 := K.cell _ _ qx2 (nu rfl)
  have xx := K.box xx
  have lx := Nat.lt_of_lt_of_le lx K.size
  have qy0 := K.cell _ _ qy0 (nu rfl)
  have qy1 := K.cell _ _ qy1 (nu rfl)
  have qy2 := K.cell _ _ qy2 (nu rfl)
  have xy := K.box xy
  have ly := Nat.lt_of_lt_of_le ly K.size
  have hZ := hZ.trans hb
  clear hb K
  have g1 := zg1.past hZ
  have g2 := zg2.past hZ
  have g3 := zg3.past hZ
  have g4 := zg4.past hZ
  have hIU := zhIU.past hZ
  have hID := zhID.past hZ
  have hJU := zhJU.past hZ
  have hJD := zhJD.past hZ
  have hB := below_later zB hZ
  go_wp2_with fail
  with_reducible refine (cmp05_any b1 b3 _ _ _ _ _ _ _ _ _ _ _ _ l1 l2 l3 l4 _ hIU hID hJU hJD (by omega) (by omega) (by omega) (by omega)).mono ?_
  rintro e w21 ⟨rfl, hb⟩
  have g1 := g1.past hb
  have g2 := g2.past hb
  have g3 := g3.past hb
  have g4 := g4.past hb
  have hIU := hIU.past hb
  have hID := hID.past hb
  have hJU := hJU.past hb
  have hJD := hJD.past hb
  obtain ⟨qa0, qa1, qa2, la⟩ := bq3 hb la qa0 qa1 qa2
  obtain ⟨qb0, qb1, qb2, lb⟩ := bq3 hb lb qb0 qb1 qb2
  obtain ⟨qin0, qin1, qin2, lin⟩ := bq3 hb lin qin0 qin1 qin2
  obtain ⟨qby0, qby1, qby2, lby⟩ := bq3 hb lby qby0 qby1 qby2
  have xx := xx.past hb lx
  obtain ⟨qx0, qx1, qx2, lx⟩ := bq3 hb lx qx0 qx1 qx2
  have xy := xy.past hb ly
  obtain ⟨qy0, qy1, qy2, ly⟩ := bq3 hb ly qy0 qy1 qy2
  have hB := below_later hB hb
  have hZ := below_later hZ hb
  clear hb
  rw [HS.out]
  go_wp2_with fail
  with_reducible refine (rcmp05_any b1 b3 _ _ _ _ _ _ _ _ _ _ _ _ l1 l2 l3 l4 _ g1 g2 g3 g4 (by omega) (by omega) (by omega) (by omega)).mono ?_
  rintro e w22 ⟨rfl, hb⟩
  have g1 := g1.past hb
  have g2 := g2.past hb
  have g3 := g3.past hb
  have g4 := g4.past hb
  have hIU := hIU.past hb
  have hID := hID.past hb
  have hJU := hJU.past hb
  have hJD := hJD.past hb
  obtain ⟨qa0, qa1, qa2, la⟩ := bq3 hb la qa0 qa1 qa2
  obtain ⟨qb0, qb1, qb2, lb⟩ := bq3 hb lb qb0 qb1 qb2
  obtain ⟨qin0, qin1, qin2, lin⟩ := bq3 hb lin qin0 qin1 qin2
  obtain ⟨qby0, qby1, qby2, lby⟩ := bq3 hb lby qby0 qby1 qby2
  have xx := xx.past hb lx
  obtain ⟨qx0, qx1, qx2, lx⟩ := bq3 hb lx qx0 qx1 qx2
  have xy := xy.past hb ly
  obtain ⟨qy0, qy1, qy2, ly⟩ := bq3 hb ly qy0 qy1 qy2
  have hB := below_later hB hb
  have hZ := below_later hZ hb
  clear hb
  rw [HS.out]
  go_wp2_with fail
  with_reducible refine (round05_any b1 _ _ _ _ _ _ l1 l2 _ hIU hID (by omega) (by omega)).mono ?_
  rintro e w23 ⟨ahR, nhR, chR, rfl, hR, hb⟩
  have hR := hR.mono hZ.size
  have g1 := g1.past hb
  have g2 := g2.past hb
  have g3 := g3.past hb
  have g4 := g4.past hb
  have hIU := hIU.past hb
  have hID := hID.past hb
  have hJU := hJU.past hb
  have hJD := hJD.past hb
  obtain ⟨qa0, qa1, qa2, la⟩ := bq3 hb la qa0 qa1 qa2
  obtain ⟨qb0, qb1, qb2, lb⟩ := bq3 hb lb qb0 qb1 qb2
  obtain ⟨qin0, qin1, qin2, lin⟩ := bq3 hb lin qin0 qin1 qin2
  obtain ⟨qby0, qby1, qby2, lby⟩ := bq3 hb lby qby0 qby1 qby2
  have xx := xx.past hb lx
  obtain ⟨qx0, qx1, qx2, lx⟩ := bq3 hb lx qx0 qx1 qx2
  have xy := xy.past hb ly
  obtain ⟨qy0, qy1, qy2, ly⟩ := bq3 hb ly qy0 qy1 qy2
  have hB := below_later hB hb
  have hZ := below_later hZ hb
  clear hb
  rw [HR.out] at hR ⊢
  go_wp2_with fail
  obtain ⟨w24, hW, hz0, hb, q, f⟩ := box1g w23 (w23.heap.size) (by omega) #[.bool (neg R.up), .slice ahR nhR chR] 28
  rw [hW]
  clear hW
  have g1 := g1.past hb
  have g2 := g2.past hb
  have g3 := g3.past hb
  have g4 := g4.past hb
  have hIU := hIU.past hb
  have hID := hID.past hb
  have hJU := hJU.past hb
  have hJD := hJD.past hb
  have hR := hR.past hb
  obtain ⟨qa0, qa1, qa2, la⟩ := bq3 hb la qa0 qa1 qa2
  obtain ⟨qb0, qb1, qb2, lb⟩ := bq3 hb lb qb0 qb1 qb2
  obtain ⟨qin0, qin1, qin2, lin⟩ := bq3 hb lin qin0 qin1 qin2
  obtain ⟨qby0, qby1, qby2, lby⟩ := bq3 hb lby qby0 qby1 qby2
  have xx := xx.past hb lx
  obtain ⟨qx0, qx1, qx2, lx⟩ := bq3 hb lx qx0 qx1 qx2
  have xy := xy.past hb ly
  obtain ⟨qy0, qy1, qy2, ly⟩ := bq3 hb ly qy0 qy1 qy2
  have hB := below_later hB hb
  have hZ := below_later hZ hb
  clear hb
  have lp : w23.heap.size < w24.heap.size := by omega
  have qp0 := q 0; have qp1 := q 1
  simp only [lgA, lgZ, lgS] at qp0 qp1
  clear q f
  clear hz0
  with_reducible refine (rround05_any b1 _ _ _ _ _ _ l1 l2 _ g1 g2 (by omega) (by omega)).mono ?_
  rintro e w25 ⟨akR, nkR, ckR, rfl, kR, hb⟩
  have kR := kR.mono hZ.size
  have g1 := g1.past hb
  have g2 := g2.past hb
  have g3 := g3.past hb
  have g4 := g4.past hb
  have hIU := hIU.past hb
  have hID := hID.past hb
  have hJU := hJU.past hb
  have hJD := hJD.past hb
  have hR := hR.past hb
  obtain ⟨qa0, qa1, qa2, la⟩ := bq3 hb la qa0 qa1 qa2
  obtain ⟨qb0, qb1, qb2, lb⟩ := bq3 hb lb qb0 qb1 qb2
  obtain ⟨qin0, qin1, qin2, lin⟩ := bq3 hb lin qin0 qin1 qin2
  obtain ⟨qby0, qby1, qby2, lby⟩ := bq3 hb lby qby0 qby1 qby2
  have xx := xx.past hb lx
  obtain ⟨qx0, qx1, qx2, lx⟩ := bq3 hb lx qx0 qx1 qx2
  have xy := xy.past hb ly
  obtain ⟨qy0, qy1, qy2, ly⟩ := bq3 hb ly qy0 qy1 qy2
  obtain ⟨qp0, qp1, lp⟩ := bq2 hb lp qp0 qp1
  have hB := below_later hB hb
  have hZ := below_later hZ hb
  clear hb
  rw [HR.out] at kR ⊢
  go_wp2_with fail
  obtain ⟨w26, hW, hz0, hb, q, f⟩ := box1g w25 (w25.heap.size) (by omega) #[.bool (neg R.up), .slice akR nkR ckR] 28
  rw [hW]
  clear hW
  have g1 := g1.past hb
  have g2 := g2.past hb
  have g3 := g3.past hb
  have g4 := g4.past hb
  have hIU := hIU.past hb
  have hID := hID.past hb
  have hJU := hJU.past hb
  have hJD := hJD.past hb
  have hR := hR.past hb
  have kR := kR.past hb
  obtain ⟨qa0, qa1, qa2, la⟩ := bq3 hb la qa0 qa1 qa2
  obtain ⟨qb0, qb1, qb2, lb⟩ := bq3 hb lb qb0 qb1 qb2
  obtain ⟨qin0, qin1, qin2, lin⟩ := bq3 hb lin qin0 qin1 qin2
  obtain ⟨qby0, qby1, qby2, lby⟩ := bq3 hb lby qby0 qby1 qby2
  have xx := xx.past hb lx
  obtain ⟨qx0, qx1, qx2, lx⟩ := bq3 hb lx qx0 qx1 qx2
  have xy := xy.past hb ly
  obtain ⟨qy0, qy1, qy2, ly⟩ := bq3 hb ly qy0 qy1 qy2
  obtain ⟨qp0, qp1, lp⟩ := bq2 hb lp qp0 qp1
  have hB := below_later hB hb
  have hZ := below_later hZ hb
  clear hb
  have lq : w25.heap.size < w26.heap.size := by omega
  have qq0 := q 0; have qq1 := q 1
  simp only [lgA, lgZ, lgS] at qq0 qq1
  clear q f
  clear hz0
  with_reducible refine (sameWhole_yes hR.toNatAt kR.toNatAt).mono ?_
  rintro e w27 ⟨rfl, hb⟩
  have g1 := g1.past hb
  have g2 := g2.past hb
  have g3 := g3.past hb
  have g4 := g4.past hb
  have hIU := hIU.past hb
  have hID := hID.past hb
  have hJU := hJU.past hb
  have hJD := hJD.past hb
  have hR := hR.past hb
  have kR := kR.past hb
  obtain ⟨qa0, qa1, qa2, la⟩ := bq3 hb la qa0 qa1 qa2
  obtain ⟨qb0, qb1, qb2, lb⟩ := bq3 hb lb qb0 qb1 qb2
  obtain ⟨qin0, qin1, qin2, lin⟩ := bq3 hb lin qin0 qin1 qin2
  obtain ⟨qby0, qby1, qby2, lby⟩ := bq3 hb lby qby0 qby1 qby2
  have xx := xx.past hb lx
  obtain ⟨qx0, qx1, qx2, lx⟩ := bq3 hb lx qx0 qx1 qx2
  have xy := xy.past hb ly
  obtain ⟨qy0, qy1, qy2, ly⟩ := bq3 hb ly qy0 qy1 qy2
  obtain ⟨qp0, qp1, lp⟩ := bq2 hb lp qp0 qp1
  obtain ⟨qq0, qq1, lq⟩ := bq2 hb lq qq0 qq1
  have hB := below_later hB hb
  have hZ := below_later hZ hb
  clear hb
  have hR := hR.writ
  go_wp2_with fail
  with_reducible refine (overNat_any w5.heap.size _ _ _ _ hR).mono ?_
  rintro e w28 ⟨rfl, hb, hg⟩
  have qa0 := hg.2.2 _ _ qa0 (fun x e => by cases e)
  have qa1 := hg.2.2 _ _ qa1 (fun x e => by cases e)
  have qa2 := hg.2.2 _ _ qa2 (fun x e => by cases e)
  have la := Nat.lt_of_lt_of_le la hb.size
  have qb0 := hg.2.2 _ _ qb0 (fun x e => by cases e)
  have qb1 := hg.2.2 _ _ qb1 (fun x e => by cases e)
  have qb2 := hg.2.2 _ _ qb2 (fun x e => by cases e)
  have lb := Nat.lt_of_lt_of_le lb hb.size
  have qin0 := hg.2.2 _ _ qin0 (fun x e => by cases e)
  have qin1 := hg.2.2 _ _ qin1 (fun x e => by cases e)
  have qin2 := hg.2.2 _ _ qin2 (fun x e => by cases e)
  have lin := Nat.lt_of_lt_of_le lin hb.size
  have qby0 := hg.2.2 _ _ qby0 (fun x e => by cases e)
  have qby1 := hg.2.2 _ _ qby1 (fun x e => by cases e)
  have qby2 := hg.2.2 _ _ qby2 (fun x e => by cases e)
  have lby := Nat.lt_of_lt_of_le lby hb.size
  have qp0 := hg.2.2 _ _ qp0 (fun x e => by cases e)
  have qp1 := hg.2.2 _ _ qp1 (fun x e => by cases e)
  have lp := Nat.lt_of_lt_of_le lp hb.size
  have hZ := hZ.trans hb
  clear hb hg
  have g1 := zg1.past hZ
  have g2 := zg2.past hZ
  have g3 := zg3.past hZ
  have g4 := zg4.past hZ
  have hIU := zhIU.past hZ
  have hID := zhID.past hZ
  have hJU := zhJU.past hZ
  have hJD := zhJD.past hZ
  have hB := below_later zB hZ
  go_wp2_with fail
  with_reducible refine (sameRatio_any b1 _ _ _ l1 _ _ _ l2 b1 _ _ _ l1 _ _ _ l2 _ hIU hID g1 g2).mono ?_
  rintro e w29 ⟨rfl, hb⟩
  have g1 := g1.past hb
  have g2 := g2.past hb
  have g3 := g3.past hb
  have g4 := g4.past hb
  have hIU := hIU.past hb
  have hID := hID.past hb
  have hJU := hJU.past hb
  have hJD := hJD.past hb
  obtain ⟨qa0, qa1, qa2, la⟩ := bq3 hb la qa0 qa1 qa2
  obtain ⟨qb0, qb1, qb2, lb⟩ := bq3 hb lb qb0 qb1 qb2
  obtain ⟨qin0, qin1, qin2, lin⟩ := bq3 hb lin qin0 qin1 qin2
  obtain ⟨qby0, qby1, qby2, lby⟩ := bq3 hb lby qby0 qby1 qby2
  obtain ⟨qp0, qp1, lp⟩ := bq2 hb lp qp0 qp1
  have hB := below_later hB hb
  clear hb
  rw [eqR_same]
  go_wp2_with fail
  with_reducible refine (sameRatio_any b3 _ _ _ l3 _ _ _ l4 b3 _ _ _ l3 _ _ _ l4 _ hJU hJD g3 g4).mono ?_
  rintro e w30 ⟨rfl, hb⟩
  have g1 := g1.past hb
  have g2 := g2.past hb
  have g3 := g3.past hb
  have g4 := g4.past hb
  have hIU := hIU.past hb
  have hID := hID.past hb
  have hJU := hJU.past hb
  have hJD := hJD.past hb
  obtain ⟨qa0, qa1, qa2, la⟩ := bq3 hb la qa0 qa1 qa2
  obtain ⟨qb0, qb1, qb2, lb⟩ := bq3 hb lb qb0 qb1 qb2
  obtain ⟨qin0, qin1, qin2, lin⟩ := bq3 hb lin qin0 qin1 qin2
  obtain ⟨qby0, qby1, qby2, lby⟩ := bq3 hb lby qby0 qby1 qby2
  obtain ⟨qp0, qp1, lp⟩ := bq2 hb lp qp0 qp1
  have hB := below_later hB hb
  clear hb
  rw [eqR_same]
  go_wp2_with fail
  with_reducible refine (awake05 _).mono ?_
  rintro e w31 ⟨rfl, hb⟩
  have g1 := g1.past hb
  have g2 := g2.past hb
  have g3 := g3.past hb
  have g4 := g4.past hb
  have hIU := hIU.past hb
  have hID := hID.past hb
  have hJU := hJU.past hb
  have hJD := hJD.past hb
  obtain ⟨qa0, qa1, qa2, la⟩ := bq3 hb la qa0 qa1 qa2
  obtain ⟨qb0, qb1, qb2, lb⟩ := bq3 hb lb qb0 qb1 qb2
  obtain ⟨qin0, qin1, qin2, lin⟩ := bq3 hb lin qin0 qin1 qin2
  obtain ⟨qby0, qby1, qby2, lby⟩ := bq3 hb lby qby0 qby1 qby2
  obtain ⟨qp0, qp1, lp⟩ := bq2 hb lp qp0 qp1
  have hB := below_later hB hb
  clear hb
  go_wp2
  go_ret
  exact ⟨rfl, hB⟩
theorem ratioReckons_any {b1 b3 : Bool} {l1 l2 l3 l4 : List Nat} {a1 : Option Addr} {n1 c1 : Nat} {a2 : Option Addr} {n2 c2 : Nat} {a3 : Option Addr} {n3 c3 : Nat} {a4 : Option Addr} {n4 c4 : Nat} (n : Int) {w : World} (g1 : NatAt w a1 n1 c1 l1) (g2 : NatAt w a2 n2 c2 l2) (g3 : NatAt w a3 n3 c3 l3) (g4 : NatAt w a4 n4 c4 l4) :
 Calls Tryz.prog 4 #[.agg #[.bool b1, .slice a1 n1 c1, .slice a2 n2 c2], .agg #[.bool b3, .slice a3 n3 c3, .slice a4 n4 c4], .int .i64 n] w (RetVal w (.bool true)) := by
 cases hl : (longP (b1, l1, l2) || longP (b3, l3, l4))
 · by_cases h1 : 12 < n
   · by_cases h2 : n ≤ 10000
     · exact ratioReckons_up n g1 g2 g3 g4 hl h1 h2
     · exact ratioReckons_go n g1 g2 g3 g4 hl (.inr (.inl (by omega)))
   · by_cases h2 : n < -12
     · by_cases h3 : -10000 ≤ n
       · exact ratioReckons_down n g1 g2 g3 g4 hl h2 h3
       · exact ratioReckons_go n g1 g2 g3 g4 hl (.inr (.inr (by omega)))
     · exact ratioReckons_go n g1 g2 g3 g4 hl (.inl ⟨by omega, by omega⟩)
 · exact ratioReckons_long n g1 g2 g3 g4 hl
end Go.Proofs.YtmhjhhcdjecdbaaGreat
