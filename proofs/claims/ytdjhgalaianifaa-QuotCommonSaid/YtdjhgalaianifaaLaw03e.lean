/- the laws of quot: QuotDivides, QuotCommon. -/
import Derived.Test.YtdjhgalaianifaaLaw03b
import Derived.Test.YtdjhgalaianifaaRefs13
set_option linter.unusedVariables false
set_option linter.unusedSimpArgs false
namespace Go.Proofs.Ytdjhgalaianifaa
open Go.RowKit

set_option maxRecDepth 100000 in
set_option maxHeartbeats 4000000 in
theorem quotDivides_long (a : Option Addr) (n c : Nat) (l : List Nat) (a2 : Option Addr) (n2 c2 : Nat) (l2 : List Nat) (x : Nat) (w : World) (g1 : NatAt w a n c l) (g2 : NatAt w a2 n2 c2 l2) (hl : 24 < n ∨ 24 < n2) :
    Calls Try.prog 5 #[.slice a n c, .slice a2 n2 c2, .int .u64 (x : Int)] w (RetVal w (.bool true)) := by
  have hc1 := Nat.le_trans g1.le g1.cle
  have hc2 := Nat.le_trans g2.le g2.cle
  have t0 : (decide ((24 : Int) < (n : Int)) || decide ((24 : Int) < (n2 : Int))) = true := by simp; omega
  have tl := Lib.hid t0
  clear t0
  go_enter Try.func5, Try.ntmps5
  have hB := Below.refl w.heap.size w
  go_wp2_with fail
  with_reducible refine (long03_any _ _ _ _ _ _ _ hc1 hc2).mono ?_
  rintro e w' ⟨rfl, rfl⟩
  rw [tl.out]
  go_wp2_with fail
  with_reducible refine (awake03 _).mono ?_
  rintro e w1 ⟨rfl, hb⟩
  have g1 := g1.past hb
  have g2 := g2.past hb
  have hB := below_later hB hb
  clear hb
  go_wp2
  go_ret
  exact ⟨rfl, hB⟩

set_option maxRecDepth 100000 in
set_option maxHeartbeats 4000000 in
theorem quotDivides_zero_none (a : Option Addr) (n c : Nat) (l : List Nat) (a2 : Option Addr) (n2 c2 : Nat) (l2 : List Nat) (x : Nat) (w : World) (g1 : NatAt w a n c l) (g2 : NatAt w a2 n2 c2 l2) (hn : n ≤ 24) (hn2 : n2 ≤ 24) (hz : val l2 = 0) (hx0 : x = 0) :
    Calls Try.prog 5 #[.slice a n c, .slice a2 n2 c2, .int .u64 (x : Int)] w (RetVal w (.bool true)) := by
  have hc1 := Nat.le_trans g1.le g1.cle
  have hc2 := Nat.le_trans g2.le g2.cle
  have t0 : (decide ((24 : Int) < (n : Int)) || decide ((24 : Int) < (n2 : Int))) = false := by simp; omega
  have tl := Lib.hid t0
  clear t0
  have HZ := Lib.hid hz
  clear hz
  subst hx0
  go_enter Try.func5, Try.ntmps5
  have hB := Below.refl w.heap.size w
  go_wp2_with fail
  with_reducible refine (long03_any _ _ _ _ _ _ _ hc1 hc2).mono ?_
  rintro e w' ⟨rfl, rfl⟩
  rw [tl.out]
  go_wp2_with fail
  with_reducible refine (copyNat_any _ _ _ l _ g1 (by omega)).mono ?_
  rintro e w1 ⟨ahI, nhI, chI, rfl, hI, hb⟩
  have g1 := g1.past hb
  have g2 := g2.past hb
  have hB := below_later hB hb
  clear hb
  have bI : nhI ≤ n := by have h1 := hI.len; have h2 := g1.len; omega
  go_wp2_with fail
  with_reducible refine (copyNat_any _ _ _ l2 _ g2 (by omega)).mono ?_
  rintro e w2 ⟨ahY, nhY, chY, rfl, hY, hb⟩
  have g1 := g1.past hb
  have g2 := g2.past hb
  have hI := hI.past hb
  have hB := below_later hB hb
  clear hb
  have bY : nhY ≤ n2 := by have h1 := hY.len; have h2 := g2.len; omega
  have hZ := Below.refl w2.heap.size w2
  have zB := hB
  have zg1 := g1
  have zg2 := g2
  have zhI := hI.toNatAt
  have zhY := hY.toNatAt
  go_wp2_with fail
  with_reducible refine (div_zero _ _ _ l _ _ _ l2 _ hI.toNatAt hY.toNatAt (by omega) (by omega) HZ.out).mono ?_
  rintro e w3 ⟨rfl, hb⟩
  have g1 := g1.past hb
  have g2 := g2.past hb
  have hI := hI.past hb
  have hY := hY.past hb
  have hB := below_later hB hb
  have hZ := below_later hZ hb
  clear hb
  go_wp2_with fail
  with_reducible refine (rdiv_zero _ _ _ l _ _ _ l2 _ g1 g2 (by omega) (by omega) HZ.out).mono ?_
  rintro e w4 ⟨rfl, hb⟩
  have g1 := g1.past hb
  have g2 := g2.past hb
  have hI := hI.past hb
  have hY := hY.past hb
  have hB := below_later hB hb
  have hZ := below_later hZ hb
  clear hb
  go_wp2_with fail
  with_reducible refine (part_zero _ _ _ _).mono ?_
  rintro e w5 ⟨rfl, hb⟩
  have g1 := g1.past hb
  have g2 := g2.past hb
  have hI := hI.past hb
  have hY := hY.past hb
  have hB := below_later hB hb
  have hZ := below_later hZ hb
  clear hb
  go_wp2_with fail
  with_reducible refine (rpart_zero _ _ _ l _ g1 (by omega)).mono ?_
  rintro e w6 ⟨rfl, hb⟩
  have g1 := g1.past hb
  have g2 := g2.past hb
  have hI := hI.past hb
  have hY := hY.past hb
  have hB := below_later hB hb
  have hZ := below_later hZ hb
  clear hb
  go_wp2_with fail
  refine (sameNat_yes (NatAt.nil _) (NatAt.nil _)).mono ?_
  rintro e w7 ⟨rfl, hb⟩
  have g1 := g1.past hb
  have g2 := g2.past hb
  have hI := hI.past hb
  have hY := hY.past hb
  have hB := below_later hB hb
  have hZ := below_later hZ hb
  clear hb
  go_wp2_with fail
  refine (sameNat_yes (NatAt.nil _) (NatAt.nil _)).mono ?_
  rintro e w8 ⟨rfl, hb⟩
  have g1 := g1.past hb
  have g2 := g2.past hb
  have hI := hI.past hb
  have hY := hY.past hb
  have hB := below_later hB hb
  have hZ := below_later hZ hb
  clear hb
  go_wp2_with fail
  refine (sameNat_yes (NatAt.nil _) (NatAt.nil _)).mono ?_
  rintro e w9 ⟨rfl, hb⟩
  have g1 := g1.past hb
  have g2 := g2.past hb
  have hI := hI.past hb
  have hY := hY.past hb
  have hB := below_later hB hb
  have hZ := below_later hZ hb
  clear hb
  go_wp2_with fail
  with_reducible refine (divides_any _ _ _ l _ _ _ l2 _ hI.toNatAt hY.toNatAt (by omega) (by omega)).mono ?_
  rintro e w10 ⟨rfl, hb⟩
  have g1 := g1.past hb
  have g2 := g2.past hb
  have hI := hI.past hb
  have hY := hY.past hb
  have hB := below_later hB hb
  have hZ := below_later hZ hb
  clear hb
  go_wp2_with fail
  with_reducible refine (rdivides_any _ _ _ l _ _ _ l2 _ g1 g2 (by omega) (by omega)).mono ?_
  rintro e w11 ⟨rfl, hb⟩
  have g1 := g1.past hb
  have g2 := g2.past hb
  have hI := hI.past hb
  have hY := hY.past hb
  have hB := below_later hB hb
  have hZ := below_later hZ hb
  clear hb
  go_wp2_with fail
  with_reducible refine (overNat_any w2.heap.size _ _ _ _ (OwnAt.nil _ _).writ).mono ?_
  rintro e w12 ⟨rfl, hb, hg⟩
  have hZ := hZ.trans hb
  clear hb hg
  go_wp2_with fail
  with_reducible refine (overNat_any w2.heap.size _ _ _ _ (OwnAt.nil _ _).writ).mono ?_
  rintro e w13 ⟨rfl, hb, hg⟩
  have hZ := hZ.trans hb
  clear hb hg
  go_wp2_with fail
  with_reducible refine (overNat_any w2.heap.size _ _ _ _ (OwnAt.nil _ _).writ).mono ?_
  rintro e w14 ⟨rfl, hb, hg⟩
  have hZ := hZ.trans hb
  clear hb hg
  have g1 := zg1.past hZ
  have g2 := zg2.past hZ
  have hI := zhI.past hZ
  have hY := zhY.past hZ
  have hB := below_later zB hZ
  go_wp2_with fail
  with_reducible refine (sameNat_yes hI g1).mono ?_
  rintro e w15 ⟨rfl, hb⟩
  have g1 := g1.past hb
  have g2 := g2.past hb
  have hI := hI.past hb
  have hY := hY.past hb
  have hB := below_later hB hb
  clear hb
  go_wp2_with fail
  with_reducible refine (sameNat_yes hY g2).mono ?_
  rintro e w16 ⟨rfl, hb⟩
  have g1 := g1.past hb
  have g2 := g2.past hb
  have hI := hI.past hb
  have hY := hY.past hb
  have hB := below_later hB hb
  clear hb
  go_wp2_with fail
  with_reducible refine (awake03 _).mono ?_
  rintro e w17 ⟨rfl, hb⟩
  have g1 := g1.past hb
  have g2 := g2.past hb
  have hI := hI.past hb
  have hY := hY.past hb
  have hB := below_later hB hb
  clear hb
  go_wp2
  go_ret
  exact ⟨rfl, hB⟩

set_option maxRecDepth 100000 in
set_option maxHeartbeats 4000000 in
theorem quotDivides_zero_some (a : Option Addr) (n c : Nat) (l : List Nat) (a2 : Option Addr) (n2 c2 : Nat) (l2 : List Nat) (x : Nat) (w : World) (g1 : NatAt w a n c l) (g2 : NatAt w a2 n2 c2 l2) (hn : n ≤ 24) (hn2 : n2 ≤ 24) (hz : val l2 = 0) (hx0 : 0 < x) (hx : x < 18446744073709551616) :
    Calls Try.prog 5 #[.slice a n c, .slice a2 n2 c2, .int .u64 (x : Int)] w (RetVal w (.bool true)) := by
  have hc1 := Nat.le_trans g1.le g1.cle
  have hc2 := Nat.le_trans g2.le g2.cle
  have t0 : (decide ((24 : Int) < (n : Int)) || decide ((24 : Int) < (n2 : Int))) = false := by simp; omega
  have tl := Lib.hid t0
  clear t0
  have HZ := Lib.hid hz
  clear hz
  obtain ⟨R, hRR⟩ : ∃ R, val l % x = R := ⟨_, rfl⟩
  have HX := Lib.hid hx
  have HX0 := Lib.hid hx0
  have HRR := Lib.hid hRR
  clear hx hx0 hRR
  go_enter Try.func5, Try.ntmps5
  have hB := Below.refl w.heap.size w
  go_wp2_with fail
  with_reducible refine (long03_any _ _ _ _ _ _ _ hc1 hc2).mono ?_
  rintro e w' ⟨rfl, rfl⟩
  rw [tl.out]
  go_wp2_with fail
  with_reducible refine (copyNat_any _ _ _ l _ g1 (by omega)).mono ?_
  rintro e w1 ⟨ahI, nhI, chI, rfl, hI, hb⟩
  have g1 := g1.past hb
  have g2 := g2.past hb
  have hB := below_later hB hb
  clear hb
  have bI : nhI ≤ n := by have h1 := hI.len; have h2 := g1.len; omega
  go_wp2_with fail
  with_reducible refine (copyNat_any _ _ _ l2 _ g2 (by omega)).mono ?_
  rintro e w2 ⟨ahY, nhY, chY, rfl, hY, hb⟩
  have g1 := g1.past hb
  have g2 := g2.past hb
  have hI := hI.past hb
  have hB := below_later hB hb
  clear hb
  have bY : nhY ≤ n2 := by have h1 := hY.len; have h2 := g2.len; omega
  have hZ := Below.refl w2.heap.size w2
  have zB := hB
  have zg1 := g1
  have zg2 := g2
  have zhI := hI.toNatAt
  have zhY := hY.toNatAt
  go_wp2_with fail
  with_reducible refine (div_zero _ _ _ l _ _ _ l2 _ hI.toNatAt hY.toNatAt (by omega) (by omega) HZ.out).mono ?_
  rintro e w3 ⟨rfl, hb⟩
  have g1 := g1.past hb
  have g2 := g2.past hb
  have hI := hI.past hb
  have hY := hY.past hb
  have hB := below_later hB hb
  have hZ := below_later hZ hb
  clear hb
  go_wp2_with fail
  with_reducible refine (rdiv_zero _ _ _ l _ _ _ l2 _ g1 g2 (by omega) (by omega) HZ.out).mono ?_
  rintro e w4 ⟨rfl, hb⟩
  have g1 := g1.past hb
  have g2 := g2.past hb
  have hI := hI.past hb
  have hY := hY.past hb
  have hB := below_later hB hb
  have hZ := below_later hZ hb
  clear hb
  go_wp2_with fail
  with_reducible refine (part_yes _ _ _ l x _ hI.toNatAt (by omega) HX0.out HX.out).mono ?_
  rintro e w5 ⟨ahP, nhP, chP, rfl, hP, hb⟩
  have hP := hP.mono hZ.size
  have g1 := g1.past hb
  have g2 := g2.past hb
  have hI := hI.past hb
  have hY := hY.past hb
  have hB := below_later hB hb
  have hZ := below_later hZ hb
  clear hb
  rw [HRR.out]
  go_wp2_with fail
  with_reducible refine (rpart_yes _ _ _ l x _ g1 (by omega) HX0.out HX.out).mono ?_
  rintro e w6 ⟨akP, nkP, ckP, rfl, kP, hb⟩
  have kP := kP.mono hZ.size
  have g1 := g1.past hb
  have g2 := g2.past hb
  have hI := hI.past hb
  have hY := hY.past hb
  have hP := hP.past hb
  have hB := below_later hB hb
  have hZ := below_later hZ hb
  clear hb
  rw [HRR.out]
  go_wp2_with fail
  refine (sameNat_yes (NatAt.nil _) (NatAt.nil _)).mono ?_
  rintro e w7 ⟨rfl, hb⟩
  have g1 := g1.past hb
  have g2 := g2.past hb
  have hI := hI.past hb
  have hY := hY.past hb
  have hP := hP.past hb
  have kP := kP.past hb
  have hB := below_later hB hb
  have hZ := below_later hZ hb
  clear hb
  go_wp2_with fail
  refine (sameNat_yes (NatAt.nil _) (NatAt.nil _)).mono ?_
  rintro e w8 ⟨rfl, hb⟩
  have g1 := g1.past hb
  have g2 := g2.past hb
  have hI := hI.past hb
  have hY := hY.past hb
  have hP := hP.past hb
  have kP := kP.past hb
  have hB := below_later hB hb
  have hZ := below_later hZ hb
  clear hb
  go_wp2_with fail
  with_reducible refine (sameNat_yes hP.toNatAt kP.toNatAt).mono ?_
  rintro e w9 ⟨rfl, hb⟩
  have g1 := g1.past hb
  have g2 := g2.past hb
  have hI := hI.past hb
  have hY := hY.past hb
  have hP := hP.past hb
  have kP := kP.past hb
  have hB := below_later hB hb
  have hZ := below_later hZ hb
  clear hb
  go_wp2_with fail
  with_reducible refine (divides_any _ _ _ l _ _ _ l2 _ hI.toNatAt hY.toNatAt (by omega) (by omega)).mono ?_
  rintro e w10 ⟨rfl, hb⟩
  have g1 := g1.past hb
  have g2 := g2.past hb
  have hI := hI.past hb
  have hY := hY.past hb
  have hP := hP.past hb
  have kP := kP.past hb
  have hB := below_later hB hb
  have hZ := below_later hZ hb
  clear hb
  go_wp2_with fail
  with_reducible refine (rdivides_any _ _ _ l _ _ _ l2 _ g1 g2 (by omega) (by omega)).mono ?_
  rintro e w11 ⟨rfl, hb⟩
  have g1 := g1.past hb
  have g2 := g2.past hb
  have hI := hI.past hb
  have hY := hY.past hb
  have hP := hP.past hb
  have kP := kP.past hb
  have hB := below_later hB hb
  have hZ := below_later hZ hb
  clear hb
  have hP := hP.writ
  go_wp2_with fail
  with_reducible refine (overNat_any w2.heap.size _ _ _ _ (OwnAt.nil _ _).writ).mono ?_
  rintro e w12 ⟨rfl, hb, hg⟩
  have hP := hP.keep hg
  have hZ := hZ.trans hb
  clear hb hg
  go_wp2_with fail
  with_reducible refine (overNat_any w2.heap.size _ _ _ _ (OwnAt.nil _ _).writ).mono ?_
  rintro e w13 ⟨rfl, hb, hg⟩
  have hP := hP.keep hg
  have hZ := hZ.trans hb
  clear hb hg
  go_wp2_with fail
  with_reducible refine (overNat_any w2.heap.size _ _ _ _ hP).mono ?_
  rintro e w14 ⟨rfl, hb, hg⟩
  have hZ := hZ.trans hb
  clear hb hg
  have g1 := zg1.past hZ
  have g2 := zg2.past hZ
  have hI := zhI.past hZ
  have hY := zhY.past hZ
  have hB := below_later zB hZ
  go_wp2_with fail
  with_reducible refine (sameNat_yes hI g1).mono ?_
  rintro e w15 ⟨rfl, hb⟩
  have g1 := g1.past hb
  have g2 := g2.past hb
  have hI := hI.past hb
  have hY := hY.past hb
  have hB := below_later hB hb
  clear hb
  go_wp2_with fail
  with_reducible refine (sameNat_yes hY g2).mono ?_
  rintro e w16 ⟨rfl, hb⟩
  have g1 := g1.past hb
  have g2 := g2.past hb
  have hI := hI.past hb
  have hY := hY.past hb
  have hB := below_later hB hb
  clear hb
  go_wp2_with fail
  with_reducible refine (awake03 _).mono ?_
  rintro e w17 ⟨rfl, hb⟩
  have g1 := g1.past hb
  have g2 := g2.past hb
  have hI := hI.past hb
  have hY := hY.past hb
  have hB := below_later hB hb
  clear hb
  go_wp2
  go_ret
  exact ⟨rfl, hB⟩

set_option maxRecDepth 100000 in
set_option maxHeartbeats 4000000 in
theorem quotDivides_some_none (a : Option Addr) (n c : Nat) (l : List Nat) (a2 : Option Addr) (n2 c2 : Nat) (l2 : List Nat) (x : Nat) (w : World) (g1 : NatAt w a n c l) (g2 : NatAt w a2 n2 c2 l2) (hn : n ≤ 24) (hn2 : n2 ≤ 24) (hz : val l2 ≠ 0) (hx0 : x = 0) :
    Calls Try.prog 5 #[.slice a n c, .slice a2 n2 c2, .int .u64 (x : Int)] w (RetVal w (.bool true)) := by
  have hc1 := Nat.le_trans g1.le g1.cle
  have hc2 := Nat.le_trans g2.le g2.cle
  have t0 : (decide ((24 : Int) < (n : Int)) || decide ((24 : Int) < (n2 : Int))) = false := by simp; omega
  have tl := Lib.hid t0
  clear t0
  have HZ := Lib.hid hz
  clear hz
  subst hx0
  go_enter Try.func5, Try.ntmps5
  have hB := Below.refl w.heap.size w
  go_wp2_with fail
  with_reducible refine (long03_any _ _ _ _ _ _ _ hc1 hc2).mono ?_
  rintro e w' ⟨rfl, rfl⟩
  rw [tl.out]
  go_wp2_with fail
  with_reducible refine (copyNat_any _ _ _ l _ g1 (by omega)).mono ?_
  rintro e w1 ⟨ahI, nhI, chI, rfl, hI, hb⟩
  have g1 := g1.past hb
  have g2 := g2.past hb
  have hB := below_later hB hb
  clear hb
  have bI : nhI ≤ n := by have h1 := hI.len; have h2 := g1.len; omega
  go_wp2_with fail
  with_reducible refine (copyNat_any _ _ _ l2 _ g2 (by omega)).mono ?_
  rintro e w2 ⟨ahY, nhY, chY, rfl, hY, hb⟩
  have g1 := g1.past hb
  have g2 := g2.past hb
  have hI := hI.past hb
  have hB := below_later hB hb
  clear hb
  have bY : nhY ≤ n2 := by have h1 := hY.len; have h2 := g2.len; omega
  have hZ := Below.refl w2.heap.size w2
  have zB := hB
  have zg1 := g1
  have zg2 := g2
  have zhI := hI.toNatAt
  have zhY := hY.toNatAt
  go_wp2_with fail
  with_reducible refine (div_yes _ _ _ l _ _ _ l2 _ hI.toNatAt hY.toNatAt (by omega) (by omega) HZ.out).mono ?_
  rintro e w3 ⟨ahQ, nhQ, chQ, ahR, nhR, chR, rfl, hQ, hR, hb⟩
  have hQ := hQ.mono hZ.size
  have hR := hR.mono hZ.size
  have g1 := g1.past hb
  have g2 := g2.past hb
  have hI := hI.past hb
  have hY := hY.past hb
  have hB := below_later hB hb
  have hZ := below_later hZ hb
  clear hb
  go_wp2_with fail
  with_reducible refine (rdiv_yes _ _ _ l _ _ _ l2 _ g1 g2 (by omega) (by omega) HZ.out).mono ?_
  rintro e w4 ⟨akQ, nkQ, ckQ, akR, nkR, ckR, rfl, kQ, kR, hb⟩
  have kQ := kQ.mono hZ.size
  have kR := kR.mono hZ.size
  have g1 := g1.past hb
  have g2 := g2.past hb
  have hI := hI.past hb
  have hY := hY.past hb
  have hQ := hQ.past hb
  have hR := hR.past hb
  have hB := below_later hB hb
  have hZ := below_later hZ hb
  clear hb
  go_wp2_with fail
  with_reducible refine (part_zero _ _ _ _).mono ?_
  rintro e w5 ⟨rfl, hb⟩
  have g1 := g1.past hb
  have g2 := g2.past hb
  have hI := hI.past hb
  have hY := hY.past hb
  have hQ := hQ.past hb
  have hR := hR.past hb
  have kQ := kQ.past hb
  have kR := kR.past hb
  have hB := below_later hB hb
  have hZ := below_later hZ hb
  clear hb
  go_wp2_with fail
  with_reducible refine (rpart_zero _ _ _ l _ g1 (by omega)).mono ?_
  rintro e w6 ⟨rfl, hb⟩
  have g1 := g1.past hb
  have g2 := g2.past hb
  have hI := hI.past hb
  have hY := hY.past hb
  have hQ := hQ.past hb
  have hR := hR.past hb
  have kQ := kQ.past hb
  have kR := kR.past hb
  have hB := below_later hB hb
  have hZ := below_later hZ hb
  clear hb
  go_wp2_with fail
  with_reducible refine (sameNat_yes hQ.toNatAt kQ.toNatAt).mono ?_
  rintro e w7 ⟨rfl, hb⟩
  have g1 := g1.past hb
  have g2 := g2.past hb
  have hI := hI.past hb
  have hY := hY.past hb
  have hQ := hQ.past hb
  have hR := hR.past hb
  have kQ := kQ.past hb
  have kR := kR.past hb
  have hB := below_later hB hb
  have hZ := below_later hZ hb
  clear hb
  go_wp2_with fail
  with_reducible refine (sameNat_yes hR.toNatAt kR.toNatAt).mono ?_
  rintro e w8 ⟨rfl, hb⟩
  have g1 := g1.past hb
  have g2 := g2.past hb
  have hI := hI.past hb
  have hY := hY.past hb
  have hQ := hQ.past hb
  have hR := hR.past hb
  have kQ := kQ.past hb
  have kR := kR.past hb
  have hB := below_later hB hb
  have hZ := below_later hZ hb
  clear hb
  go_wp2_with fail
  refine (sameNat_yes (NatAt.nil _) (NatAt.nil _)).mono ?_
  rintro e w9 ⟨rfl, hb⟩
  have g1 := g1.past hb
  have g2 := g2.past hb
  have hI := hI.past hb
  have hY := hY.past hb
  have hQ := hQ.past hb
  have hR := hR.past hb
  have kQ := kQ.past hb
  have kR := kR.past hb
  have hB := below_later hB hb
  have hZ := below_later hZ hb
  clear hb
  go_wp2_with fail
  with_reducible refine (divides_any _ _ _ l _ _ _ l2 _ hI.toNatAt hY.toNatAt (by omega) (by omega)).mono ?_
  rintro e w10 ⟨rfl, hb⟩
  have g1 := g1.past hb
  have g2 := g2.past hb
  have hI := hI.past hb
  have hY := hY.past hb
  have hQ := hQ.past hb
  have hR := hR.past hb
  have kQ := kQ.past hb
  have kR := kR.past hb
  have hB := below_later hB hb
  have hZ := below_later hZ hb
  clear hb
  go_wp2_with fail
  with_reducible refine (rdivides_any _ _ _ l _ _ _ l2 _ g1 g2 (by omega) (by omega)).mono ?_
  rintro e w11 ⟨rfl, hb⟩
  have g1 := g1.past hb
  have g2 := g2.past hb
  have hI := hI.past hb
  have hY := hY.past hb
  have hQ := hQ.past hb
  have hR := hR.past hb
  have kQ := kQ.past hb
  have kR := kR.past hb
  have hB := below_later hB hb
  have hZ := below_later hZ hb
  clear hb
  have hQ := hQ.writ
  have hR := hR.writ
  go_wp2_with fail
  with_reducible refine (overNat_any w2.heap.size _ _ _ _ hQ).mono ?_
  rintro e w12 ⟨rfl, hb, hg⟩
  have hR := hR.keep hg
  have hZ := hZ.trans hb
  clear hb hg
  go_wp2_with fail
  with_reducible refine (overNat_any w2.heap.size _ _ _ _ hR).mono ?_
  rintro e w13 ⟨rfl, hb, hg⟩
  have hZ := hZ.trans hb
  clear hb hg
  go_wp2_with fail
  with_reducible refine (overNat_any w2.heap.size _ _ _ _ (OwnAt.nil _ _).writ).mono ?_
  rintro e w14 ⟨rfl, hb, hg⟩
  have hZ := hZ.trans hb
  clear hb hg
  have g1 := zg1.past hZ
  have g2 := zg2.past hZ
  have hI := zhI.past hZ
  have hY := zhY.past hZ
  have hB := below_later zB hZ
  go_wp2_with fail
  with_reducible refine (sameNat_yes hI g1).mono ?_
  rintro e w15 ⟨rfl, hb⟩
  have g1 := g1.past hb
  have g2 := g2.past hb
  have hI := hI.past hb
  have hY := hY.past hb
  have hB := below_later hB hb
  clear hb
  go_wp2_with fail
  with_reducible refine (sameNat_yes hY g2).mono ?_
  rintro e w16 ⟨rfl, hb⟩
  have g1 := g1.past hb
  have g2 := g2.past hb
  have hI := hI.past hb
  have hY := hY.past hb
  have hB := below_later hB hb
  clear hb
  go_wp2_with fail
  with_reducible refine (awake03 _).mono ?_
  rintro e w17 ⟨rfl, hb⟩
  have g1 := g1.past hb
  have g2 := g2.past hb
  have hI := hI.past hb
  have hY := hY.past hb
  have hB := below_later hB hb
  clear hb
  go_wp2
  go_ret
  exact ⟨rfl, hB⟩

set_option maxRecDepth 100000 in
set_option maxHeartbeats 4000000 in
theorem quotDivides_some_some (a : Option Addr) (n c : Nat) (l : List Nat) (a2 : Option Addr) (n2 c2 : Nat) (l2 : List Nat) (x : Nat) (w : World) (g1 : NatAt w a n c l) (g2 : NatAt w a2 n2 c2 l2) (hn : n ≤ 24) (hn2 : n2 ≤ 24) (hz : val l2 ≠ 0) (hx0 : 0 < x) (hx : x < 18446744073709551616) :
    Calls Try.prog 5 #[.slice a n c, .slice a2 n2 c2, .int .u64 (x : Int)] w (RetVal w (.bool true)) := by
  have hc1 := Nat.le_trans g1.le g1.cle
  have hc2 := Nat.le_trans g2.le g2.cle
  have t0 : (decide ((24 : Int) < (n : Int)) || decide ((24 : Int) < (n2 : Int))) = false := by simp; omega
  have tl := Lib.hid t0
  clear t0
  have HZ := Lib.hid hz
  clear hz
  obtain ⟨R, hRR⟩ : ∃ R, val l % x = R := ⟨_, rfl⟩
  have HX := Lib.hid hx
  have HX0 := Lib.hid hx0
  have HRR := Lib.hid hRR
  clear hx hx0 hRR
  go_enter Try.func5, Try.ntmps5
  have hB := Below.refl w.heap.size w
  go_wp2_with fail
  with_reducible refine (long03_any _ _ _ _ _ _ _ hc1 hc2).mono ?_
  rintro e w' ⟨rfl, rfl⟩
  rw [tl.out]
  go_wp2_with fail
  with_reducible refine (copyNat_any _ _ _ l _ g1 (by omega)).mono ?_
  rintro e w1 ⟨ahI, nhI, chI, rfl, hI, hb⟩
  have g1 := g1.past hb
  have g2 := g2.past hb
  have hB := below_later hB hb
  clear hb
  have bI : nhI ≤ n := by have h1 := hI.len; have h2 := g1.len; omega
  go_wp2_with fail
  with_reducible refine (copyNat_any _ _ _ l2 _ g2 (by omega)).mono ?_
  rintro e w2 ⟨ahY, nhY, chY, rfl, hY, hb⟩
  have g1 := g1.past hb
  have g2 := g2.past hb
  have hI := hI.past hb
  have hB := below_later hB hb
  clear hb
  have bY : nhY ≤ n2 := by have h1 := hY.len; have h2 := g2.len; omega
  have hZ := Below.refl w2.heap.size w2
  have zB := hB
  have zg1 := g1
  have zg2 := g2
  have zhI := hI.toNatAt
  have zhY := hY.toNatAt
  go_wp2_with fail
  with_reducible refine (div_yes _ _ _ l _ _ _ l2 _ hI.toNatAt hY.toNatAt (by omega) (by omega) HZ.out).mono ?_
  rintro e w3 ⟨ahQ, nhQ, chQ, ahR, nhR, chR, rfl, hQ, hR, hb⟩
  have hQ := hQ.mono hZ.size
  have hR := hR.mono hZ.size
  have g1 := g1.past hb
  have g2 := g2.past hb
  have hI := hI.past hb
  have hY := hY.past hb
  have hB := below_later hB hb
  have hZ := below_later hZ hb
  clear hb
  go_wp2_with fail
  with_reducible refine (rdiv_yes _ _ _ l _ _ _ l2 _ g1 g2 (by omega) (by omega) HZ.out).mono ?_
  rintro e w4 ⟨akQ, nkQ, ckQ, akR, nkR, ckR, rfl, kQ, kR, hb⟩
  have kQ := kQ.mono hZ.size
  have kR := kR.mono hZ.size
  have g1 := g1.past hb
  have g2 := g2.past hb
  have hI := hI.past hb
  have hY := hY.past hb
  have hQ := hQ.past hb
  have hR := hR.past hb
  have hB := below_later hB hb
  have hZ := below_later hZ hb
  clear hb
  go_wp2_with fail
  with_reducible refine (part_yes _ _ _ l x _ hI.toNatAt (by omega) HX0.out HX.out).mono ?_
  rintro e w5 ⟨ahP, nhP, chP, rfl, hP, hb⟩
  have hP := hP.mono hZ.size
  have g1 := g1.past hb
  have g2 := g2.past hb
  have hI := hI.past hb
  have hY := hY.past hb
  have hQ := hQ.past hb
  have hR := hR.past hb
  have kQ := kQ.past hb
  have kR := kR.past hb
  have hB := below_later hB hb
  have hZ := below_later hZ hb
  clear hb
  rw [HRR.out]
  go_wp2_with fail
  with_reducible refine (rpart_yes _ _ _ l x _ g1 (by omega) HX0.out HX.out).mono ?_
  rintro e w6 ⟨akP, nkP, ckP, rfl, kP, hb⟩
  have kP := kP.mono hZ.size
  have g1 := g1.past hb
  have g2 := g2.past hb
  have hI := hI.past hb
  have hY := hY.past hb
  have hQ := hQ.past hb
  have hR := hR.past hb
  have kQ := kQ.past hb
  have kR := kR.past hb
  have hP := hP.past hb
  have hB := below_later hB hb
  have hZ := below_later hZ hb
  clear hb
  rw [HRR.out]
  go_wp2_with fail
  with_reducible refine (sameNat_yes hQ.toNatAt kQ.toNatAt).mono ?_
  rintro e w7 ⟨rfl, hb⟩
  have g1 := g1.past hb
  have g2 := g2.past hb
  have hI := hI.past hb
  have hY := hY.past hb
  have hQ := hQ.past hb
  have hR := hR.past hb
  have kQ := kQ.past hb
  have kR := kR.past hb
  have hP := hP.past hb
  have kP := kP.past hb
  have hB := below_later hB hb
  have hZ := below_later hZ hb
  clear hb
  go_wp2_with fail
  with_reducible refine (sameNat_yes hR.toNatAt kR.toNatAt).mono ?_
  rintro e w8 ⟨rfl, hb⟩
  have g1 := g1.past hb
  have g2 := g2.past hb
  have hI := hI.past hb
  have hY := hY.past hb
  have hQ := hQ.past hb
  have hR := hR.past hb
  have kQ := kQ.past hb
  have kR := kR.past hb
  have hP := hP.past hb
  have kP := kP.past hb
  have hB := below_later hB hb
  have hZ := below_later hZ hb
  clear hb
  go_wp2_with fail
  with_reducible refine (sameNat_yes hP.toNatAt kP.toNatAt).mono ?_
  rintro e w9 ⟨rfl, hb⟩
  have g1 := g1.past hb
  have g2 := g2.past hb
  have hI := hI.past hb
  have hY := hY.past hb
  have hQ := hQ.past hb
  have hR := hR.past hb
  have kQ := kQ.past hb
  have kR := kR.past hb
  have hP := hP.past hb
  have kP := kP.past hb
  have hB := below_later hB hb
  have hZ := below_later hZ hb
  clear hb
  go_wp2_with fail
  with_reducible refine (divides_any _ _ _ l _ _ _ l2 _ hI.toNatAt hY.toNatAt (by omega) (by omega)).mono ?_
  rintro e w10 ⟨rfl, hb⟩
  have g1 := g1.past hb
  have g2 := g2.past hb
  have hI := hI.past hb
  have hY := hY.past hb
  have hQ := hQ.past hb
  have hR := hR.past hb
  have kQ := kQ.past hb
  have kR := kR.past hb
  have hP := hP.past hb
  have kP := kP.past hb
  have hB := below_later hB hb
  have hZ := below_later hZ hb
  clear hb
  go_wp2_with fail
  with_reducible refine (rdivides_any _ _ _ l _ _ _ l2 _ g1 g2 (by omega) (by omega)).mono ?_
  rintro e w11 ⟨rfl, hb⟩
  have g1 := g1.past hb
  have g2 := g2.past hb
  have hI := hI.past hb
  have hY := hY.past hb
  have hQ := hQ.past hb
  have hR := hR.past hb
  have kQ := kQ.past hb
  have kR := kR.past hb
  have hP := hP.past hb
  have kP := kP.past hb
  have hB := below_later hB hb
  have hZ := below_later hZ hb
  clear hb
  have hQ := hQ.writ
  have hR := hR.writ
  have hP := hP.writ
  go_wp2_with fail
  with_reducible refine (overNat_any w2.heap.size _ _ _ _ hQ).mono ?_
  rintro e w12 ⟨rfl, hb, hg⟩
  have hR := hR.keep hg
  have hP := hP.keep hg
  have hZ := hZ.trans hb
  clear hb hg
  go_wp2_with fail
  with_reducible refine (overNat_any w2.heap.size _ _ _ _ hR).mono ?_
  rintro e w13 ⟨rfl, hb, hg⟩
  have hP := hP.keep hg
  have hZ := hZ.trans hb
  clear hb hg
  go_wp2_with fail
  with_reducible refine (overNat_any w2.heap.size _ _ _ _ hP).mono ?_
  rintro e w14 ⟨rfl, hb, hg⟩
  have hZ := hZ.trans hb
  clear hb hg
  have g1 := zg1.past hZ
  have g2 := zg2.past hZ
  have hI := zhI.past hZ
  have hY := zhY.past hZ
  have hB := below_later zB hZ
  go_wp2_with fail
  with_reducible refine (sameNat_yes hI g1).mono ?_
  rintro e w15 ⟨rfl, hb⟩
  have g1 := g1.past hb
  have g2 := g2.past hb
  have hI := hI.past hb
  have hY := hY.past hb
  have hB := below_later hB hb
  clear hb
  go_wp2_with fail
  with_reducible refine (sameNat_yes hY g2).mono ?_
  rintro e w16 ⟨rfl, hb⟩
  have g1 := g1.past hb
  have g2 := g2.past hb
  have hI := hI.past hb
  have hY := hY.past hb
  have hB := below_later hB hb
  clear hb
  go_wp2_with fail
  with_reducible refine (awake03 _).mono ?_
  rintro e w17 ⟨rfl, hb⟩
  have g1 := g1.past hb
  have g2 := g2.past hb
  have hI := hI.past hb
  have hY := hY.past hb
  have hB := below_later hB hb
  clear hb
  go_wp2
  go_ret
  exact ⟨rfl, hB⟩

theorem quotDivides_any (a : Option Addr) (n c : Nat) (l : List Nat) (a2 : Option Addr) (n2 c2 : Nat) (l2 : List Nat) (x : Int) (w : World) (g1 : NatAt w a n c l) (g2 : NatAt w a2 n2 c2 l2) (hx : 0 ≤ x) (hx2 : x < 18446744073709551616) :
    Calls Try.prog 5 #[.slice a n c, .slice a2 n2 c2, .int .u64 x] w (RetVal w (.bool true)) := by
  obtain ⟨x, rfl⟩ := Int.eq_ofNat_of_zero_le hx
  have hx : x < 18446744073709551616 := by omega
  by_cases hl : 24 < n ∨ 24 < n2
  · exact quotDivides_long _ _ _ l _ _ _ l2 x w g1 g2 hl
  · by_cases hz : val l2 = 0 <;> by_cases hx0 : x = 0
    · exact quotDivides_zero_none _ _ _ l _ _ _ l2 x w g1 g2 (by omega) (by omega) hz hx0
    · exact quotDivides_zero_some _ _ _ l _ _ _ l2 x w g1 g2 (by omega) (by omega) hz (by omega) hx
    · exact quotDivides_some_none _ _ _ l _ _ _ l2 x w g1 g2 (by omega) (by omega) hz hx0
    · exact quotDivides_some_some _ _ _ l _ _ _ l2 x w g1 g2 (by omega) (by omega) hz (by omega) hx

set_option maxRecDepth 100000 in
set_option maxHeartbeats 4000000 in
theorem quotCommon_any (a : Option Addr) (n c : Nat) (l : List Nat) (a2 : Option Addr) (n2 c2 : Nat) (l2 : List Nat) (w : World) (g1 : NatAt w a n c l) (g2 : NatAt w a2 n2 c2 l2) :
    Calls Try.prog 3 #[.slice a n c, .slice a2 n2 c2] w (RetVal w (.bool true)) := by
  have hc1 := Nat.le_trans g1.le g1.cle
  have hc2 := Nat.le_trans g2.le g2.cle
  by_cases hl1 : 8 < n
  · have t1 : decide ((8 : Int) < (n : Int)) = true := by simp; omega
    go_enter Try.func3, Try.ntmps3
    have hB := Below.refl w.heap.size w
    go_wp2_with fail
    with_reducible refine (longNat_any _ _ _ _ _ hc1).mono ?_
    rintro e w' ⟨rfl, rfl⟩
    go_wp2_with fail
    with_reducible refine (awake03 _).mono ?_
    rintro e w1 ⟨rfl, hb⟩
    have hB := below_later hB hb
    clear hb
    go_wp2
    go_ret
    exact ⟨rfl, hB⟩
  have t1 : decide ((8 : Int) < (n : Int)) = false := by simp; omega
  by_cases hl2 : 8 < n2
  · have t2 : decide ((8 : Int) < (n2 : Int)) = true := by simp; omega
    go_enter Try.func3, Try.ntmps3
    have hB := Below.refl w.heap.size w
    go_wp2_with fail
    with_reducible refine (longNat_any _ _ _ _ _ hc1).mono ?_
    rintro e w' ⟨rfl, rfl⟩
    go_wp2_with fail
    with_reducible refine (longNat_any _ _ _ _ _ hc2).mono ?_
    rintro e w' ⟨rfl, rfl⟩
    go_wp2_with fail
    with_reducible refine (awake03 _).mono ?_
    rintro e w1 ⟨rfl, hb⟩
    have hB := below_later hB hb
    clear hb
    go_wp2
    go_ret
    exact ⟨rfl, hB⟩
  have t2 : decide ((8 : Int) < (n2 : Int)) = false := by simp; omega
  go_enter Try.func3, Try.ntmps3
  have hB := Below.refl w.heap.size w
  go_wp2_with fail
  with_reducible refine (longNat_any _ _ _ _ _ hc1).mono ?_
  rintro e w' ⟨rfl, rfl⟩
  go_wp2_with fail
  with_reducible refine (longNat_any _ _ _ _ _ hc2).mono ?_
  rintro e w' ⟨rfl, rfl⟩
  go_wp2_with fail
  with_reducible refine (copyNat_any _ _ _ l _ g1 (by omega)).mono ?_
  rintro e w1 ⟨ahI, nhI, chI, rfl, hI, hb⟩
  have g1 := g1.past hb
  have g2 := g2.past hb
  have hB := below_later hB hb
  clear hb
  have bI : nhI ≤ n := by have h1 := hI.len; have h2 := g1.len; omega
  go_wp2_with fail
  with_reducible refine (copyNat_any _ _ _ l2 _ g2 (by omega)).mono ?_
  rintro e w2 ⟨ahY, nhY, chY, rfl, hY, hb⟩
  have g1 := g1.past hb
  have g2 := g2.past hb
  have hI := hI.past hb
  have hB := below_later hB hb
  clear hb
  have bY : nhY ≤ n2 := by have h1 := hY.len; have h2 := g2.len; omega
  have hZ := Below.refl w2.heap.size w2
  have zB := hB
  have zg1 := g1
  have zg2 := g2
  have zhI := hI.toNatAt
  have zhY := hY.toNatAt
  go_wp2_with fail
  with_reducible refine (gcd_any _ _ _ l _ _ _ l2 _ hI.toNatAt hY.toNatAt (by omega) (by omega)).mono ?_
  rintro e w3 ⟨ahG, nhG, chG, rfl, hG, hb⟩
  have hG := hG.mono hZ.size
  have g1 := g1.past hb
  have g2 := g2.past hb
  have hI := hI.past hb
  have hY := hY.past hb
  have hB := below_later hB hb
  have hZ := below_later hZ hb
  clear hb
  go_wp2_with fail
  with_reducible refine (rgcd_any _ _ _ l _ _ _ l2 _ g1 g2 (by omega) (by omega)).mono ?_
  rintro e w4 ⟨akG, nkG, ckG, rfl, kG, hb⟩
  have kG := kG.mono hZ.size
  have g1 := g1.past hb
  have g2 := g2.past hb
  have hI := hI.past hb
  have hY := hY.past hb
  have hG := hG.past hb
  have hB := below_later hB hb
  have hZ := below_later hZ hb
  clear hb
  go_wp2_with fail
  with_reducible refine (sameNat_yes hG.toNatAt kG.toNatAt).mono ?_
  rintro e w5 ⟨rfl, hb⟩
  have g1 := g1.past hb
  have g2 := g2.past hb
  have hI := hI.past hb
  have hY := hY.past hb
  have hG := hG.past hb
  have kG := kG.past hb
  have hB := below_later hB hb
  have hZ := below_later hZ hb
  clear hb
  have hG := hG.writ
  go_wp2_with fail
  with_reducible refine (overNat_any w2.heap.size _ _ _ _ hG).mono ?_
  rintro e w6 ⟨rfl, hb, hg⟩
  have hZ := hZ.trans hb
  clear hb hg
  have g1 := zg1.past hZ
  have g2 := zg2.past hZ
  have hI := zhI.past hZ
  have hY := zhY.past hZ
  have hB := below_later zB hZ
  go_wp2_with fail
  with_reducible refine (sameNat_yes hI g1).mono ?_
  rintro e w7 ⟨rfl, hb⟩
  have g1 := g1.past hb
  have g2 := g2.past hb
  have hI := hI.past hb
  have hY := hY.past hb
  have hB := below_later hB hb
  clear hb
  go_wp2_with fail
  with_reducible refine (sameNat_yes hY g2).mono ?_
  rintro e w8 ⟨rfl, hb⟩
  have g1 := g1.past hb
  have g2 := g2.past hb
  have hI := hI.past hb
  have hY := hY.past hb
  have hB := below_later hB hb
  clear hb
  go_wp2_with fail
  with_reducible refine (awake03 _).mono ?_
  rintro e w9 ⟨rfl, hb⟩
  have g1 := g1.past hb
  have g2 := g2.past hb
  have hI := hI.past hb
  have hY := hY.past hb
  have hB := below_later hB hb
  clear hb
  go_wp2
  go_ret
  exact ⟨rfl, hB⟩

end Go.Proofs.Ytdjhgalaianifaa
