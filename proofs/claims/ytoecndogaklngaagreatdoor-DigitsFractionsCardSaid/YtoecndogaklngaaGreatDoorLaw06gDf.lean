import Derived.Test.YtoecndogaklngaaGreatDoorS0Df
import Derived.Test.YtoecndogaklngaaGreatDoorDigRef5Df
import Derived.Test.YtoecndogaklngaaGreatDoorLaw06aDf
import Derived.Test.YtoecndogaklngaaGreatDoorKit5Df
import Derived.Test.YtoecndogaklngaaGreatDoorKit6Df
set_option linter.unusedVariables false
set_option linter.unusedSimpArgs false
namespace Go.Proofs.YtoecndogaklngaaGreatDoor
open Go.RowKit
def MaxL (w : World) : Prop := ∃ m : Int, w.cell? ⟨2, 0, none⟩ = some (.int .i64 m)
theorem MaxL.later {w w' : World} (h : MaxL w) (hb : Below w.heap.size w w') : MaxL w' := by
 obtain ⟨m, hm⟩ := h
 exact ⟨m, (hb.cell (p := ⟨2, 0, none⟩) (World.block_lt_of_cell? _ _ hm)).trans hm⟩
def RetRg (w : World) (b : Bool) (u d : Nat) (E A : Nat) (e : Ending) (w' : World) : Prop :=
 ∃ a n c a2 n2 c2, e = .returned (.tuple #[.agg #[.bool b, .slice a n c, .slice a2 n2 c2], .agg #[.int .i64 (E : Int), .int .i64 (A : Int)]]) ∧ OwnAt w' w.heap.size a n c (digs u) ∧ OwnAt w' w.heap.size a2 n2 c2 (digs d) ∧ Below w.heap.size w w'
theorem same_ig (b : Bool) (a : Option Addr) (n c : Nat) (l : List Nat) (a2 : Option Addr) (n2 c2 : Nat) (l2 : List Nat) (a3 : Option Addr) (n3 c3 : Nat) (a4 : Option Addr) (n4 c4 : Nat) (w : World) (g1 : NatAt w a n c l) (g2 : NatAt w a2 n2 c2 l2) (g3 : NatAt w a3 n3 c3 l) (g4 : NatAt w a4 n4 c4 l2) :
 Calls Tryz.prog 11 #[.agg #[.bool b, .slice a n c, .slice a2 n2 c2], .agg #[.bool b, .slice a3 n3 c3, .slice a4 n4 c4]] w (RetVal w (.bool true)) := by
 have h := sameRatio_any b a n c l a2 n2 c2 l2 b a3 n3 c3 l a4 n4 c4 l2 w g1 g2 g3 g4
 rwa [eqR_same] at h
set_option maxRecDepth 100000 in
set_option maxHeartbeats 8000000 in
theorem digitsFractions_long1 (b : Bool) (a : Option Addr) (n c : Nat) (l : List Nat) (a2 : Option Addr) (n2 c2 : Nat) (l2 : List Nat) (s : ByteArray) (w : World) (g1 : NatAt w a n c l) (g2 : NatAt w a2 n2 c2 l2) (hs : s.size ≤ 9223372036854775807) (hm : MaxL w) (k1 : (decide ((12 : Int) < (n : Int)) || decide ((12 : Int) < (n2 : Int))) = true) :
 Calls Tryz.prog 3 #[.agg #[.bool b, .slice a n c, .slice a2 n2 c2], .string s] w (RetVal w (.bool true)) := by
 have hlx := fun w => longRatio_any b a n c a2 n2 c2 12 w (by have := g1.cle; have := g1.le; omega) (by have := g2.cle; have := g2.le; omega)
 simp only [k1] at hlx
 have HLX := Lib.hid hlx
 clear hlx
 clear k1
 go_enter Tryz.func3, Tryz.ntmps3
 have hB := Below.refl w.heap.size w
 go_wp2_with fail
 obtain ⟨w1, hW, hz0, hb, q, f⟩ := box1g w (w.heap.size) (by omega) #[.bool b, .slice a n c, .slice a2 n2 c2] 27
 rw [hW]
 clear hW
 have hB := below_later hB hb
 clear hb
 have lx : w.heap.size < w1.heap.size := by omega
 have qx0 := q 0; have qx1 := q 1; have qx2 := q 2
 simp only [lgA, lgZ, lgS] at qx0 qx1 qx2
 clear q f
 clear hz0
 refine (HLX.out _).mono ?_
 rintro e w2 ⟨rfl, hb⟩
 obtain ⟨qx0, qx1, qx2, lx⟩ := bq3 hb lx qx0 qx1 qx2
 have hB := below_later hB hb
 clear hb
 go_wp2_with fail
 refine (awake06 _).mono ?_
 rintro e w3 ⟨rfl, hb⟩
 obtain ⟨qx0, qx1, qx2, lx⟩ := bq3 hb lx qx0 qx1 qx2
 have hB := below_later hB hb
 clear hb
 go_wp2
 go_ret
 exact ⟨rfl, hB⟩
set_option maxRecDepth 100000 in
set_option maxHeartbeats 8000000 in
theorem digitsFractions_long2 (b : Bool) (a : Option Addr) (n c : Nat) (l : List Nat) (a2 : Option Addr) (n2 c2 : Nat) (l2 : List Nat) (s : ByteArray) (w : World) (g1 : NatAt w a n c l) (g2 : NatAt w a2 n2 c2 l2) (hs : s.size ≤ 9223372036854775807) (hm : MaxL w) (k1 : (decide ((12 : Int) < (n : Int)) || decide ((12 : Int) < (n2 : Int))) = false) (k2 : 300 < s.size) (k3 : s.size ≤ 10000) :
 Calls Tryz.prog 3 #[.agg #[.bool b, .slice a n c, .slice a2 n2 c2], .string s] w (RetVal w (.bool true)) := by
 have hlx := fun w => longRatio_any b a n c a2 n2 c2 12 w (by have := g1.cle; have := g1.le; omega) (by have := g2.cle; have := g2.le; omega)
 simp only [k1] at hlx
 have HLX := Lib.hid hlx
 clear hlx
 have t1 : decide ((300 : Int) < (s.size : Int)) = true := decide_eq_true (by omega)
 have t2 : decide ((s.size : Int) ≤ 10000) = true := decide_eq_true (by omega)
 clear k1
 go_enter Tryz.func3, Tryz.ntmps3
 have hB := Below.refl w.heap.size w
 go_wp2_with fail
 obtain ⟨w1, hW, hz0, hb, q, f⟩ := box1g w (w.heap.size) (by omega) #[.bool b, .slice a n c, .slice a2 n2 c2] 27
 rw [hW]
 clear hW
 have hB := below_later hB hb
 clear hb
 have lx : w.heap.size < w1.heap.size := by omega
 have qx0 := q 0; have qx1 := q 1; have qx2 := q 2
 simp only [lgA, lgZ, lgS] at qx0 qx1 qx2
 clear q f
 clear hz0
 refine (HLX.out _).mono ?_
 rintro e w2 ⟨rfl, hb⟩
 obtain ⟨qx0, qx1, qx2, lx⟩ := bq3 hb lx qx0 qx1 qx2
 have hB := below_later hB hb
 clear hb
 go_wp2_with fail
 refine (awake06 _).mono ?_
 rintro e w3 ⟨rfl, hb⟩
 obtain ⟨qx0, qx1, qx2, lx⟩ := bq3 hb lx qx0 qx1 qx2
 have hB := below_later hB hb
 clear hb
 go_wp2
 go_ret
 exact ⟨rfl, hB⟩
set_option maxRecDepth 100000 in
set_option maxHeartbeats 8000000 in
theorem digitsFractions_small (b : Bool) (a : Option Addr) (n c : Nat) (l : List Nat) (a2 : Option Addr) (n2 c2 : Nat) (l2 : List Nat) (s : ByteArray) (w : World) (g1 : NatAt w a n c l) (g2 : NatAt w a2 n2 c2 l2) (hs : s.size ≤ 9223372036854775807) (hm : MaxL w) (k1 : (decide ((12 : Int) < (n : Int)) || decide ((12 : Int) < (n2 : Int))) = false) (k2 : ¬ 300 < s.size) :
 Calls Tryz.prog 3 #[.agg #[.bool b, .slice a n c, .slice a2 n2 c2], .string s] w (RetVal w (.bool true)) := by
 have hlx := fun w => longRatio_any b a n c a2 n2 c2 12 w (by have := g1.cle; have := g1.le; omega) (by have := g2.cle; have := g2.le; omega)
 simp only [k1] at hlx
 have HLX := Lib.hid hlx
 clear hlx
 have b1 : n ≤ 12 := by simp at k1; omega
 have b2 : n2 ≤ 12 := by simp at k1; omega
 have lb1 : l.length ≤ 12 := by rw [g1.len]; exact b1
 have lb2 : l2.length ≤ 12 := by rw [g2.len]; exact b2
 obtain ⟨T, hT⟩ : ∃ T, textE b l l2 = T := ⟨_, rfl⟩
 obtain ⟨C, hC⟩ : ∃ C, chkR b l l2 = C := ⟨_, rfl⟩
 have hcp := fun w g1 g2 => copyRatio_any b a n c l a2 n2 c2 l2 w g1 g2 (by omega) (by omega)
 have htx := fun w a n c a2 n2 c2 (g1 : NatAt w a n c l) (g2 : NatAt w a2 n2 c2 l2) => text_any b a n c l a2 n2 c2 l2 w g1 g2 (by rw [← g1.len]; omega) (by rw [← g2.len]; omega)
 have htr := fun w (g1 : NatAt w a n c l) (g2 : NatAt w a2 n2 c2 l2) => rtext_any b a n c l a2 n2 c2 l2 w g1 g2 (by omega) (by omega)
 simp only [hT, hC] at htx htr
 have hrd : ∀ w, MaxL w → Calls Tryz.prog 9 #[.string s] w (RetRg w (readR s.data.toList).1 (readR s.data.toList).2.1 (readR s.data.toList).2.2 (readE s.data.toList) (readA s.data.toList)) := fun w ⟨m, hm⟩ => read_any s w hs m hm
 have hrr : ∀ w, Calls Tryz.prog 10 #[.string s] w (RetRg w (readR s.data.toList).1 (readR s.data.toList).2.1 (readR s.data.toList).2.2 (readE s.data.toList) (readA s.data.toList)) := fun w => rread_any s w hs
 obtain ⟨bS, hbS⟩ : ∃ x, (readR s.data.toList).1 = x := ⟨_, rfl⟩
 obtain ⟨uS, huS⟩ : ∃ x, (readR s.data.toList).2.1 = x := ⟨_, rfl⟩
 obtain ⟨dS, hdS⟩ : ∃ x, (readR s.data.toList).2.2 = x := ⟨_, rfl⟩
 obtain ⟨ES, hES⟩ : ∃ x, readE s.data.toList = x := ⟨_, rfl⟩
 obtain ⟨AS, hAS⟩ : ∃ x, readA s.data.toList = x := ⟨_, rfl⟩
 simp only [hbS, huS, hdS, hES, hAS] at hrd hrr
 have HCP := Lib.hid hcp
 have HTX := Lib.hid htx
 have HTR := Lib.hid htr
 have HRD := Lib.hid hrd
 have HRR := Lib.hid hrr
 clear hcp htx htr hrd hrr hT hC hbS huS hdS hES hAS k1 lb1 lb2
 have t1 : decide ((300 : Int) < (s.size : Int)) = false := decide_eq_false (by omega)
 go_enter Tryz.func3, Tryz.ntmps3
 have hB := Below.refl w.heap.size w
 go_wp2_with fail
 obtain ⟨w1, hW, hz0, hb, q, f⟩ := box1g w (w.heap.size) (by omega) #[.bool b, .slice a n c, .slice a2 n2 c2] 27
 rw [hW]
 clear hW
 have g1 := g1.past hb
 have g2 := g2.past hb
 have hB := below_later hB hb
 clear hb
 have lx : w.heap.size < w1.heap.size := by omega
 have qx0 := q 0; have qx1 := q 1; have qx2 := q 2
 simp only [lgA, lgZ, lgS] at qx0 qx1 qx2
 clear q f
 clear hz0
 refine (HLX.out _).mono ?_
 rintro e w2 ⟨rfl, hb⟩
 have g1 := g1.past hb
 have g2 := g2.past hb
 obtain ⟨qx0, qx1, qx2, lx⟩ := bq3 hb lx qx0 qx1 qx2
 have hB := below_later hB hb
 clear hb
 go_wp2_with fail
 refine (HCP.out _ g1 g2).mono ?_
 rintro e w3 ⟨ahZU, nhZU, chZU, ahZD, nhZD, chZD, rfl, hZU, hZD, hb⟩
 have g1 := g1.past hb
 have g2 := g2.past hb
 obtain ⟨qx0, qx1, qx2, lx⟩ := bq3 hb lx qx0 qx1 qx2
 have hB := below_later hB hb
 clear hb
 go_wp2_with fail
 obtain ⟨w4, hW, hz0, hb, q, f⟩ := box1g w3 (w3.heap.size) (by omega) #[.bool b, .slice ahZU nhZU chZU, .slice ahZD nhZD chZD] 27
 rw [hW]
 clear hW
 have g1 := g1.past hb
 have g2 := g2.past hb
 have hZU := hZU.past hb
 have hZD := hZD.past hb
 obtain ⟨qx0, qx1, qx2, lx⟩ := bq3 hb lx qx0 qx1 qx2
 have hB := below_later hB hb
 clear hb
 have lz : w3.heap.size < w4.heap.size := by omega
 have qz0 := q 0; have qz1 := q 1; have qz2 := q 2
 simp only [lgA, lgZ, lgS] at qz0 qz1 qz2
 clear q f
 clear hz0
 refine (HTX.out _ _ _ _ _ _ _ hZU.toNatAt hZD.toNatAt).mono ?_
 rintro e w5 ⟨rfl, hb⟩
 have g1 := g1.past hb
 have g2 := g2.past hb
 have hZU := hZU.past hb
 have hZD := hZD.past hb
 obtain ⟨qx0, qx1, qx2, lx⟩ := bq3 hb lx qx0 qx1 qx2
 obtain ⟨qz0, qz1, qz2, lz⟩ := bq3 hb lz qz0 qz1 qz2
 have hB := below_later hB hb
 clear hb
 go_wp2_with fail
 refine (HTR.out _ g1 g2).mono ?_
 rintro e w6 ⟨rfl, hb⟩
 have g1 := g1.past hb
 have g2 := g2.past hb
 have hZU := hZU.past hb
 have hZD := hZD.past hb
 obtain ⟨qx0, qx1, qx2, lx⟩ := bq3 hb lx qx0 qx1 qx2
 obtain ⟨qz0, qz1, qz2, lz⟩ := bq3 hb lz qz0 qz1 qz2
 have hB := below_later hB hb
 clear hb
 have hZ := Below.refl w6.heap.size w6
 have zB := hB
 have zg1 := g1
 have zg2 := g2
 have zhZU := hZU.toNatAt
 have zhZD := hZD.toNatAt
 go_wp2_with fail
 refine (HRD.out _ ((hm.later zB).later hZ)).mono ?_
 rintro e w7 ⟨ahQU, nhQU, chQU, ahQD, nhQD, chQD, rfl, hQU, hQD, hb⟩
 have hQU := hQU.mono hZ.size
 have hQD := hQD.mono hZ.size
 have g1 := g1.past hb
 have g2 := g2.past hb
 have hZU := hZU.past hb
 have hZD := hZD.past hb
 obtain ⟨qx0, qx1, qx2, lx⟩ := bq3 hb lx qx0 qx1 qx2
 obtain ⟨qz0, qz1, qz2, lz⟩ := bq3 hb lz qz0 qz1 qz2
 have hB := below_later hB hb
 have hZ := below_later hZ hb
 clear hb
 go_wp2_with fail
 obtain ⟨w8, hW, hz0, hb, q, f⟩ := box1g w7 (w7.heap.size) (by omega) #[.bool bS, .slice ahQU nhQU chQU, .slice ahQD nhQD chQD] 27
 rw [hW]
 clear hW
 have g1 := g1.past hb
 have g2 := g2.past hb
 have hZU := hZU.past hb
 have hZD := hZD.past hb
 have hQU := hQU.past hb
 have hQD := hQD.past hb
 obtain ⟨qx0, qx1, qx2, lx⟩ := bq3 hb lx qx0 qx1 qx2
 obtain ⟨qz0, qz1, qz2, lz⟩ := bq3 hb lz qz0 qz1 qz2
 have hB := below_later hB hb
 have hZ := below_later hZ hb
 clear hb
 have lq : w7.heap.size < w8.heap.size := by omega
 have qq0 := q 0; have qq1 := q 1; have qq2 := q 2
 simp only [lgA, lgZ, lgS] at qq0 qq1 qq2
 clear q f
 obtain ⟨w9, hW, hz1, hb, q, f⟩ := box1g w8 (w7.heap.size + 1) (by omega) #[.int .i64 (ES : Int), .int .i64 (AS : Int)] 35
 rw [hW]
 clear hW
 have g1 := g1.past hb
 have g2 := g2.past hb
 have hZU := hZU.past hb
 have hZD := hZD.past hb
 have hQU := hQU.past hb
 have hQD := hQD.past hb
 obtain ⟨qx0, qx1, qx2, lx⟩ := bq3 hb lx qx0 qx1 qx2
 obtain ⟨qz0, qz1, qz2, lz⟩ := bq3 hb lz qz0 qz1 qz2
 obtain ⟨qq0, qq1, qq2, lq⟩ := bq3 hb lq qq0 qq1 qq2
 have hB := below_later hB hb
 have hZ := below_later hZ hb
 clear hb
 have lf : w7.heap.size + 1 < w9.heap.size := by omega
 have qf0 := q 0; have qf1 := q 1
 simp only [lgA, lgZ, lgS] at qf0 qf1
 clear q f
 clear hz0
 clear hz1
 refine (HRR.out _).mono ?_
 rintro e w10 ⟨ahRU, nhRU, chRU, ahRD, nhRD, chRD, rfl, hRU, hRD, hb⟩
 have hRU := hRU.mono hZ.size
 have hRD := hRD.mono hZ.size
 have g1 := g1.past hb
 have g2 := g2.past hb
 have hZU := hZU.past hb
 have hZD := hZD.past hb
 have hQU := hQU.past hb
 have hQD := hQD.past hb
 obtain ⟨qx0, qx1, qx2, lx⟩ := bq3 hb lx qx0 qx1 qx2
 obtain ⟨qz0, qz1, qz2, lz⟩ := bq3 hb lz qz0 qz1 qz2
 obtain ⟨qq0, qq1, qq2, lq⟩ := bq3 hb lq qq0 qq1 qq2
 obtain ⟨qf0, qf1, lf⟩ := bq2 hb lf qf0 qf1
 have hB := below_later hB hb
 have hZ := below_later hZ hb
 clear hb
 go_wp2_with fail
 obtain ⟨w11, hW, hz0, hb, q, f⟩ := box1g w10 (w10.heap.size) (by omega) #[.bool bS, .slice ahRU nhRU chRU, .slice ahRD nhRD chRD] 27
 rw [hW]
 clear hW
 have g1 := g1.past hb
 have g2 := g2.past hb
 have hZU := hZU.past hb
 have hZD := hZD.past hb
 have hQU := hQU.past hb
 have hQD := hQD.past hb
 have hRU := hRU.past hb
 have hRD := hRD.past hb
 obtain ⟨qx0, qx1, qx2, lx⟩ := bq3 hb lx qx0 qx1 qx2
 obtain ⟨qz0, qz1, qz2, lz⟩ := bq3 hb lz qz0 qz1 qz2
 obtain ⟨qq0, qq1, qq2, lq⟩ := bq3 hb lq qq0 qq1 qq2
 obtain ⟨qf0, qf1, lf⟩ := bq2 hb lf qf0 qf1
 have hB := below_later hB hb
 have hZ := below_later hZ hb
 clear hb
 have lrq : w10.heap.size < w11.heap.size := by omega
 have qrq0 := q 0; have qrq1 := q 1; have qrq2 := q 2
 simp only [lgA, lgZ, lgS] at qrq0 qrq1 qrq2
 clear q f
 obtain ⟨w12, hW, hz1, hb, q, f⟩ := box1g w11 (w10.heap.size + 1) (by omega) #[.int .i64 (ES : Int), .int .i64 (AS : Int)] 35
 rw [hW]
 clear hW
 have g1 := g1.past hb
 have g2 := g2.past hb
 have hZU := hZU.past hb
 have hZD := hZD.past hb
 have hQU := hQU.past hb
 have hQD := hQD.past hb
 have hRU := hRU.past hb
 have hRD := hRD.past hb
 obtain ⟨qx0, qx1, qx2, lx⟩ := bq3 hb lx qx0 qx1 qx2
 obtain ⟨qz0, qz1, qz2, lz⟩ := bq3 hb lz qz0 qz1 qz2
 obtain ⟨qq0, qq1, qq2, lq⟩ := bq3 hb lq qq0 qq1 qq2
 obtain ⟨qf0, qf1, lf⟩ := bq2 hb lf qf0 qf1
 obtain ⟨qrq0, qrq1, qrq2, lrq⟩ := bq3 hb lrq qrq0 qrq1 qrq2
 have hB := below_later hB hb
 have hZ := below_later hZ hb
 clear hb
 have lrf : w10.heap.size + 1 < w12.heap.size := by omega
 have qrf0 := q 0; have qrf1 := q 1
 simp only [lgA, lgZ, lgS] at qrf0 qrf1
 clear q f
 clear hz0
 clear hz1
 refine (same_ig _ _ _ _ _ _ _ _ _ _ _ _ _ _ _ _ hQU.toNatAt hQD.toNatAt hRU.toNatAt hRD.toNatAt).mono ?_
 rintro e w13 ⟨rfl, hb⟩
 have g1 := g1.past hb
 have g2 := g2.past hb
 have hZU := hZU.past hb
 have hZD := hZD.past hb
 have hQU := hQU.past hb
 have hQD := hQD.past hb
 have hRU := hRU.past hb
 have hRD := hRD.past hb
 obtain ⟨qx0, qx1, qx2, lx⟩ := bq3 hb lx qx0 qx1 qx2
 obtain ⟨qz0, qz1, qz2, lz⟩ := bq3 hb lz qz0 qz1 qz2
 obtain ⟨qq0, qq1, qq2, lq⟩ := bq3 hb lq qq0 qq1 qq2
 obtain ⟨qf0, qf1, lf⟩ := bq2 hb lf qf0 qf1
 obtain ⟨qrq0, qrq1, qrq2, lrq⟩ := bq3 hb lrq qrq0 qrq1 qrq2
 obtain ⟨qrf0, qrf1, lrf⟩ := bq2 hb lrf qrf0 qrf1
 have hB := below_later hB hb
 have hZ := below_later hZ hb
 clear hb
 have hQU := hQU.writ
 have hQD := hQD.writ
 go_wp2_with fail
 with_reducible refine (overRatio_any w6.heap.size _ _ _ _ _ _ _ _ hQU hQD hZ.size).mono ?_
 rintro e w14 ⟨rfl, hb, hg⟩
 have qx0 := hg.cell _ _ qx0 (fun x e => by cases e)
 have qx1 := hg.cell _ _ qx1 (fun x e => by cases e)
 have qx2 := hg.cell _ _ qx2 (fun x e => by cases e)
 have lx := Nat.lt_of_lt_of_le lx hb.size
 have qz0 := hg.cell _ _ qz0 (fun x e => by cases e)
 have qz1 := hg.cell _ _ qz1 (fun x e => by cases e)
 have qz2 := hg.cell _ _ qz2 (fun x e => by cases e)
 have lz := Nat.lt_of_lt_of_le lz hb.size
 have qq0 := hg.cell _ _ qq0 (fun x e => by cases e)
 have qq1 := hg.cell _ _ qq1 (fun x e => by cases e)
 have qq2 := hg.cell _ _ qq2 (fun x e => by cases e)
 have lq := Nat.lt_of_lt_of_le lq hb.size
 have qf0 := hg.cell _ _ qf0 (fun x e => by cases e)
 have qf1 := hg.cell _ _ qf1 (fun x e => by cases e)
 have lf := Nat.lt_of_lt_of_le lf hb.size
 have qrq0 := hg.cell _ _ qrq0 (fun x e => by cases e)
 have qrq1 := hg.cell _ _ qrq1 (fun x e => by cases e)
 have qrq2 := hg.cell _ _ qrq2 (fun x e => by cases e)
 have lrq := Nat.lt_of_lt_of_le lrq hb.size
 have qrf0 := hg.cell _ _ qrf0 (fun x e => by cases e)
 have qrf1 := hg.cell _ _ qrf1 (fun x e => by cases e)
 have lrf := Nat.lt_of_lt_of_le lrf hb.size
 have hZ := hZ.trans hb
 clear hb hg
 have g1 := zg1.past hZ
 have g2 := zg2.past hZ
 have hZU := zhZU.past hZ
 have hZD := zhZD.past hZ
 have hB := below_later zB hZ
 go_wp2_with fail
 refine (same_ig _ _ _ _ _ _ _ _ _ _ _ _ _ _ _ _ hZU hZD g1 g2).mono ?_
 rintro e w15 ⟨rfl, hb⟩
 have g1 := g1.past hb
 have g2 := g2.past hb
 have hZU := hZU.past hb
 have hZD := hZD.past hb
 obtain ⟨qx0, qx1, qx2, lx⟩ := bq3 hb lx qx0 qx1 qx2
 obtain ⟨qz0, qz1, qz2, lz⟩ := bq3 hb lz qz0 qz1 qz2
 obtain ⟨qq0, qq1, qq2, lq⟩ := bq3 hb lq qq0 qq1 qq2
 obtain ⟨qf0, qf1, lf⟩ := bq2 hb lf qf0 qf1
 obtain ⟨qrq0, qrq1, qrq2, lrq⟩ := bq3 hb lrq qrq0 qrq1 qrq2
 obtain ⟨qrf0, qrf1, lrf⟩ := bq2 hb lrf qrf0 qrf1
 have hB := below_later hB hb
 clear hb
 go_wp2_with fail
 refine (awake06 _).mono ?_
 rintro e w16 ⟨rfl, hb⟩
 have g1 := g1.past hb
 have g2 := g2.past hb
 have hZU := hZU.past hb
 have hZD := hZD.past hb
 obtain ⟨qx0, qx1, qx2, lx⟩ := bq3 hb lx qx0 qx1 qx2
 obtain ⟨qz0, qz1, qz2, lz⟩ := bq3 hb lz qz0 qz1 qz2
 obtain ⟨qq0, qq1, qq2, lq⟩ := bq3 hb lq qq0 qq1 qq2
 obtain ⟨qf0, qf1, lf⟩ := bq2 hb lf qf0 qf1
 obtain ⟨qrq0, qrq1, qrq2, lrq⟩ := bq3 hb lrq qrq0 qrq1 qrq2
 obtain ⟨qrf0, qrf1, lrf⟩ := bq2 hb lrf qrf0 qrf1
 have hB := below_later hB hb
 clear hb
 go_wp2
 go_ret
 exact ⟨rfl, hB⟩
set_option maxRecDepth 100000 in
set_option maxHeartbeats 8000000 in
theorem digitsFractions_great (b : Bool) (a : Option Addr) (n c : Nat) (l : List Nat) (a2 : Option Addr) (n2 c2 : Nat) (l2 : List Nat) (s : ByteArray) (w : World) (g1 : NatAt w a n c l) (g2 : NatAt w a2 n2 c2 l2) (hs : s.size ≤ 9223372036854775807) (hm : MaxL w) (k1 : (decide ((12 : Int) < (n : Int)) || decide ((12 : Int) < (n2 : Int))) = false) (k2 : 300 < s.size) (k3 : ¬ s.size ≤ 10000) :
 Calls Tryz.prog 3 #[.agg #[.bool b, .slice a n c, .slice a2 n2 c2], .string s] w (RetVal w (.bool true)) := by
 have hlx := fun w => longRatio_any b a n c a2 n2 c2 12 w (by have := g1.cle; have := g1.le; omega) (by have := g2.cle; have := g2.le; omega)
 simp only [k1] at hlx
 have HLX := Lib.hid hlx
 clear hlx
 have b1 : n ≤ 12 := by simp at k1; omega
 have b2 : n2 ≤ 12 := by simp at k1; omega
 have lb1 : l.length ≤ 12 := by rw [g1.len]; exact b1
 have lb2 : l2.length ≤ 12 := by rw [g2.len]; exact b2
 obtain ⟨T, hT⟩ : ∃ T, textE b l l2 = T := ⟨_, rfl⟩
 obtain ⟨C, hC⟩ : ∃ C, chkR b l l2 = C := ⟨_, rfl⟩
 have hcp := fun w g1 g2 => copyRatio_any b a n c l a2 n2 c2 l2 w g1 g2 (by omega) (by omega)
 have htx := fun w a n c a2 n2 c2 (g1 : NatAt w a n c l) (g2 : NatAt w a2 n2 c2 l2) => text_any b a n c l a2 n2 c2 l2 w g1 g2 (by rw [← g1.len]; omega) (by rw [← g2.len]; omega)
 have htr := fun w (g1 : NatAt w a n c l) (g2 : NatAt w a2 n2 c2 l2) => rtext_any b a n c l a2 n2 c2 l2 w g1 g2 (by omega) (by omega)
 simp only [hT, hC] at htx htr
 have hrd : ∀ w, MaxL w → Calls Tryz.prog 9 #[.string s] w (RetRg w (readR s.data.toList).1 (readR s.data.toList).2.1 (readR s.data.toList).2.2 (readE s.data.toList) (readA s.data.toList)) := fun w ⟨m, hm⟩ => read_any s w hs m hm
 have hrr : ∀ w, Calls Tryz.prog 10 #[.string s] w (RetRg w (readR s.data.toList).1 (readR s.data.toList).2.1 (readR s.data.toList).2.2 (readE s.data.toList) (readA s.data.toList)) := fun w => rread_any s w hs
 obtain ⟨bS, hbS⟩ : ∃ x, (readR s.data.toList).1 = x := ⟨_, rfl⟩
 obtain ⟨uS, huS⟩ : ∃ x, (readR s.data.toList).2.1 = x := ⟨_, rfl⟩
 obtain ⟨dS, hdS⟩ : ∃ x, (readR s.data.toList).2.2 = x := ⟨_, rfl⟩
 obtain ⟨ES, hES⟩ : ∃ x, readE s.data.toList = x := ⟨_, rfl⟩
 obtain ⟨AS, hAS⟩ : ∃ x, readA s.data.toList = x := ⟨_, rfl⟩
 simp only [hbS, huS, hdS, hES, hAS] at hrd hrr
 have HCP := Lib.hid hcp
 have HTX := Lib.hid htx
 have HTR := Lib.hid htr
 have HRD := Lib.hid hrd
 have HRR := Lib.hid hrr
 clear hcp htx htr hrd hrr hT hC hbS huS hdS hES hAS k1 lb1 lb2
 have t1 : decide ((300 : Int) < (s.size : Int)) = true := decide_eq_true (by omega)
 have t2 : decide ((s.size : Int) ≤ 10000) = false := decide_eq_false (by omega)
 go_enter Tryz.func3, Tryz.ntmps3
 have hB := Below.refl w.heap.size w
 go_wp2_with fail
 obtain ⟨w1, hW, hz0, hb, q, f⟩ := box1g w (w.heap.size) (by omega) #[.bool b, .slice a n c, .slice a2 n2 c2] 27
 rw [hW]
 clear hW
 have g1 := g1.past hb
 have g2 := g2.past hb
 have hB := below_later hB hb
 clear hb
 have lx : w.heap.size < w1.heap.size := by omega
 have qx0 := q 0; have qx1 := q 1; have qx2 := q 2
 simp only [lgA, lgZ, lgS] at qx0 qx1 qx2
 clear q f
 clear hz0
 refine (HLX.out _).mono ?_
 rintro e w2 ⟨rfl, hb⟩
 have g1 := g1.past hb
 have g2 := g2.past hb
 obtain ⟨qx0, qx1, qx2, lx⟩ := bq3 hb lx qx0 qx1 qx2
 have hB := below_later hB hb
 clear hb
 go_wp2_with fail
 refine (HCP.out _ g1 g2).mono ?_
 rintro e w3 ⟨ahZU, nhZU, chZU, ahZD, nhZD, chZD, rfl, hZU, hZD, hb⟩
 have g1 := g1.past hb
 have g2 := g2.past hb
 obtain ⟨qx0, qx1, qx2, lx⟩ := bq3 hb lx qx0 qx1 qx2
 have hB := below_later hB hb
 clear hb
 go_wp2_with fail
 obtain ⟨w4, hW, hz0, hb, q, f⟩ := box1g w3 (w3.heap.size) (by omega) #[.bool b, .slice ahZU nhZU chZU, .slice ahZD nhZD chZD] 27
 rw [hW]
 clear hW
 have g1 := g1.past hb
 have g2 := g2.past hb
 have hZU := hZU.past hb
 have hZD := hZD.past hb
 obtain ⟨qx0, qx1, qx2, lx⟩ := bq3 hb lx qx0 qx1 qx2
 have hB := below_later hB hb
 clear hb
 have lz : w3.heap.size < w4.heap.size := by omega
 have qz0 := q 0; have qz1 := q 1; have qz2 := q 2
 simp only [lgA, lgZ, lgS] at qz0 qz1 qz2
 clear q f
 clear hz0
 refine (HTX.out _ _ _ _ _ _ _ hZU.toNatAt hZD.toNatAt).mono ?_
 rintro e w5 ⟨rfl, hb⟩
 have g1 := g1.past hb
 have g2 := g2.past hb
 have hZU := hZU.past hb
 have hZD := hZD.past hb
 obtain ⟨qx0, qx1, qx2, lx⟩ := bq3 hb lx qx0 qx1 qx2
 obtain ⟨qz0, qz1, qz2, lz⟩ := bq3 hb lz qz0 qz1 qz2
 have hB := below_later hB hb
 clear hb
 go_wp2_with fail
 refine (HTR.out _ g1 g2).mono ?_
 rintro e w6 ⟨rfl, hb⟩
 have g1 := g1.past hb
 have g2 := g2.past hb
 have hZU := hZU.past hb
 have hZD := hZD.past hb
 obtain ⟨qx0, qx1, qx2, lx⟩ := bq3 hb lx qx0 qx1 qx2
 obtain ⟨qz0, qz1, qz2, lz⟩ := bq3 hb lz qz0 qz1 qz2
 have hB := below_later hB hb
 clear hb
 have hZ := Below.refl w6.heap.size w6
 have zB := hB
 have zg1 := g1
 have zg2 := g2
 have zhZU := hZU.toNatAt
 have zhZD := hZD.toNatAt
 go_wp2_with fail
 refine (HRD.out _ ((hm.later zB).later hZ)).mono ?_
 rintro e w7 ⟨ahQU, nhQU, chQU, ahQD, nhQD, chQD, rfl, hQU, hQD, hb⟩
 have hQU := hQU.mono hZ.size
 have hQD := hQD.mono hZ.size
 have g1 := g1.past hb
 have g2 := g2.past hb
 have hZU := hZU.past hb
 have hZD := hZD.past hb
 obtain ⟨qx0, qx1, qx2, lx⟩ := bq3 hb lx qx0 qx1 qx2
 obtain ⟨qz0, qz1, qz2, lz⟩ := bq3 hb lz qz0 qz1 qz2
 have hB := below_later hB hb
 have hZ := below_later hZ hb
 clear hb
 go_wp2_with fail
 obtain ⟨w8, hW, hz0, hb, q, f⟩ := box1g w7 (w7.heap.size) (by omega) #[.bool bS, .slice ahQU nhQU chQU, .slice ahQD nhQD chQD] 27
 rw [hW]
 clear hW
 have g1 := g1.past hb
 have g2 := g2.past hb
 have hZU := hZU.past hb
 have hZD := hZD.past hb
 have hQU := hQU.past hb
 have hQD := hQD.past hb
 obtain ⟨qx0, qx1, qx2, lx⟩ := bq3 hb lx qx0 qx1 qx2
 obtain ⟨qz0, qz1, qz2, lz⟩ := bq3 hb lz qz0 qz1 qz2
 have hB := below_later hB hb
 have hZ := below_later hZ hb
 clear hb
 have lq : w7.heap.size < w8.heap.size := by omega
 have qq0 := q 0; have qq1 := q 1; have qq2 := q 2
 simp only [lgA, lgZ, lgS] at qq0 qq1 qq2
 clear q f
 obtain ⟨w9, hW, hz1, hb, q, f⟩ := box1g w8 (w7.heap.size + 1) (by omega) #[.int .i64 (ES : Int), .int .i64 (AS : Int)] 35
 rw [hW]
 clear hW
 have g1 := g1.past hb
 have g2 := g2.past hb
 have hZU := hZU.past hb
 have hZD := hZD.past hb
 have hQU := hQU.past hb
 have hQD := hQD.past hb
 obtain ⟨qx0, qx1, qx2, lx⟩ := bq3 hb lx qx0 qx1 qx2
 obtain ⟨qz0, qz1, qz2, lz⟩ := bq3 hb lz qz0 qz1 qz2
 obtain ⟨qq0, qq1, qq2, lq⟩ := bq3 hb lq qq0 qq1 qq2
 have hB := below_later hB hb
 have hZ := below_later hZ hb
 clear hb
 have lf : w7.heap.size + 1 < w9.heap.size := by omega
 have qf0 := q 0; have qf1 := q 1
 simp only [lgA, lgZ, lgS] at qf0 qf1
 clear q f
 clear hz0
 clear hz1
 refine (HRR.out _).mono ?_
 rintro e w10 ⟨ahRU, nhRU, chRU, ahRD, nhRD, chRD, rfl, hRU, hRD, hb⟩
 have hRU := hRU.mono hZ.size
 have hRD := hRD.mono hZ.size
 have g1 := g1.past hb
 have g2 := g2.past hb
 have hZU := hZU.past hb
 have hZD := hZD.past hb
 have hQU := hQU.past hb
 have hQD := hQD.past hb
 obtain ⟨qx0, qx1, qx2, lx⟩ := bq3 hb lx qx0 qx1 qx2
 obtain ⟨qz0, qz1, qz2, lz⟩ := bq3 hb lz qz0 qz1 qz2
 obtain ⟨qq0, qq1, qq2, lq⟩ := bq3 hb lq qq0 qq1 qq2
 obtain ⟨qf0, qf1, lf⟩ := bq2 hb lf qf0 qf1
 have hB := below_later hB hb
 have hZ := below_later hZ hb
 clear hb
 go_wp2_with fail
 obtain ⟨w11, hW, hz0, hb, q, f⟩ := box1g w10 (w10.heap.size) (by omega) #[.bool bS, .slice ahRU nhRU chRU, .slice ahRD nhRD chRD] 27
 rw [hW]
 clear hW
 have g1 := g1.past hb
 have g2 := g2.past hb
 have hZU := hZU.past hb
 have hZD := hZD.past hb
 have hQU := hQU.past hb
 have hQD := hQD.past hb
 have hRU := hRU.past hb
 have hRD := hRD.past hb
 obtain ⟨qx0, qx1, qx2, lx⟩ := bq3 hb lx qx0 qx1 qx2
 obtain ⟨qz0, qz1, qz2, lz⟩ := bq3 hb lz qz0 qz1 qz2
 obtain ⟨qq0, qq1, qq2, lq⟩ := bq3 hb lq qq0 qq1 qq2
 obtain ⟨qf0, qf1, lf⟩ := bq2 hb lf qf0 qf1
 have hB := below_later hB hb
 have hZ := below_later hZ hb
 clear hb
 have lrq : w10.heap.size < w11.heap.size := by omega
 have qrq0 := q 0; have qrq1 := q 1; have qrq2 := q 2
 simp only [lgA, lgZ, lgS] at qrq0 qrq1 qrq2
 clear q f
 obtain ⟨w12, hW, hz1, hb, q, f⟩ := box1g w11 (w10.heap.size + 1) (by omega) #[.int .i64 (ES : Int), .int .i64 (AS : Int)] 35
 rw [hW]
 clear hW
 have g1 := g1.past hb
 have g2 := g2.past hb
 have hZU := hZU.past hb
 have hZD := hZD.past hb
 have hQU := hQU.past hb
 have hQD := hQD.past hb
 have hRU := hRU.past hb
 have hRD := hRD.past hb
 obtain ⟨qx0, qx1, qx2, lx⟩ := bq3 hb lx qx0 qx1 qx2
 obtain ⟨qz0, qz1, qz2, lz⟩ := bq3 hb lz qz0 qz1 qz2
 obtain ⟨qq0, qq1, qq2, lq⟩ := bq3 hb lq qq0 qq1 qq2
 obtain ⟨qf0, qf1, lf⟩ := bq2 hb lf qf0 qf1
 obtain ⟨qrq0, qrq1, qrq2, lrq⟩ := bq3 hb lrq qrq0 qrq1 qrq2
 have hB := below_later hB hb
 have hZ := below_later hZ hb
 clear hb
 have lrf : w10.heap.size + 1 < w12.heap.size := by omega
 have qrf0 := q 0; have qrf1 := q 1
 simp only [lgA, lgZ, lgS] at qrf0 qrf1
 clear q f
 clear hz0
 clear hz1
 refine (same_ig _ _ _ _ _ _ _ _ _ _ _ _ _ _ _ _ hQU.toNatAt hQD.toNatAt hRU.toNatAt hRD.toNatAt).mono ?_
 rintro e w13 ⟨rfl, hb⟩
 have g1 := g1.past hb
 have g2 := g2.past hb
 have hZU := hZU.past hb
 have hZD := hZD.past hb
 have hQU := hQU.past hb
 have hQD := hQD.past hb
 have hRU := hRU.past hb
 have hRD := hRD.past hb
 obtain ⟨qx0, qx1, qx2, lx⟩ := bq3 hb lx qx0 qx1 qx2
 obtain ⟨qz0, qz1, qz2, lz⟩ := bq3 hb lz qz0 qz1 qz2
 obtain ⟨qq0, qq1, qq2, lq⟩ := bq3 hb lq qq0 qq1 qq2
 obtain ⟨qf0, qf1, lf⟩ := bq2 hb lf qf0 qf1
 obtain ⟨qrq0, qrq1, qrq2, lrq⟩ := bq3 hb lrq qrq0 qrq1 qrq2
 obtain ⟨qrf0, qrf1, lrf⟩ := bq2 hb lrf qrf0 qrf1
 have hB := below_later hB hb
 have hZ := below_later hZ hb
 clear hb
 have hQU := hQU.writ
 have hQD := hQD.writ
 go_wp2_with fail
 with_reducible refine (overRatio_any w6.heap.size _ _ _ _ _ _ _ _ hQU hQD hZ.size).mono ?_
 rintro e w14 ⟨rfl, hb, hg⟩
 have qx0 := hg.cell _ _ qx0 (fun x e => by cases e)
 have qx1 := hg.cell _ _ qx1 (fun x e => by cases e)
 have qx2 := hg.cell _ _ qx2 (fun x e => by cases e)
 have lx := Nat.lt_of_lt_of_le lx hb.size
 have qz0 := hg.cell _ _ qz0 (fun x e => by cases e)
 have qz1 := hg.cell _ _ qz1 (fun x e => by cases e)
 have qz2 := hg.cell _ _ qz2 (fun x e => by cases e)
 have lz := Nat.lt_of_lt_of_le lz hb.size
 have qq0 := hg.cell _ _ qq0 (fun x e => by cases e)
 have qq1 := hg.cell _ _ qq1 (fun x e => by cases e)
 have qq2 := hg.cell _ _ qq2 (fun x e => by cases e)
 have lq := Nat.lt_of_lt_of_le lq hb.size
 have qf0 := hg.cell _ _ qf0 (fun x e => by cases e)
 have qf1 := hg.cell _ _ qf1 (fun x e => by cases e)
 have lf := Nat.lt_of_lt_of_le lf hb.size
 have qrq0 := hg.cell _ _ qrq0 (fun x e => by cases e)
 have qrq1 := hg.cell _ _ qrq1 (fun x e => by cases e)
 have qrq2 := hg.cell _ _ qrq2 (fun x e => by cases e)
 have lrq := Nat.lt_of_lt_of_le lrq hb.size
 have qrf0 := hg.cell _ _ qrf0 (fun x e => by cases e)
 have qrf1 := hg.cell _ _ qrf1 (fun x e => by cases e)
 have lrf := Nat.lt_of_lt_of_le lrf hb.size
 have hZ := hZ.trans hb
 clear hb hg
 have g1 := zg1.past hZ
 have g2 := zg2.past hZ
 have hZU := zhZU.past hZ
 have hZD := zhZD.past hZ
 have hB := below_later zB hZ
 go_wp2_with fail
 refine (same_ig _ _ _ _ _ _ _ _ _ _ _ _ _ _ _ _ hZU hZD g1 g2).mono ?_
 rintro e w15 ⟨rfl, hb⟩
 have g1 := g1.past hb
 have g2 := g2.past hb
 have hZU := hZU.past hb
 have hZD := hZD.past hb
 obtain ⟨qx0, qx1, qx2, lx⟩ := bq3 hb lx qx0 qx1 qx2
 obtain ⟨qz0, qz1, qz2, lz⟩ := bq3 hb lz qz0 qz1 qz2
 obtain ⟨qq0, qq1, qq2, lq⟩ := bq3 hb lq qq0 qq1 qq2
 obtain ⟨qf0, qf1, lf⟩ := bq2 hb lf qf0 qf1
 obtain ⟨qrq0, qrq1, qrq2, lrq⟩ := bq3 hb lrq qrq0 qrq1 qrq2
 obtain ⟨qrf0, qrf1, lrf⟩ := bq2 hb lrf qrf0 qrf1
 have hB := below_later hB hb
 clear hb
 go_wp2_with fail
 refine (awake06 _).mono ?_
 rintro e w16 ⟨rfl, hb⟩
 have g1 := g1.past hb
 have g2 := g2.past hb
 have hZU := hZU.past hb
 have hZD := hZD.past hb
 obtain ⟨qx0, qx1, qx2, lx⟩ := bq3 hb lx qx0 qx1 qx2
 obtain ⟨qz0, qz1, qz2, lz⟩ := bq3 hb lz qz0 qz1 qz2
 obtain ⟨qq0, qq1, qq2, lq⟩ := bq3 hb lq qq0 qq1 qq2
 obtain ⟨qf0, qf1, lf⟩ := bq2 hb lf qf0 qf1
 obtain ⟨qrq0, qrq1, qrq2, lrq⟩ := bq3 hb lrq qrq0 qrq1 qrq2
 obtain ⟨qrf0, qrf1, lrf⟩ := bq2 hb lrf qrf0 qrf1
 have hB := below_later hB hb
 clear hb
 go_wp2
 go_ret
 exact ⟨rfl, hB⟩
theorem digitsFractions_any (b : Bool) (a : Option Addr) (n c : Nat) (l : List Nat) (a2 : Option Addr) (n2 c2 : Nat) (l2 : List Nat) (s : ByteArray) (w : World) (g1 : NatAt w a n c l) (g2 : NatAt w a2 n2 c2 l2) (hs : s.size ≤ 9223372036854775807) (hm : MaxL w) :
 Calls Tryz.prog 3 #[.agg #[.bool b, .slice a n c, .slice a2 n2 c2], .string s] w (RetVal w (.bool true)) := by
 cases k1 : (decide ((12 : Int) < (n : Int)) || decide ((12 : Int) < (n2 : Int))) with
 | true => exact digitsFractions_long1 b a n c l a2 n2 c2 l2 s w g1 g2 hs hm k1
 | false =>
   by_cases k2 : 300 < s.size
   · by_cases k3 : s.size ≤ 10000
     · exact digitsFractions_long2 b a n c l a2 n2 c2 l2 s w g1 g2 hs hm k1 k2 k3
     · exact digitsFractions_great b a n c l a2 n2 c2 l2 s w g1 g2 hs hm k1 k2 k3
   · exact digitsFractions_small b a n c l a2 n2 c2 l2 s w g1 g2 hs hm k1 k2
end Go.Proofs.YtoecndogaklngaaGreatDoor
