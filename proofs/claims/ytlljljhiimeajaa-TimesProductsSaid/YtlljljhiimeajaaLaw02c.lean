/- the laws of times: TimesProducts. -/
import Derived.Test.YtlljljhiimeajaaLaw02b
import Derived.Test.YtlljljhiimeajaaRefs9
set_option linter.unusedVariables false
set_option linter.unusedSimpArgs false
namespace Go.Proofs.Ytlljljhiimeajaa
open Go.RowKit

set_option maxRecDepth 100000 in
set_option maxHeartbeats 8000000 in
theorem timesProducts_any (a : Option Addr) (n c : Nat) (l : List Nat) (a2 : Option Addr) (n2 c2 : Nat) (l2 : List Nat) (least x : Int) (w : World) (g1 : NatAt w a n c l) (g2 : NatAt w a2 n2 c2 l2) (hx0 : 0 ≤ x) (hx1 : x < 18446744073709551616) :
    Calls Try.prog 3 #[.slice a n c, .slice a2 n2 c2, .int .i64 least, .int .u64 x] w (RetVal w (.bool true)) := by
  have hc1 := Nat.le_trans g1.le g1.cle
  have hc2 := Nat.le_trans g2.le g2.cle
  obtain ⟨x, rfl⟩ := Int.eq_ofNat_of_zero_le hx0
  have hx : x < 18446744073709551616 := by omega
  clear hx0 hx1
  by_cases hl1 : 40 < n
  · have t1 : decide ((40 : Int) < (n : Int)) = true := by simp; omega
    go_enter Try.func3, Try.ntmps3
    have hB := Below.refl w.heap.size w
    go_wp2_with fail
    with_reducible refine (longNat_any _ _ _ _ _ hc1).mono ?_
    rintro e w' ⟨rfl, rfl⟩
    go_wp2_with fail
    with_reducible refine (awake02 _).mono ?_
    rintro e w1 ⟨rfl, hb⟩
    have hB := below_later hB hb
    clear hb
    go_wp2
    go_ret
    exact ⟨rfl, hB⟩
  have t1 : decide ((40 : Int) < (n : Int)) = false := by simp; omega
  by_cases hl2 : 40 < n2
  · have t2 : decide ((40 : Int) < (n2 : Int)) = true := by simp; omega
    go_enter Try.func3, Try.ntmps3
    have hB := Below.refl w.heap.size w
    go_wp2_with fail
    with_reducible refine (longNat_any _ _ _ _ _ hc1).mono ?_
    rintro e w' ⟨rfl, rfl⟩
    go_wp2_with fail
    with_reducible refine (longNat_any _ _ _ _ _ hc2).mono ?_
    rintro e w' ⟨rfl, rfl⟩
    go_wp2_with fail
    with_reducible refine (awake02 _).mono ?_
    rintro e w1 ⟨rfl, hb⟩
    have hB := below_later hB hb
    clear hb
    go_wp2
    go_ret
    exact ⟨rfl, hB⟩
  have t2 : decide ((40 : Int) < (n2 : Int)) = false := by simp; omega
  by_cases hk : 2 ≤ least ∧ least ≤ 1000
  · have k1 : ¬ least < 2 := by omega
    have k2 : ¬ 1000 < least := by omega
    go_enter Try.func3, Try.ntmps3
    have hB := Below.refl w.heap.size w
    go_wp2_with fail
    with_reducible refine (longNat_any _ _ _ _ _ hc1).mono ?_
    rintro e w' ⟨rfl, rfl⟩
    go_wp2_with fail
    with_reducible refine (longNat_any _ _ _ _ _ hc2).mono ?_
    rintro e w' ⟨rfl, rfl⟩
    go_wp2_with fail
    with_reducible refine (copyNat_any _ _ _ l _ g1 (by omega)).mono ?_
    rintro e w1 ⟨ahI, nhI, chI, rfl, hI, hb⟩
    have g1 := (g1).past hb
    have g2 := (g2).past hb
    have hB := below_later hB hb
    clear hb
    have bI : nhI ≤ n := by have h1 := hI.len; have h2 := g1.len; omega
    go_wp2_with fail
    with_reducible refine (copyNat_any _ _ _ l2 _ g2 (by omega)).mono ?_
    rintro e w2 ⟨ahY, nhY, chY, rfl, hY, hb⟩
    have g1 := (g1).past hb
    have g2 := (g2).past hb
    have hI := (hI).later hb (Nat.le_refl _)
    have hB := below_later hB hb
    clear hb
    have bY : nhY ≤ n2 := by have h1 := hY.len; have h2 := g2.len; omega
    go_wp2_with fail
    with_reducible refine (rmul_any _ _ _ l _ _ _ l2 _ g1 g2 (by omega) (by omega)).mono ?_
    rintro e w3 ⟨ahW, nhW, chW, rfl, hW, hb⟩
    have g1 := (g1).past hb
    have g2 := (g2).past hb
    have hI := (hI).later hb (Nat.le_refl _)
    have hY := (hY).later hb (Nat.le_refl _)
    have hB := below_later hB hb
    clear hb
    have hZ := Below.refl w3.heap.size w3
    have zB := hB
    have zg1 := g1
    have zg2 := g2
    have zhI := hI.toNatAt
    have zhY := hY.toNatAt
    have zhW := hW.toNatAt
    go_wp2_with fail
    with_reducible refine (school_any _ _ _ l _ _ _ l2 _ hI.toNatAt hY.toNatAt (by omega) (by omega)).mono ?_
    rintro e w4 ⟨ahS, nhS, chS, rfl, hS, hb⟩
    have g1 := (g1).past hb
    have g2 := (g2).past hb
    have hI := (hI).later hb (Nat.le_refl _)
    have hY := (hY).later hb (Nat.le_refl _)
    have hW := (hW).later hb (Nat.le_refl _)
    have hB := below_later hB hb
    have hS := hS.mono (Below.size hZ)
    have hZ := below_later hZ hb
    clear hb
    go_wp2_with fail
    with_reducible refine (tmul_any _ _ _ l _ _ _ l2 _ hI.toNatAt hY.toNatAt (by omega) (by omega)).mono ?_
    rintro e w5 ⟨ahM, nhM, chM, rfl, hM, hb⟩
    have g1 := (g1).past hb
    have g2 := (g2).past hb
    have hI := (hI).later hb (Nat.le_refl _)
    have hY := (hY).later hb (Nat.le_refl _)
    have hW := (hW).later hb (Nat.le_refl _)
    have hS := (hS).later hb (Nat.le_refl _)
    have hB := below_later hB hb
    have hM := hM.mono (Below.size hZ)
    have hZ := below_later hZ hb
    clear hb
    go_wp2_with fail
    with_reducible refine (kara_yes _ _ _ l _ _ _ l2 _ _ hI.toNatAt hY.toNatAt (by omega) (by omega) hk.1 hk.2).mono ?_
    rintro e w6 ⟨ahK, nhK, chK, rfl, hK, hb⟩
    have g1 := (g1).past hb
    have g2 := (g2).past hb
    have hI := (hI).later hb (Nat.le_refl _)
    have hY := (hY).later hb (Nat.le_refl _)
    have hW := (hW).later hb (Nat.le_refl _)
    have hS := (hS).later hb (Nat.le_refl _)
    have hM := (hM).later hb (Nat.le_refl _)
    have hB := below_later hB hb
    have hK := hK.mono (Below.size hZ)
    have hZ := below_later hZ hb
    clear hb
    go_wp2_with fail
    with_reducible refine (sameNat_yes hS.toNatAt hW.toNatAt).mono ?_
    rintro e w7 ⟨rfl, hb⟩
    have g1 := (g1).past hb
    have g2 := (g2).past hb
    have hI := (hI).later hb (Nat.le_refl _)
    have hY := (hY).later hb (Nat.le_refl _)
    have hW := (hW).later hb (Nat.le_refl _)
    have hS := (hS).later hb (Nat.le_refl _)
    have hM := (hM).later hb (Nat.le_refl _)
    have hK := (hK).later hb (Nat.le_refl _)
    have hB := below_later hB hb
    have hZ := below_later hZ hb
    clear hb
    go_wp2_with fail
    with_reducible refine (sameNat_yes hM.toNatAt hW.toNatAt).mono ?_
    rintro e w8 ⟨rfl, hb⟩
    have g1 := (g1).past hb
    have g2 := (g2).past hb
    have hI := (hI).later hb (Nat.le_refl _)
    have hY := (hY).later hb (Nat.le_refl _)
    have hW := (hW).later hb (Nat.le_refl _)
    have hS := (hS).later hb (Nat.le_refl _)
    have hM := (hM).later hb (Nat.le_refl _)
    have hK := (hK).later hb (Nat.le_refl _)
    have hB := below_later hB hb
    have hZ := below_later hZ hb
    clear hb
    go_wp2_with fail
    with_reducible refine (sameNat_yes hK.toNatAt hW.toNatAt).mono ?_
    rintro e w9 ⟨rfl, hb⟩
    have g1 := (g1).past hb
    have g2 := (g2).past hb
    have hI := (hI).later hb (Nat.le_refl _)
    have hY := (hY).later hb (Nat.le_refl _)
    have hW := (hW).later hb (Nat.le_refl _)
    have hS := (hS).later hb (Nat.le_refl _)
    have hM := (hM).later hb (Nat.le_refl _)
    have hK := (hK).later hb (Nat.le_refl _)
    have hB := below_later hB hb
    have hZ := below_later hZ hb
    clear hb
    go_wp2_with fail
    with_reducible refine (square_any _ _ _ l _ hI.toNatAt (by omega)).mono ?_
    rintro e w10 ⟨ahQ, nhQ, chQ, rfl, hQ, hb⟩
    have g1 := (g1).past hb
    have g2 := (g2).past hb
    have hI := (hI).later hb (Nat.le_refl _)
    have hY := (hY).later hb (Nat.le_refl _)
    have hW := (hW).later hb (Nat.le_refl _)
    have hS := (hS).later hb (Nat.le_refl _)
    have hM := (hM).later hb (Nat.le_refl _)
    have hK := (hK).later hb (Nat.le_refl _)
    have hB := below_later hB hb
    have hQ := hQ.mono (Below.size hZ)
    have hZ := below_later hZ hb
    clear hb
    go_wp2_with fail
    with_reducible refine (tgrow_any _ _ _ l _ _ hI.toNatAt (by omega) hx).mono ?_
    rintro e w11 ⟨ahG, nhG, chG, rfl, hG, hb⟩
    have g1 := (g1).past hb
    have g2 := (g2).past hb
    have hI := (hI).later hb (Nat.le_refl _)
    have hY := (hY).later hb (Nat.le_refl _)
    have hW := (hW).later hb (Nat.le_refl _)
    have hS := (hS).later hb (Nat.le_refl _)
    have hM := (hM).later hb (Nat.le_refl _)
    have hK := (hK).later hb (Nat.le_refl _)
    have hQ := (hQ).later hb (Nat.le_refl _)
    have hB := below_later hB hb
    have hG := hG.mono (Below.size hZ)
    have hZ := below_later hZ hb
    clear hb
    go_wp2_with fail
    with_reducible refine (rmul_any _ _ _ l _ _ _ l _ g1 g1 (by omega) (by omega)).mono ?_
    rintro e w12 ⟨ahV, nhV, chV, rfl, hV, hb⟩
    have g1 := (g1).past hb
    have g2 := (g2).past hb
    have hI := (hI).later hb (Nat.le_refl _)
    have hY := (hY).later hb (Nat.le_refl _)
    have hW := (hW).later hb (Nat.le_refl _)
    have hS := (hS).later hb (Nat.le_refl _)
    have hM := (hM).later hb (Nat.le_refl _)
    have hK := (hK).later hb (Nat.le_refl _)
    have hQ := (hQ).later hb (Nat.le_refl _)
    have hG := (hG).later hb (Nat.le_refl _)
    have hB := below_later hB hb
    have hV := hV.mono (Below.size hZ)
    have hZ := below_later hZ hb
    clear hb
    go_wp2_with fail
    with_reducible refine (sameNat_yes hQ.toNatAt hV.toNatAt).mono ?_
    rintro e w13 ⟨rfl, hb⟩
    have g1 := (g1).past hb
    have g2 := (g2).past hb
    have hI := (hI).later hb (Nat.le_refl _)
    have hY := (hY).later hb (Nat.le_refl _)
    have hW := (hW).later hb (Nat.le_refl _)
    have hS := (hS).later hb (Nat.le_refl _)
    have hM := (hM).later hb (Nat.le_refl _)
    have hK := (hK).later hb (Nat.le_refl _)
    have hQ := (hQ).later hb (Nat.le_refl _)
    have hG := (hG).later hb (Nat.le_refl _)
    have hV := (hV).later hb (Nat.le_refl _)
    have hB := below_later hB hb
    have hZ := below_later hZ hb
    clear hb
    go_wp2_with fail
    with_reducible refine (rgrow_any _ _ _ l _ _ g1 (by omega) hx).mono ?_
    rintro e w14 ⟨ahU, nhU, chU, rfl, hU, hb⟩
    have g1 := (g1).past hb
    have g2 := (g2).past hb
    have hI := (hI).later hb (Nat.le_refl _)
    have hY := (hY).later hb (Nat.le_refl _)
    have hW := (hW).later hb (Nat.le_refl _)
    have hS := (hS).later hb (Nat.le_refl _)
    have hM := (hM).later hb (Nat.le_refl _)
    have hK := (hK).later hb (Nat.le_refl _)
    have hQ := (hQ).later hb (Nat.le_refl _)
    have hG := (hG).later hb (Nat.le_refl _)
    have hV := (hV).later hb (Nat.le_refl _)
    have hB := below_later hB hb
    have hU := hU.mono (Below.size hZ)
    have hZ := below_later hZ hb
    clear hb
    go_wp2_with fail
    with_reducible refine (sameNat_yes hG.toNatAt hU.toNatAt).mono ?_
    rintro e w15 ⟨rfl, hb⟩
    have g1 := (g1).past hb
    have g2 := (g2).past hb
    have hI := (hI).later hb (Nat.le_refl _)
    have hY := (hY).later hb (Nat.le_refl _)
    have hW := (hW).later hb (Nat.le_refl _)
    have hS := (hS).later hb (Nat.le_refl _)
    have hM := (hM).later hb (Nat.le_refl _)
    have hK := (hK).later hb (Nat.le_refl _)
    have hQ := (hQ).later hb (Nat.le_refl _)
    have hG := (hG).later hb (Nat.le_refl _)
    have hV := (hV).later hb (Nat.le_refl _)
    have hU := (hU).later hb (Nat.le_refl _)
    have hB := below_later hB hb
    have hZ := below_later hZ hb
    clear hb
    have hS := hS.writ
    have hM := hM.writ
    have hK := hK.writ
    have hQ := hQ.writ
    have hG := hG.writ
    go_wp2_with fail
    with_reducible refine (overNat_any w3.heap.size _ _ _ _ hS).mono ?_
    rintro e w16 ⟨rfl, hb, hg⟩
    have hM := hM.keep hg
    have hK := hK.keep hg
    have hQ := hQ.keep hg
    have hG := hG.keep hg
    have hZ := hZ.trans hb
    clear hb hg hS
    go_wp2_with fail
    with_reducible refine (overNat_any w3.heap.size _ _ _ _ hM).mono ?_
    rintro e w17 ⟨rfl, hb, hg⟩
    have hK := hK.keep hg
    have hQ := hQ.keep hg
    have hG := hG.keep hg
    have hZ := hZ.trans hb
    clear hb hg hM
    go_wp2_with fail
    with_reducible refine (overNat_any w3.heap.size _ _ _ _ hK).mono ?_
    rintro e w18 ⟨rfl, hb, hg⟩
    have hQ := hQ.keep hg
    have hG := hG.keep hg
    have hZ := hZ.trans hb
    clear hb hg hK
    go_wp2_with fail
    with_reducible refine (overNat_any w3.heap.size _ _ _ _ hQ).mono ?_
    rintro e w19 ⟨rfl, hb, hg⟩
    have hG := hG.keep hg
    have hZ := hZ.trans hb
    clear hb hg hQ
    go_wp2_with fail
    with_reducible refine (overNat_any w3.heap.size _ _ _ _ hG).mono ?_
    rintro e w20 ⟨rfl, hb, hg⟩
    have hZ := hZ.trans hb
    clear hb hg hG
    have g1 := zg1.past hZ
    have g2 := zg2.past hZ
    have hI := zhI.past hZ
    have hY := zhY.past hZ
    have hW := zhW.past hZ
    have hB := below_later zB hZ
    go_wp2_with fail
    with_reducible refine (sameNat_yes hI g1).mono ?_
    rintro e w21 ⟨rfl, hb⟩
    have g1 := (g1).past hb
    have g2 := (g2).past hb
    have hI := (hI).past hb
    have hY := (hY).past hb
    have hB := below_later hB hb
    clear hb
    go_wp2_with fail
    with_reducible refine (sameNat_yes hY g2).mono ?_
    rintro e w22 ⟨rfl, hb⟩
    have g2 := (g2).past hb
    have hY := (hY).past hb
    have hB := below_later hB hb
    clear hb
    go_wp2_with fail
    with_reducible refine (awake02 _).mono ?_
    rintro e w23 ⟨rfl, hb⟩
    have hB := below_later hB hb
    clear hb
    go_wp2
    go_ret
    exact ⟨rfl, hB⟩
  · have hk4 : least < 2 ∨ (¬ least < 2 ∧ 1000 < least) := by omega
    have hk2 : least < 2 ∨ 1000 < least := by omega
    have HK2 := Lib.hid hk2
    clear hk2 hk
    rcases hk4 with hk4 | ⟨hk4, hk5⟩
    all_goals
      go_enter Try.func3, Try.ntmps3
      have hB := Below.refl w.heap.size w
      go_wp2_with fail
      with_reducible refine (longNat_any _ _ _ _ _ hc1).mono ?_
      rintro e w' ⟨rfl, rfl⟩
      go_wp2_with fail
      with_reducible refine (longNat_any _ _ _ _ _ hc2).mono ?_
      rintro e w' ⟨rfl, rfl⟩
      go_wp2_with fail
      with_reducible refine (copyNat_any _ _ _ l _ g1 (by omega)).mono ?_
      rintro e w1 ⟨ahI, nhI, chI, rfl, hI, hb⟩
      have g1 := (g1).past hb
      have g2 := (g2).past hb
      have hB := below_later hB hb
      clear hb
      have bI : nhI ≤ n := by have h1 := hI.len; have h2 := g1.len; omega
      go_wp2_with fail
      with_reducible refine (copyNat_any _ _ _ l2 _ g2 (by omega)).mono ?_
      rintro e w2 ⟨ahY, nhY, chY, rfl, hY, hb⟩
      have g1 := (g1).past hb
      have g2 := (g2).past hb
      have hI := (hI).later hb (Nat.le_refl _)
      have hB := below_later hB hb
      clear hb
      have bY : nhY ≤ n2 := by have h1 := hY.len; have h2 := g2.len; omega
      go_wp2_with fail
      with_reducible refine (rmul_any _ _ _ l _ _ _ l2 _ g1 g2 (by omega) (by omega)).mono ?_
      rintro e w3 ⟨ahW, nhW, chW, rfl, hW, hb⟩
      have g1 := (g1).past hb
      have g2 := (g2).past hb
      have hI := (hI).later hb (Nat.le_refl _)
      have hY := (hY).later hb (Nat.le_refl _)
      have hB := below_later hB hb
      clear hb
      have hZ := Below.refl w3.heap.size w3
      have zB := hB
      have zg1 := g1
      have zg2 := g2
      have zhI := hI.toNatAt
      have zhY := hY.toNatAt
      have zhW := hW.toNatAt
      go_wp2_with fail
      with_reducible refine (school_any _ _ _ l _ _ _ l2 _ hI.toNatAt hY.toNatAt (by omega) (by omega)).mono ?_
      rintro e w4 ⟨ahS, nhS, chS, rfl, hS, hb⟩
      have g1 := (g1).past hb
      have g2 := (g2).past hb
      have hI := (hI).later hb (Nat.le_refl _)
      have hY := (hY).later hb (Nat.le_refl _)
      have hW := (hW).later hb (Nat.le_refl _)
      have hB := below_later hB hb
      have hS := hS.mono (Below.size hZ)
      have hZ := below_later hZ hb
      clear hb
      go_wp2_with fail
      with_reducible refine (tmul_any _ _ _ l _ _ _ l2 _ hI.toNatAt hY.toNatAt (by omega) (by omega)).mono ?_
      rintro e w5 ⟨ahM, nhM, chM, rfl, hM, hb⟩
      have g1 := (g1).past hb
      have g2 := (g2).past hb
      have hI := (hI).later hb (Nat.le_refl _)
      have hY := (hY).later hb (Nat.le_refl _)
      have hW := (hW).later hb (Nat.le_refl _)
      have hS := (hS).later hb (Nat.le_refl _)
      have hB := below_later hB hb
      have hM := hM.mono (Below.size hZ)
      have hZ := below_later hZ hb
      clear hb
      go_wp2_with fail
      with_reducible refine (kara_no _ _ _ _ _ _ _ _ HK2.out).mono ?_
      rintro e w' ⟨rfl, rfl⟩
      go_wp2_with fail
      with_reducible refine (sameNat_yes hS.toNatAt hW.toNatAt).mono ?_
      rintro e w6 ⟨rfl, hb⟩
      have g1 := (g1).past hb
      have g2 := (g2).past hb
      have hI := (hI).later hb (Nat.le_refl _)
      have hY := (hY).later hb (Nat.le_refl _)
      have hW := (hW).later hb (Nat.le_refl _)
      have hS := (hS).later hb (Nat.le_refl _)
      have hM := (hM).later hb (Nat.le_refl _)
      have hB := below_later hB hb
      have hZ := below_later hZ hb
      clear hb
      go_wp2_with fail
      with_reducible refine (sameNat_yes hM.toNatAt hW.toNatAt).mono ?_
      rintro e w7 ⟨rfl, hb⟩
      have g1 := (g1).past hb
      have g2 := (g2).past hb
      have hI := (hI).later hb (Nat.le_refl _)
      have hY := (hY).later hb (Nat.le_refl _)
      have hW := (hW).later hb (Nat.le_refl _)
      have hS := (hS).later hb (Nat.le_refl _)
      have hM := (hM).later hb (Nat.le_refl _)
      have hB := below_later hB hb
      have hZ := below_later hZ hb
      clear hb
      go_wp2_with fail
      with_reducible refine (square_any _ _ _ l _ hI.toNatAt (by omega)).mono ?_
      rintro e w8 ⟨ahQ, nhQ, chQ, rfl, hQ, hb⟩
      have g1 := (g1).past hb
      have g2 := (g2).past hb
      have hI := (hI).later hb (Nat.le_refl _)
      have hY := (hY).later hb (Nat.le_refl _)
      have hW := (hW).later hb (Nat.le_refl _)
      have hS := (hS).later hb (Nat.le_refl _)
      have hM := (hM).later hb (Nat.le_refl _)
      have hB := below_later hB hb
      have hQ := hQ.mono (Below.size hZ)
      have hZ := below_later hZ hb
      clear hb
      go_wp2_with fail
      with_reducible refine (tgrow_any _ _ _ l _ _ hI.toNatAt (by omega) hx).mono ?_
      rintro e w9 ⟨ahG, nhG, chG, rfl, hG, hb⟩
      have g1 := (g1).past hb
      have g2 := (g2).past hb
      have hI := (hI).later hb (Nat.le_refl _)
      have hY := (hY).later hb (Nat.le_refl _)
      have hW := (hW).later hb (Nat.le_refl _)
      have hS := (hS).later hb (Nat.le_refl _)
      have hM := (hM).later hb (Nat.le_refl _)
      have hQ := (hQ).later hb (Nat.le_refl _)
      have hB := below_later hB hb
      have hG := hG.mono (Below.size hZ)
      have hZ := below_later hZ hb
      clear hb
      go_wp2_with fail
      with_reducible refine (rmul_any _ _ _ l _ _ _ l _ g1 g1 (by omega) (by omega)).mono ?_
      rintro e w10 ⟨ahV, nhV, chV, rfl, hV, hb⟩
      have g1 := (g1).past hb
      have g2 := (g2).past hb
      have hI := (hI).later hb (Nat.le_refl _)
      have hY := (hY).later hb (Nat.le_refl _)
      have hW := (hW).later hb (Nat.le_refl _)
      have hS := (hS).later hb (Nat.le_refl _)
      have hM := (hM).later hb (Nat.le_refl _)
      have hQ := (hQ).later hb (Nat.le_refl _)
      have hG := (hG).later hb (Nat.le_refl _)
      have hB := below_later hB hb
      have hV := hV.mono (Below.size hZ)
      have hZ := below_later hZ hb
      clear hb
      go_wp2_with fail
      with_reducible refine (sameNat_yes hQ.toNatAt hV.toNatAt).mono ?_
      rintro e w11 ⟨rfl, hb⟩
      have g1 := (g1).past hb
      have g2 := (g2).past hb
      have hI := (hI).later hb (Nat.le_refl _)
      have hY := (hY).later hb (Nat.le_refl _)
      have hW := (hW).later hb (Nat.le_refl _)
      have hS := (hS).later hb (Nat.le_refl _)
      have hM := (hM).later hb (Nat.le_refl _)
      have hQ := (hQ).later hb (Nat.le_refl _)
      have hG := (hG).later hb (Nat.le_refl _)
      have hV := (hV).later hb (Nat.le_refl _)
      have hB := below_later hB hb
      have hZ := below_later hZ hb
      clear hb
      go_wp2_with fail
      with_reducible refine (rgrow_any _ _ _ l _ _ g1 (by omega) hx).mono ?_
      rintro e w12 ⟨ahU, nhU, chU, rfl, hU, hb⟩
      have g1 := (g1).past hb
      have g2 := (g2).past hb
      have hI := (hI).later hb (Nat.le_refl _)
      have hY := (hY).later hb (Nat.le_refl _)
      have hW := (hW).later hb (Nat.le_refl _)
      have hS := (hS).later hb (Nat.le_refl _)
      have hM := (hM).later hb (Nat.le_refl _)
      have hQ := (hQ).later hb (Nat.le_refl _)
      have hG := (hG).later hb (Nat.le_refl _)
      have hV := (hV).later hb (Nat.le_refl _)
      have hB := below_later hB hb
      have hU := hU.mono (Below.size hZ)
      have hZ := below_later hZ hb
      clear hb
      go_wp2_with fail
      with_reducible refine (sameNat_yes hG.toNatAt hU.toNatAt).mono ?_
      rintro e w13 ⟨rfl, hb⟩
      have g1 := (g1).past hb
      have g2 := (g2).past hb
      have hI := (hI).later hb (Nat.le_refl _)
      have hY := (hY).later hb (Nat.le_refl _)
      have hW := (hW).later hb (Nat.le_refl _)
      have hS := (hS).later hb (Nat.le_refl _)
      have hM := (hM).later hb (Nat.le_refl _)
      have hQ := (hQ).later hb (Nat.le_refl _)
      have hG := (hG).later hb (Nat.le_refl _)
      have hV := (hV).later hb (Nat.le_refl _)
      have hU := (hU).later hb (Nat.le_refl _)
      have hB := below_later hB hb
      have hZ := below_later hZ hb
      clear hb
      have hS := hS.writ
      have hM := hM.writ
      have hQ := hQ.writ
      have hG := hG.writ
      go_wp2_with fail
      with_reducible refine (overNat_any w3.heap.size _ _ _ _ hS).mono ?_
      rintro e w14 ⟨rfl, hb, hg⟩
      have hM := hM.keep hg
      have hQ := hQ.keep hg
      have hG := hG.keep hg
      have hZ := hZ.trans hb
      clear hb hg hS
      go_wp2_with fail
      with_reducible refine (overNat_any w3.heap.size _ _ _ _ hM).mono ?_
      rintro e w15 ⟨rfl, hb, hg⟩
      have hQ := hQ.keep hg
      have hG := hG.keep hg
      have hZ := hZ.trans hb
      clear hb hg hM
      go_wp2_with fail
      with_reducible refine (overNat_any w3.heap.size _ _ _ _ (OwnAt.nil _ _).writ).mono ?_
      rintro e w16 ⟨rfl, hb, hg⟩
      have hQ := hQ.keep hg
      have hG := hG.keep hg
      have hZ := hZ.trans hb
      clear hb hg
      go_wp2_with fail
      with_reducible refine (overNat_any w3.heap.size _ _ _ _ hQ).mono ?_
      rintro e w17 ⟨rfl, hb, hg⟩
      have hG := hG.keep hg
      have hZ := hZ.trans hb
      clear hb hg hQ
      go_wp2_with fail
      with_reducible refine (overNat_any w3.heap.size _ _ _ _ hG).mono ?_
      rintro e w18 ⟨rfl, hb, hg⟩
      have hZ := hZ.trans hb
      clear hb hg hG
      have g1 := zg1.past hZ
      have g2 := zg2.past hZ
      have hI := zhI.past hZ
      have hY := zhY.past hZ
      have hW := zhW.past hZ
      have hB := below_later zB hZ
      go_wp2_with fail
      with_reducible refine (sameNat_yes hI g1).mono ?_
      rintro e w19 ⟨rfl, hb⟩
      have g1 := (g1).past hb
      have g2 := (g2).past hb
      have hI := (hI).past hb
      have hY := (hY).past hb
      have hB := below_later hB hb
      clear hb
      go_wp2_with fail
      with_reducible refine (sameNat_yes hY g2).mono ?_
      rintro e w20 ⟨rfl, hb⟩
      have g2 := (g2).past hb
      have hY := (hY).past hb
      have hB := below_later hB hb
      clear hb
      go_wp2_with fail
      with_reducible refine (awake02 _).mono ?_
      rintro e w21 ⟨rfl, hb⟩
      have hB := below_later hB hb
      clear hb
      go_wp2
      go_ret
      exact ⟨rfl, hB⟩

end Go.Proofs.Ytlljljhiimeajaa
