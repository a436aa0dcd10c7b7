/- the laws of limbs: LimbsMoves. -/
import Derived.Test.YtlnijohobnjlfaaLaw01a
import Derived.Test.YtlnijohobnjlfaaLimbs7
import Derived.Test.YtlnijohobnjlfaaRefs5
import Derived.Test.YtlnijohobnjlfaaRefs6
set_option linter.unusedVariables false
set_option linter.unusedSimpArgs false
namespace Go.Proofs.Ytlnijohobnjlfaa
open Go.RowKit

set_option maxHeartbeats 4000000 in
theorem limbsMoves_any (a : Option Addr) (n c : Nat) (l : List Nat) (s x : Int) (w : World) (g1 : NatAt w a n c l) (hx0 : 0 ≤ x) (hx1 : x < 18446744073709551616) :
    Calls Try.prog 8 #[.slice a n c, .int .i64 s, .int .u64 x] w (RetVal w (.bool true)) := by
  have hc1 := Nat.le_trans g1.le g1.cle
  obtain ⟨x, rfl⟩ := Int.eq_ofNat_of_zero_le hx0
  have hx : x < 18446744073709551616 := by omega
  clear hx0 hx1
  by_cases hlong : 60 < n ∨ 60 < 0
  · have t : decide (60 < n ∨ 60 < 0) = true := decide_eq_true hlong
    have T := Lib.hid t
    clear t hlong
    go_enter Try.func8, Try.ntmps8
    have hB := Below.refl w.heap.size w
    go_wp2_with fail
    refine (long01_any _ _ _ _ _ _ _ hc1 (by decide)).mono ?_
    rintro e w' ⟨rfl, rfl⟩
    rw [T.out]
    go_wp2_with fail
    refine (awake01 _).mono ?_
    rintro e w1 ⟨rfl, hb⟩
    have hB := below_later hB hb
    clear hb
    go_wp2
    go_ret
    exact ⟨rfl, hB⟩
  have tt : decide (60 < n ∨ 60 < 0) = false := decide_eq_false hlong
  have hn1 : n ≤ 60 := by omega
  have T := Lib.hid tt
  clear tt hlong
  by_cases hmid : 5000 < s ∧ s ≤ 16777216
  · obtain ⟨m1, m2⟩ := hmid
    have t1 : decide (5000 < s) = true := by simp; omega
    have t2 : decide (s ≤ 16777216) = true := by simp; omega
    go_enter Try.func8, Try.ntmps8
    have hB := Below.refl w.heap.size w
    go_wp2_with fail
    refine (long01_any _ _ _ _ _ _ _ hc1 (by decide)).mono ?_
    rintro e w' ⟨rfl, rfl⟩
    rw [T.out]
    go_wp2_with fail
    refine (awake01 _).mono ?_
    rintro e w1 ⟨rfl, hb⟩
    have hB := below_later hB hb
    clear hb
    go_wp2
    go_ret
    exact ⟨rfl, hB⟩
  have hup : ∃ x N, (∀ (w : World) a n c, n ≤ 60 → NatAt w a n c l → Calls Try.prog 24 #[.slice a n c, .int .i64 s] w (RetNatOk w N x)) ∧
      (∀ (w : World) a n c, n ≤ 60 → NatAt w a n c l → Calls Try.prog 29 #[.slice a n c, .int .i64 s] w (RetNatOk w N x)) := by
    by_cases hs : 0 ≤ s ∧ s ≤ 16777216
    · exact ⟨0, val l * 2 ^ s.toNat, fun w a n c hn h => shiftUp_any a n c l s w h (by omega) hs.1 hs.2, fun w a n c hn h => rshiftUp_any a n c l s w h (by omega) hs.1 hs.2⟩
    · exact ⟨3, 0, fun w a n c hn h => (shiftUp_no a n c s w (by omega)).mono fun e w' ⟨h1, h2⟩ => ⟨_, _, _, h1, OwnAt.nil _ _, h2⟩,
        fun w a n c hn h => (rshiftUp_no a n c s w (by omega)).mono fun e w' ⟨h1, h2⟩ => ⟨_, _, _, h1, OwnAt.nil _ _, h2⟩⟩
  have hdo : ∃ x N, (∀ (w : World) a n c, n ≤ 60 → NatAt w a n c l → Calls Try.prog 25 #[.slice a n c, .int .i64 s] w (RetNatOk w N x)) ∧
      (∀ (w : World) a n c, n ≤ 60 → NatAt w a n c l → Calls Try.prog 30 #[.slice a n c, .int .i64 s] w (RetNatOk w N x)) := by
    by_cases hs : 0 ≤ s ∧ s ≤ 16777216
    · exact ⟨0, val l / 2 ^ s.toNat, fun w a n c hn h => shiftDown_any a n c l s w h (by omega) hs.1 hs.2, fun w a n c hn h => rshiftDown_any a n c l s w h (by omega) hs.1 hs.2⟩
    · exact ⟨3, 0, fun w a n c hn h => (shiftDown_no a n c s w (by omega)).mono fun e w' ⟨h1, h2⟩ => ⟨_, _, _, h1, OwnAt.nil _ _, h2⟩,
        fun w a n c hn h => (rshiftDown_no a n c s w (by omega)).mono fun e w' ⟨h1, h2⟩ => ⟨_, _, _, h1, OwnAt.nil _ _, h2⟩⟩
  obtain ⟨xu, NU, hu1, hu2⟩ := hup
  obtain ⟨xd, ND, hd1, hd2⟩ := hdo
  have HU1 := Lib.hid hu1
  have HU2 := Lib.hid hu2
  have HD1 := Lib.hid hd1
  have HD2 := Lib.hid hd2
  clear hu1 hu2 hd1 hd2
  have tu : (xu == xu) = true := by simp
  have td : (xd == xd) = true := by simp
  have to : (((oneN (val l) : Nat) : Int) == ((oneN (val l) : Nat) : Int)) = true := by simp
  have tb : (oneB (val l) == oneB (val l)) = true := by simp
  have tc : (chk l == chk l) = true := by simp
  have hout : decide (5000 < s) = false ∨ (decide (5000 < s) = true ∧ decide (s ≤ 16777216) = false) := by
    by_cases h1 : 5000 < s
    · exact .inr ⟨by simp [h1], by simp; omega⟩
    · exact .inl (by simp; omega)
  clear hmid
  rcases hout with t1 | ⟨t1, t2⟩
  · go_enter Try.func8, Try.ntmps8
    have hB := Below.refl w.heap.size w
    go_wp2_with fail
    refine (long01_any _ _ _ _ _ _ _ hc1 (by decide)).mono ?_
    rintro e w' ⟨rfl, rfl⟩
    rw [T.out]
    go_wp2_with fail
    refine (copyNat_any _ _ _ _ _ g1 (by omega)).mono ?_
    rintro e w1 ⟨aI, nI, cI, rfl, hI, hb⟩
    have g1 := (g1).past hb
    have hB := below_later hB hb
    clear hb
    have bI : nI ≤ 60 := by have := hI.len; have := g1.len; omega
    have hI := hI.toNatAt
    have hZ := Below.refl w1.heap.size w1
    have zB := hB
    have zg1 := g1
    have zhI := hI
    go_wp2_with fail
    refine (HU1.out _ _ _ _ bI hI).mono ?_
    rintro e w2 ⟨aU, nU, cU, rfl, hU, hb⟩
    have g1 := (g1).past hb
    have hI := (hI).past hb
    have hB := below_later hB hb
    have hU := hU.mono (Below.size hZ)
    have hZ := below_later hZ hb
    clear hb
    go_wp2_with fail
    refine (HU2.out _ _ _ _ (by omega) g1).mono ?_
    rintro e w3 ⟨aV, nV, cV, rfl, hV, hb⟩
    have g1 := (g1).past hb
    have hI := (hI).past hb
    have hU := (hU).later hb (Nat.le_refl _)
    have hB := below_later hB hb
    have hV := hV.mono (Below.size hZ)
    have hZ := below_later hZ hb
    clear hb
    go_wp2_with fail
    refine (HD1.out _ _ _ _ bI hI).mono ?_
    rintro e w4 ⟨aC, nC, cC, rfl, hC, hb⟩
    have g1 := (g1).past hb
    have hI := (hI).past hb
    have hU := (hU).later hb (Nat.le_refl _)
    have hV := (hV).later hb (Nat.le_refl _)
    have hB := below_later hB hb
    have hC := hC.mono (Below.size hZ)
    have hZ := below_later hZ hb
    clear hb
    go_wp2_with fail
    refine (HD2.out _ _ _ _ (by omega) g1).mono ?_
    rintro e w5 ⟨aD, nD, cD, rfl, hD, hb⟩
    have g1 := (g1).past hb
    have hI := (hI).past hb
    have hU := (hU).later hb (Nat.le_refl _)
    have hV := (hV).later hb (Nat.le_refl _)
    have hC := (hC).later hb (Nat.le_refl _)
    have hB := below_later hB hb
    have hD := hD.mono (Below.size hZ)
    have hZ := below_later hZ hb
    clear hb
    go_wp2_with fail
    refine (trim_any _ _ _ l _ hI (by omega)).mono ?_
    rintro e w6 ⟨aT, nT, cT, rfl, hT, hb⟩
    have g1 := (g1).past hb
    have hI := (hI).past hb
    have hU := (hU).later hb (Nat.le_refl _)
    have hV := (hV).later hb (Nat.le_refl _)
    have hC := (hC).later hb (Nat.le_refl _)
    have hD := (hD).later hb (Nat.le_refl _)
    have hB := below_later hB hb
    have hT := hT.mono (Below.size hZ)
    have hZ := below_later hZ hb
    clear hb
    go_wp2_with fail
    refine (one_any _ _ _ l _ hI).mono ?_
    rintro e w' ⟨rfl, rfl⟩
    go_wp2_with fail
    refine (rone_any _ _ _ l _ g1 (by omega)).mono ?_
    rintro e w7 ⟨rfl, hb⟩
    have g1 := (g1).past hb
    have hI := (hI).past hb
    have hU := (hU).later hb (Nat.le_refl _)
    have hV := (hV).later hb (Nat.le_refl _)
    have hC := (hC).later hb (Nat.le_refl _)
    have hD := (hD).later hb (Nat.le_refl _)
    have hT := (hT).later hb (Nat.le_refl _)
    have hB := below_later hB hb
    have hZ := below_later hZ hb
    clear hb
    go_wp2_with fail
    refine (sameNat_yes hU.toNatAt hV.toNatAt).mono ?_
    rintro e w8 ⟨rfl, hb⟩
    have g1 := (g1).past hb
    have hI := (hI).past hb
    have hU := (hU).later hb (Nat.le_refl _)
    have hV := (hV).later hb (Nat.le_refl _)
    have hC := (hC).later hb (Nat.le_refl _)
    have hD := (hD).later hb (Nat.le_refl _)
    have hT := (hT).later hb (Nat.le_refl _)
    have hB := below_later hB hb
    have hZ := below_later hZ hb
    clear hb
    go_wp2_with fail
    refine (sameNat_yes hC.toNatAt hD.toNatAt).mono ?_
    rintro e w9 ⟨rfl, hb⟩
    have g1 := (g1).past hb
    have hI := (hI).past hb
    have hU := (hU).later hb (Nat.le_refl _)
    have hV := (hV).later hb (Nat.le_refl _)
    have hC := (hC).later hb (Nat.le_refl _)
    have hD := (hD).later hb (Nat.le_refl _)
    have hT := (hT).later hb (Nat.le_refl _)
    have hB := below_later hB hb
    have hZ := below_later hZ hb
    clear hb
    go_wp2_with fail
    refine (rtrim_any _ _ _ l _ g1 (by omega)).mono ?_
    rintro e w10 ⟨aR, nR, cR, rfl, hR, hb⟩
    have g1 := (g1).past hb
    have hI := (hI).past hb
    have hU := (hU).later hb (Nat.le_refl _)
    have hV := (hV).later hb (Nat.le_refl _)
    have hC := (hC).later hb (Nat.le_refl _)
    have hD := (hD).later hb (Nat.le_refl _)
    have hT := (hT).later hb (Nat.le_refl _)
    have hB := below_later hB hb
    have hR := hR.mono (Below.size hZ)
    have hZ := below_later hZ hb
    clear hb
    go_wp2_with fail
    refine (sameNat_yes hT.toNatAt hR.toNatAt).mono ?_
    rintro e w11 ⟨rfl, hb⟩
    have g1 := (g1).past hb
    have hI := (hI).past hb
    have hU := (hU).later hb (Nat.le_refl _)
    have hC := (hC).later hb (Nat.le_refl _)
    have hT := (hT).later hb (Nat.le_refl _)
    have hB := below_later hB hb
    have hZ := below_later hZ hb
    clear hb
    go_wp2_with fail
    refine (check_any _ _ _ l _ hI).mono ?_
    rintro e w' ⟨rfl, rfl⟩
    go_wp2_with fail
    refine (rcheck_any _ _ _ l _ g1).mono ?_
    rintro e w' ⟨rfl, rfl⟩
    go_wp2_with fail
    refine (of_any x _ hx).mono ?_
    rintro e w12 ⟨aO, nO, cO, rfl, hO, hb⟩
    have g1 := (g1).past hb
    have hI := (hI).past hb
    have hU := (hU).later hb (Nat.le_refl _)
    have hC := (hC).later hb (Nat.le_refl _)
    have hT := (hT).later hb (Nat.le_refl _)
    have hB := below_later hB hb
    have hO := hO.mono (Below.size hZ)
    have hZ := below_later hZ hb
    clear hb
    go_wp2_with fail
    refine (rof_any x _ hx).mono ?_
    rintro e w13 ⟨aP, nP, cP, rfl, hP, hb⟩
    have g1 := (g1).past hb
    have hI := (hI).past hb
    have hU := (hU).later hb (Nat.le_refl _)
    have hC := (hC).later hb (Nat.le_refl _)
    have hT := (hT).later hb (Nat.le_refl _)
    have hO := (hO).later hb (Nat.le_refl _)
    have hB := below_later hB hb
    have hP := hP.mono (Below.size hZ)
    have hZ := below_later hZ hb
    clear hb
    go_wp2_with fail
    refine (sameNat_yes hO.toNatAt hP.toNatAt).mono ?_
    rintro e w14 ⟨rfl, hb⟩
    have hU := (hU).later hb (Nat.le_refl _)
    have hC := (hC).later hb (Nat.le_refl _)
    have hT := (hT).later hb (Nat.le_refl _)
    have hB := below_later hB hb
    have hZ := below_later hZ hb
    clear hb
    have hU := hU.writ
    have hC := hC.writ
    have hT := hT.writ
    go_wp2_with fail
    refine (overNat_any w1.heap.size _ _ _ _ hU).mono ?_
    rintro e w15 ⟨rfl, hb, hg⟩
    have hC := hC.keep hg
    have hT := hT.keep hg
    have hZ := hZ.trans hb
    clear hb hg hU
    go_wp2_with fail
    refine (overNat_any w1.heap.size _ _ _ _ hC).mono ?_
    rintro e w16 ⟨rfl, hb, hg⟩
    have hT := hT.keep hg
    have hZ := hZ.trans hb
    clear hb hg hC
    go_wp2_with fail
    refine (overNat_any w1.heap.size _ _ _ _ hT).mono ?_
    rintro e w17 ⟨rfl, hb, hg⟩
    have hZ := hZ.trans hb
    clear hb hg hT
    have g1 := zg1.past hZ
    have hI := zhI.past hZ
    have hB := below_later zB hZ
    go_wp2_with fail
    refine (sameNat_yes hI g1).mono ?_
    rintro e w18 ⟨rfl, hb⟩
    have hB := below_later hB hb
    clear hb
    go_wp2_with fail
    refine (awake01 _).mono ?_
    rintro e w19 ⟨rfl, hb⟩
    have hB := below_later hB hb
    clear hb
    go_wp2
    go_ret
    exact ⟨rfl, hB⟩
  · go_enter Try.func8, Try.ntmps8
    have hB := Below.refl w.heap.size w
    go_wp2_with fail
    refine (long01_any _ _ _ _ _ _ _ hc1 (by decide)).mono ?_
    rintro e w' ⟨rfl, rfl⟩
    rw [T.out]
    go_wp2_with fail
    refine (copyNat_any _ _ _ _ _ g1 (by omega)).mono ?_
    rintro e w1 ⟨aI, nI, cI, rfl, hI, hb⟩
    have g1 := (g1).past hb
    have hB := below_later hB hb
    clear hb
    have bI : nI ≤ 60 := by have := hI.len; have := g1.len; omega
    have hI := hI.toNatAt
    have hZ := Below.refl w1.heap.size w1
    have zB := hB
    have zg1 := g1
    have zhI := hI
    go_wp2_with fail
    refine (HU1.out _ _ _ _ bI hI).mono ?_
    rintro e w2 ⟨aU, nU, cU, rfl, hU, hb⟩
    have g1 := (g1).past hb
    have hI := (hI).past hb
    have hB := below_later hB hb
    have hU := hU.mono (Below.size hZ)
    have hZ := below_later hZ hb
    clear hb
    go_wp2_with fail
    refine (HU2.out _ _ _ _ (by omega) g1).mono ?_
    rintro e w3 ⟨aV, nV, cV, rfl, hV, hb⟩
    have g1 := (g1).past hb
    have hI := (hI).past hb
    have hU := (hU).later hb (Nat.le_refl _)
    have hB := below_later hB hb
    have hV := hV.mono (Below.size hZ)
    have hZ := below_later hZ hb
    clear hb
    go_wp2_with fail
    refine (HD1.out _ _ _ _ bI hI).mono ?_
    rintro e w4 ⟨aC, nC, cC, rfl, hC, hb⟩
    have g1 := (g1).past hb
    have hI := (hI).past hb
    have hU := (hU).later hb (Nat.le_refl _)
    have hV := (hV).later hb (Nat.le_refl _)
    have hB := below_later hB hb
    have hC := hC.mono (Below.size hZ)
    have hZ := below_later hZ hb
    clear hb
    go_wp2_with fail
    refine (HD2.out _ _ _ _ (by omega) g1).mono ?_
    rintro e w5 ⟨aD, nD, cD, rfl, hD, hb⟩
    have g1 := (g1).past hb
    have hI := (hI).past hb
    have hU := (hU).later hb (Nat.le_refl _)
    have hV := (hV).later hb (Nat.le_refl _)
    have hC := (hC).later hb (Nat.le_refl _)
    have hB := below_later hB hb
    have hD := hD.mono (Below.size hZ)
    have hZ := below_later hZ hb
    clear hb
    go_wp2_with fail
    refine (trim_any _ _ _ l _ hI (by omega)).mono ?_
    rintro e w6 ⟨aT, nT, cT, rfl, hT, hb⟩
    have g1 := (g1).past hb
    have hI := (hI).past hb
    have hU := (hU).later hb (Nat.le_refl _)
    have hV := (hV).later hb (Nat.le_refl _)
    have hC := (hC).later hb (Nat.le_refl _)
    have hD := (hD).later hb (Nat.le_refl _)
    have hB := below_later hB hb
    have hT := hT.mono (Below.size hZ)
    have hZ := below_later hZ hb
    clear hb
    go_wp2_with fail
    refine (one_any _ _ _ l _ hI).mono ?_
    rintro e w' ⟨rfl, rfl⟩
    go_wp2_with fail
    refine (rone_any _ _ _ l _ g1 (by omega)).mono ?_
    rintro e w7 ⟨rfl, hb⟩
    have g1 := (g1).past hb
    have hI := (hI).past hb
    have hU := (hU).later hb (Nat.le_refl _)
    have hV := (hV).later hb (Nat.le_refl _)
    have hC := (hC).later hb (Nat.le_refl _)
    have hD := (hD).later hb (Nat.le_refl _)
    have hT := (hT).later hb (Nat.le_refl _)
    have hB := below_later hB hb
    have hZ := below_later hZ hb
    clear hb
    go_wp2_with fail
    refine (sameNat_yes hU.toNatAt hV.toNatAt).mono ?_
    rintro e w8 ⟨rfl, hb⟩
    have g1 := (g1).past hb
    have hI := (hI).past hb
    have hU := (hU).later hb (Nat.le_refl _)
    have hV := (hV).later hb (Nat.le_refl _)
    have hC := (hC).later hb (Nat.le_refl _)
    have hD := (hD).later hb (Nat.le_refl _)
    have hT := (hT).later hb (Nat.le_refl _)
    have hB := below_later hB hb
    have hZ := below_later hZ hb
    clear hb
    go_wp2_with fail
    refine (sameNat_yes hC.toNatAt hD.toNatAt).mono ?_
    rintro e w9 ⟨rfl, hb⟩
    have g1 := (g1).past hb
    have hI := (hI).past hb
    have hU := (hU).later hb (Nat.le_refl _)
    have hV := (hV).later hb (Nat.le_refl _)
    have hC := (hC).later hb (Nat.le_refl _)
    have hD := (hD).later hb (Nat.le_refl _)
    have hT := (hT).later hb (Nat.le_refl _)
    have hB := below_later hB hb
    have hZ := below_later hZ hb
    clear hb
    go_wp2_with fail
    refine (rtrim_any _ _ _ l _ g1 (by omega)).mono ?_
    rintro e w10 ⟨aR, nR, cR, rfl, hR, hb⟩
    have g1 := (g1).past hb
    have hI := (hI).past hb
    have hU := (hU).later hb (Nat.le_refl _)
    have hV := (hV).later hb (Nat.le_refl _)
    have hC := (hC).later hb (Nat.le_refl _)
    have hD := (hD).later hb (Nat.le_refl _)
    have hT := (hT).later hb (Nat.le_refl _)
    have hB := below_later hB hb
    have hR := hR.mono (Below.size hZ)
    have hZ := below_later hZ hb
    clear hb
    go_wp2_with fail
    refine (sameNat_yes hT.toNatAt hR.toNatAt).mono ?_
    rintro e w11 ⟨rfl, hb⟩
    have g1 := (g1).past hb
    have hI := (hI).past hb
    have hU := (hU).later hb (Nat.le_refl _)
    have hC := (hC).later hb (Nat.le_refl _)
    have hT := (hT).later hb (Nat.le_refl _)
    have hB := below_later hB hb
    have hZ := below_later hZ hb
    clear hb
    go_wp2_with fail
    refine (check_any _ _ _ l _ hI).mono ?_
    rintro e w' ⟨rfl, rfl⟩
    go_wp2_with fail
    refine (rcheck_any _ _ _ l _ g1).mono ?_
    rintro e w' ⟨rfl, rfl⟩
    go_wp2_with fail
    refine (of_any x _ hx).mono ?_
    rintro e w12 ⟨aO, nO, cO, rfl, hO, hb⟩
    have g1 := (g1).past hb
    have hI := (hI).past hb
    have hU := (hU).later hb (Nat.le_refl _)
    have hC := (hC).later hb (Nat.le_refl _)
    have hT := (hT).later hb (Nat.le_refl _)
    have hB := below_later hB hb
    have hO := hO.mono (Below.size hZ)
    have hZ := below_later hZ hb
    clear hb
    go_wp2_with fail
    refine (rof_any x _ hx).mono ?_
    rintro e w13 ⟨aP, nP, cP, rfl, hP, hb⟩
    have g1 := (g1).past hb
    have hI := (hI).past hb
    have hU := (hU).later hb (Nat.le_refl _)
    have hC := (hC).later hb (Nat.le_refl _)
    have hT := (hT).later hb (Nat.le_refl _)
    have hO := (hO).later hb (Nat.le_refl _)
    have hB := below_later hB hb
    have hP := hP.mono (Below.size hZ)
    have hZ := below_later hZ hb
    clear hb
    go_wp2_with fail
    refine (sameNat_yes hO.toNatAt hP.toNatAt).mono ?_
    rintro e w14 ⟨rfl, hb⟩
    have hU := (hU).later hb (Nat.le_refl _)
    have hC := (hC).later hb (Nat.le_refl _)
    have hT := (hT).later hb (Nat.le_refl _)
    have hB := below_later hB hb
    have hZ := below_later hZ hb
    clear hb
    have hU := hU.writ
    have hC := hC.writ
    have hT := hT.writ
    go_wp2_with fail
    refine (overNat_any w1.heap.size _ _ _ _ hU).mono ?_
    rintro e w15 ⟨rfl, hb, hg⟩
    have hC := hC.keep hg
    have hT := hT.keep hg
    have hZ := hZ.trans hb
    clear hb hg hU
    go_wp2_with fail
    refine (overNat_any w1.heap.size _ _ _ _ hC).mono ?_
    rintro e w16 ⟨rfl, hb, hg⟩
    have hT := hT.keep hg
    have hZ := hZ.trans hb
    clear hb hg hC
    go_wp2_with fail
    refine (overNat_any w1.heap.size _ _ _ _ hT).mono ?_
    rintro e w17 ⟨rfl, hb, hg⟩
    have hZ := hZ.trans hb
    clear hb hg hT
    have g1 := zg1.past hZ
    have hI := zhI.past hZ
    have hB := below_later zB hZ
    go_wp2_with fail
    refine (sameNat_yes hI g1).mono ?_
    rintro e w18 ⟨rfl, hb⟩
    have hB := below_later hB hb
    clear hb
    go_wp2_with fail
    refine (awake01 _).mono ?_
    rintro e w19 ⟨rfl, hb⟩
    have hB := below_later hB hb
    clear hb
    go_wp2
    go_ret
    exact ⟨rfl, hB⟩

end Go.Proofs.Ytlnijohobnjlfaa
