/- the laws of limbs: LimbsReckons. -/
import Derived.Test.YtlnijohobnjlfaaLaw01a
import Derived.Test.YtlnijohobnjlfaaRefs3
import Derived.Test.YtlnijohobnjlfaaRefs4
set_option linter.unusedVariables false
set_option linter.unusedSimpArgs false
namespace Go.Proofs.Ytlnijohobnjlfaa
open Go.RowKit

set_option maxHeartbeats 2000000 in
theorem limbsReckons_any (a : Option Addr) (n c : Nat) (l : List Nat) (a2 : Option Addr) (n2 c2 : Nat) (l2 : List Nat) (w : World) (h : NatAt w a n c l) (h2 : NatAt w a2 n2 c2 l2) :
    Calls Try.prog 3 #[.slice a n c, .slice a2 n2 c2] w (RetVal w (.bool true)) := by
  have hc1 := Nat.le_trans h.le h.cle
  have hc2 := Nat.le_trans h2.le h2.cle
  by_cases hlong : 60 < n ∨ 60 < n2
  · have t : decide (60 < n ∨ 60 < n2) = true := decide_eq_true hlong
    have T := Lib.hid t
    clear t hlong
    go_enter Try.func3, Try.ntmps3
    go_wp2_with fail
    refine (long01_any _ _ _ _ _ _ _ hc1 hc2).mono ?_
    rintro e w' ⟨rfl, rfl⟩
    rw [T.out]
    go_wp2_with fail
    refine (awake01 _).mono ?_
    rintro e w' ⟨rfl, hb⟩
    go_wp2
    go_ret
    exact ⟨rfl, hb⟩
  have t : decide (60 < n ∨ 60 < n2) = false := decide_eq_false hlong
  have hn1 : n ≤ 60 := by omega
  have hn2 : n2 ≤ 60 := by omega
  have T := Lib.hid t
  clear t hlong
  -- what the two texts tell of the difference
  have hsub : (∃ x N, (∀ (w : World) a n c a2 n2 c2, n ≤ 60 → NatAt w a n c l → NatAt w a2 n2 c2 l2 → Calls Try.prog 13 #[.slice a n c, .slice a2 n2 c2] w (RetNatOk w N x)) ∧
      (∀ (w : World) a n c a2 n2 c2, n ≤ 60 → NatAt w a n c l → NatAt w a2 n2 c2 l2 → Calls Try.prog 14 #[.slice a n c, .slice a2 n2 c2] w (RetNatOk w N x))) := by
    by_cases hv : val l2 ≤ val l
    · exact ⟨0, val l - val l2, fun w a n c a2 n2 c2 hn h h2 => sub_yes a n c l a2 n2 c2 l2 w h h2 (by omega) hv, fun w a n c a2 n2 c2 hn h h2 => rsub_yes a n c l a2 n2 c2 l2 w h h2 (by omega) hv⟩
    · exact ⟨3, 0, fun w a n c a2 n2 c2 hn h h2 => (sub_no a n c l a2 n2 c2 l2 w h h2 (by omega)).mono fun e w' ⟨h1, h2⟩ => ⟨_, _, _, h1, OwnAt.nil _ _, h2⟩,
        fun w a n c a2 n2 c2 hn h h2 => (rsub_no a n c l a2 n2 c2 l2 w h h2 (by omega)).mono fun e w' ⟨h1, h2⟩ => ⟨_, _, _, h1, OwnAt.nil _ _, h2⟩⟩
  obtain ⟨x, N, hs1, hs2⟩ := hsub
  have HS1 := Lib.hid hs1
  have HS2 := Lib.hid hs2
  clear hs1 hs2
  have tx : (x == x) = true := by simp
  go_enter Try.func3, Try.ntmps3
  go_wp2_with fail
  refine (long01_any _ _ _ _ _ _ _ hc1 hc2).mono ?_
  rintro e w' ⟨rfl, rfl⟩
  rw [T.out]
  go_wp2_with fail
  refine (copyNat_any _ _ _ _ _ h (by omega)).mono ?_
  rintro e w1 ⟨a3, n3, c3, rfl, h3, hb1⟩
  go_wp2_with fail
  have g2 := h2.past hb1
  refine (copyNat_any _ _ _ _ _ g2 (by omega)).mono ?_
  rintro e w2 ⟨a4, n4, c4, rfl, h4, hb2⟩
  have g1 := h.past (below_later hb1 hb2)
  have g2 := g2.past hb2
  have h3 := h3.toNatAt.past hb2
  have h4 := h4.toNatAt
  have e3 : n3 ≤ 60 := by have := h3.len; have := h.len; omega
  have e4 : n4 ≤ 60 := by have := h4.len; have := h2.len; omega
  have hB2 := below_later hb1 hb2
  clear hb1 hb2
  have hB2s := hB2.size
  go_wp2_with fail
  refine (add_any _ _ _ l _ _ _ l2 _ h3 h4 (by omega) (by omega)).mono ?_
  rintro e w3 ⟨a5, n5, c5, rfl, hS, hb3⟩
  go_wp2_with fail
  refine (HS1.out _ _ _ _ _ _ _ e3 (h3.past hb3) (h4.past hb3)).mono ?_
  rintro e w4 ⟨a6, n6, c6, rfl, hD, hb4⟩
  have hS := hS.later hb4 (Nat.le_refl _)
  have hb4' := below_later hb3 hb4
  have hD := hD.mono hb3.size
  go_wp2_with fail
  refine (HS2.out _ _ _ _ _ _ _ (by omega) (g1.past hb4') (g2.past hb4')).mono ?_
  rintro e w5 ⟨a7, n7, c7, rfl, hW, hb5⟩
  have hS := hS.later hb5 (Nat.le_refl _)
  have hD := hD.later hb5 (Nat.le_refl _)
  have hW := hW.toNatAt
  have hb5 := below_later hb4' hb5
  clear hb3 hb4 hb4'
  go_wp2_with fail
  refine (radd_any _ _ _ l _ _ _ l2 _ (g1.past hb5) (g2.past hb5) (by omega) (by omega)).mono ?_
  rintro e w6 ⟨a8, n8, c8, rfl, hA, hb6⟩
  have hS := hS.later hb6 (Nat.le_refl _)
  have hD := hD.later hb6 (Nat.le_refl _)
  have hW := hW.past hb6
  have hb6 := below_later hb5 hb6
  go_wp2_with fail
  refine (sameNat_yes hS.toNatAt hA.toNatAt).mono ?_
  rintro e w7 ⟨rfl, hb7⟩
  have hS := hS.later hb7 (Nat.le_refl _)
  have hD := hD.later hb7 (Nat.le_refl _)
  have hW := hW.past hb7
  have hb7 := below_later hb6 hb7
  clear hb5 hb6 hA
  go_wp2_with fail
  refine (sameNat_yes hD.toNatAt hW).mono ?_
  rintro e w8 ⟨rfl, hb8⟩
  have hS := hS.later hb8 (Nat.le_refl _)
  have hD := hD.later hb8 (Nat.le_refl _)
  have hb8 := below_later hb7 hb8
  clear hb7 hW
  go_wp2_with fail
  refine (cmp_any _ _ _ l _ _ _ l2 _ (h3.past hb8) (h4.past hb8)).mono ?_
  rintro e w9 ⟨rfl, hb9⟩
  have hS := hS.later hb9 (Nat.le_refl _)
  have hD := hD.later hb9 (Nat.le_refl _)
  have hb9 := below_later hb8 hb9
  go_wp2_with fail
  refine (rcmp_any _ _ _ l _ _ _ l2 _ (g1.past hb9) (g2.past hb9)).mono ?_
  rintro e w9 ⟨rfl, rfl⟩
  have tc : (cmpI (val l) (val l2) == cmpI (val l) (val l2)) = true := by simp
  go_wp2_with fail
  refine (len_any _ _ _ l _ (h3.past hb9) (by omega)).mono ?_
  rintro e w9 ⟨rfl, rfl⟩
  go_wp2_with fail
  refine (rlen_any _ _ _ l _ (g1.past hb9) (by omega)).mono ?_
  rintro e w10 ⟨rfl, hb10⟩
  have hS := hS.later hb10 (Nat.le_refl _)
  have hD := hD.later hb10 (Nat.le_refl _)
  have hb10 := below_later hb9 hb10
  clear hb8 hb9
  have tl : (((nbits (val l) : Nat) : Int) == ((nbits (val l) : Nat) : Int)) = true := by simp
  go_wp2_with fail
  have hS := hS.writ
  have hD := hD.writ
  refine (overNat_any w2.heap.size _ _ _ _ hS).mono ?_
  rintro e w11 ⟨rfl, hb11, hg11⟩
  have hD := hD.keep hg11
  have hb11 := (hb10.trans hb11)
  clear hb10 hS
  go_wp2_with fail
  refine (overNat_any w2.heap.size _ _ _ _ hD).mono ?_
  rintro e w12 ⟨rfl, hb12, hg12⟩
  have hb12 := (hb11.trans hb12)
  clear hb11 hD
  go_wp2_with fail
  refine (sameNat_yes (h3.past hb12) (g1.past hb12)).mono ?_
  rintro e w13 ⟨rfl, hb13⟩
  have hb13 := below_later hb12 hb13
  go_wp2_with fail
  refine (sameNat_yes (h4.past hb13) (g2.past hb13)).mono ?_
  rintro e w14 ⟨rfl, hb14⟩
  have hb14 := below_later hb13 hb14
  go_wp2_with fail
  refine (awake01 _).mono ?_
  rintro e w15 ⟨rfl, hb15⟩
  have hb15 := below_later hb14 hb15
  go_wp2
  go_ret
  exact ⟨rfl, below_later hB2 hb15⟩

end Go.Proofs.Ytlnijohobnjlfaa
