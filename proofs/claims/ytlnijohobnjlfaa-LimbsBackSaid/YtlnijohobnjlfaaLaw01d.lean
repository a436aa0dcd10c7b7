/- the laws of limbs: LimbsSums, LimbsOrder. -/
import Derived.Test.YtlnijohobnjlfaaLaw01c
set_option linter.unusedVariables false
set_option linter.unusedSimpArgs false
namespace Go.Proofs.Ytlnijohobnjlfaa
open Go.RowKit

theorem fine01_yes {a : Option Addr} {n c : Nat} {l : List Nat} {w : World} (h : NatAt w a n c l) (ht : Top l) :
    Calls Try.prog 26 #[.slice a n c] w fun e w' => e = .returned (.bool true) ∧ w = w' := by
  have hl := h.cle
  have hl' := h.le
  by_cases hn : n = 0
  · subst hn
    go_enter Try.func26, Try.ntmps26
    go_wp2
    go_ret
    exact ⟨rfl, rfl⟩
  · rcases h.parts with h1 | ⟨b, o, rfl, hlt, hc⟩
    · omega
    have hc' := hc (n - 1) (by omega)
    clear hc
    have hne : l ≠ [] := fun e => hn (by rw [← h.len, e]; rfl)
    have hz : D l (n - 1) ≠ 0 := by
      rw [← h.len]
      unfold Top at ht
      rw [last_D hne] at ht
      exact fun e => ht (by rw [e])
    have t0 : ((n : Int) == 0) = false := by simp only [beq_eq_false_iff_ne]; omega
    have t1 : (((D l (n - 1) : Nat) : Int) != 0) = true := by rw [bne_iff_ne]; omega
    clear hz
    go_enter Try.func26, Try.ntmps26
    go_wp2
    go_ret
    exact ⟨rfl, rfl⟩

set_option maxHeartbeats 4000000 in
theorem limbsSums_any (a : Option Addr) (n c : Nat) (l : List Nat) (a2 : Option Addr) (n2 c2 : Nat) (l2 : List Nat) (a3 : Option Addr) (n3 c3 : Nat) (l3 : List Nat) (w : World) (g1 : NatAt w a n c l) (g2 : NatAt w a2 n2 c2 l2) (g3 : NatAt w a3 n3 c3 l3) :
    Calls Try.prog 7 #[.slice a n c, .slice a2 n2 c2, .slice a3 n3 c3] w (RetVal w (.bool true)) := by
  have hc1 := Nat.le_trans g1.le g1.cle
  have hc2 := Nat.le_trans g2.le g2.cle
  have hc3 := Nat.le_trans g3.le g3.cle
  by_cases hlong : 60 < n ∨ 60 < n2
  · have t : decide (60 < n ∨ 60 < n2) = true := decide_eq_true hlong
    have T := Lib.hid t
    clear t hlong
    go_enter Try.func7, Try.ntmps7
    have hB := Below.refl w.heap.size w
    go_wp2_with fail
    refine (limbsKnown_any _).mono ?_
    rintro e w1 ⟨rfl, hb⟩
    have hB := below_later hB hb
    clear hb
    go_wp2_with fail
    refine (long01_any _ _ _ _ _ _ _ hc1 hc2).mono ?_
    rintro e w' ⟨rfl, rfl⟩
    rw [T.out]
    go_wp2
    go_ret
    exact ⟨rfl, hB⟩
  have t : decide (60 < n ∨ 60 < n2) = false := decide_eq_false hlong
  have hn1 : n ≤ 60 := by omega
  have hn2 : n2 ≤ 60 := by omega
  have T := Lib.hid t
  clear t hlong
  by_cases hlong : 60 < n3 ∨ 60 < 0
  · have t : decide (60 < n3 ∨ 60 < 0) = true := decide_eq_true hlong
    have T3 := Lib.hid t
    clear t hlong
    go_enter Try.func7, Try.ntmps7
    have hB := Below.refl w.heap.size w
    go_wp2_with fail
    refine (limbsKnown_any _).mono ?_
    rintro e w1 ⟨rfl, hb⟩
    have hB := below_later hB hb
    clear hb
    go_wp2_with fail
    refine (long01_any _ _ _ _ _ _ _ hc1 hc2).mono ?_
    rintro e w' ⟨rfl, rfl⟩
    rw [T.out]
    go_wp2_with fail
    refine (long01_any _ _ _ _ _ _ _ hc3 (by decide)).mono ?_
    rintro e w' ⟨rfl, rfl⟩
    rw [T3.out]
    go_wp2
    go_ret
    exact ⟨rfl, hB⟩
  have t : decide (60 < n3 ∨ 60 < 0) = false := decide_eq_false hlong
  have hn3 : n3 ≤ 60 := by omega
  have T3 := Lib.hid t
  clear t hlong
  have s1 := g1.short
  have s2 := g2.short
  have s3 := g3.short
  have v1 := val_digs (val l)
  go_enter Try.func7, Try.ntmps7
  have hB := Below.refl w.heap.size w
  go_wp2_with fail
  refine (limbsKnown_any _).mono ?_
  rintro e w1 ⟨rfl, hb⟩
  have g1 := (g1).past hb
  have g2 := (g2).past hb
  have g3 := (g3).past hb
  have hB := below_later hB hb
  clear hb
  go_wp2_with fail
  refine (long01_any _ _ _ _ _ _ _ hc1 hc2).mono ?_
  rintro e w' ⟨rfl, rfl⟩
  rw [T.out]
  go_wp2_with fail
  refine (long01_any _ _ _ _ _ _ _ hc3 (by decide)).mono ?_
  rintro e w' ⟨rfl, rfl⟩
  rw [T3.out]
  go_wp2_with fail
  refine (add_any _ _ _ l _ _ _ l2 _ g1 g2 (by omega) (by omega)).mono ?_
  rintro e w2 ⟨aS, nS, cS, rfl, hS, hb⟩
  have g1 := (g1).past hb
  have g2 := (g2).past hb
  have g3 := (g3).past hb
  have hB := below_later hB hb
  clear hb
  have bS : nS ≤ 61 := by have := hS.toNatAt.short2; have := digs_len_add (val l) (val l2); omega
  go_wp2_with fail
  refine (add_any _ _ _ l2 _ _ _ l _ g2 g1 (by omega) (by omega)).mono ?_
  rintro e w3 ⟨aT, nT, cT, rfl, hT, hb⟩
  have g1 := (g1).past hb
  have g2 := (g2).past hb
  have g3 := (g3).past hb
  have hS := (hS).later hb (Nat.le_refl _)
  have hB := below_later hB hb
  clear hb
  rw [Nat.add_comm] at hT
  go_wp2_with fail
  refine (sub_yes _ _ _ (digs (val l + val l2)) _ _ _ l2 _ hS.toNatAt g2 (by omega) (by rw [val_digs]; exact Nat.le_add_left _ _)).mono ?_
  rintro e w4 ⟨aD, nD, cD, rfl, hD, hb⟩
  have g1 := (g1).past hb
  have g2 := (g2).past hb
  have g3 := (g3).past hb
  have hS := (hS).later hb (Nat.le_refl _)
  have hT := (hT).later hb (Nat.le_refl _)
  have hB := below_later hB hb
  clear hb
  rw [val_digs, Nat.add_sub_cancel] at hD
  go_wp2_with fail
  refine (add_any _ _ _ (digs (val l + val l2)) _ _ _ [1] _ (hS.toNatAt.alloc _) ((lit1g _ _ 1 1 (by simp) rfl (by decide)).toNatAt) (by omega) (by omega)).mono ?_
  rintro e w5 ⟨aE, nE, cE, rfl, hE, hb⟩
  have g1 := ((g1).alloc _).past hb
  have g2 := ((g2).alloc _).past hb
  have g3 := ((g3).alloc _).past hb
  have hS := ((hS).alloc _).later hb (Nat.le_refl _)
  have hT := ((hT).alloc _).later hb (Nat.le_refl _)
  have hD := ((hD).alloc _).later hb (Nat.le_refl _)
  have hB := below_later (below_alloc hB _) hb
  clear hb
  go_wp2_with fail
  refine (sub_no _ _ _ l _ _ _ (digs (val (digs (val l + val l2)) + val [1])) _ g1 hE.toNatAt (by rw [val_digs, val_digs, show val [1] = 1 from rfl]; omega)).mono ?_
  rintro e w6 ⟨rfl, hb⟩
  have g1 := (g1).past hb
  have g2 := (g2).past hb
  have g3 := (g3).past hb
  have hS := (hS).later hb (Nat.le_refl _)
  have hT := (hT).later hb (Nat.le_refl _)
  have hD := (hD).later hb (Nat.le_refl _)
  have hB := below_later hB hb
  clear hb
  go_wp2_with fail
  refine (sameNat_yes hS.toNatAt hT.toNatAt).mono ?_
  rintro e w7 ⟨rfl, hb⟩
  have g1 := (g1).past hb
  have g2 := (g2).past hb
  have g3 := (g3).past hb
  have hS := (hS).later hb (Nat.le_refl _)
  have hD := (hD).later hb (Nat.le_refl _)
  have hB := below_later hB hb
  clear hb
  go_wp2_with fail
  refine (trim_any _ _ _ l _ g1 (by omega)).mono ?_
  rintro e w8 ⟨aF, nF, cF, rfl, hF, hb⟩
  have g1 := (g1).past hb
  have g2 := (g2).past hb
  have g3 := (g3).past hb
  have hS := (hS).later hb (Nat.le_refl _)
  have hD := (hD).later hb (Nat.le_refl _)
  have hB := below_later hB hb
  clear hb
  go_wp2_with fail
  refine (sameNat_yes hD.toNatAt hF.toNatAt).mono ?_
  rintro e w9 ⟨rfl, hb⟩
  have g1 := (g1).past hb
  have g2 := (g2).past hb
  have g3 := (g3).past hb
  have hS := (hS).later hb (Nat.le_refl _)
  have hD := (hD).later hb (Nat.le_refl _)
  have hF := (hF).later hb (Nat.le_refl _)
  have hB := below_later hB hb
  clear hb
  go_wp2_with fail
  refine (fine01_yes hS.toNatAt (top_digs _)).mono ?_
  rintro e w' ⟨rfl, rfl⟩
  go_wp2_with fail
  refine (fine01_yes hD.toNatAt (top_digs _)).mono ?_
  rintro e w' ⟨rfl, rfl⟩
  go_wp2_with fail
  refine (add_any _ _ _ (digs (val l + val l2)) _ _ _ l3 _ hS.toNatAt g3 (by omega) (by omega)).mono ?_
  rintro e w10 ⟨aG, nG, cG, rfl, hG, hb⟩
  have g1 := (g1).past hb
  have g2 := (g2).past hb
  have g3 := (g3).past hb
  have hB := below_later hB hb
  clear hb
  rw [val_digs, Nat.add_assoc] at hG
  go_wp2_with fail
  refine (add_any _ _ _ l2 _ _ _ l3 _ g2 g3 (by omega) (by omega)).mono ?_
  rintro e w11 ⟨aH, nH, cH, rfl, hH, hb⟩
  have g1 := (g1).past hb
  have g2 := (g2).past hb
  have g3 := (g3).past hb
  have hG := (hG).later hb (Nat.le_refl _)
  have hB := below_later hB hb
  clear hb
  have bH : nH ≤ 61 := by have := hH.toNatAt.short2; have := digs_len_add (val l2) (val l3); omega
  go_wp2_with fail
  refine (add_any _ _ _ l _ _ _ (digs (val l2 + val l3)) _ g1 hH.toNatAt (by omega) (by omega)).mono ?_
  rintro e w12 ⟨aI, nI, cI, rfl, hI, hb⟩
  have g1 := (g1).past hb
  have g2 := (g2).past hb
  have g3 := (g3).past hb
  have hG := (hG).later hb (Nat.le_refl _)
  have hH := (hH).later hb (Nat.le_refl _)
  have hB := below_later hB hb
  clear hb
  rw [val_digs] at hI
  go_wp2_with fail
  refine (sameNat_yes hG.toNatAt hI.toNatAt).mono ?_
  rintro e w13 ⟨rfl, hb⟩
  have g1 := (g1).past hb
  have hB := below_later hB hb
  clear hb
  go_wp2_with fail
  refine (add_any _ _ _ l _ _ _ [] _ g1 (NatAt.nil _) (by omega) (by omega)).mono ?_
  rintro e w14 ⟨aJ, nJ, cJ, rfl, hJ, hb⟩
  have g1 := (g1).past hb
  have hB := below_later hB hb
  clear hb
  rw [show val [] = 0 from rfl, Nat.add_zero] at hJ
  go_wp2_with fail
  refine (trim_any _ _ _ l _ g1 (by omega)).mono ?_
  rintro e w15 ⟨aK, nK, cK, rfl, hK, hb⟩
  have g1 := (g1).past hb
  have hJ := (hJ).later hb (Nat.le_refl _)
  have hB := below_later hB hb
  clear hb
  go_wp2_with fail
  refine (sameNat_yes hJ.toNatAt hK.toNatAt).mono ?_
  rintro e w16 ⟨rfl, hb⟩
  have hB := below_later hB hb
  clear hb
  go_wp2
  go_ret
  exact ⟨rfl, hB⟩

end Go.Proofs.Ytlnijohobnjlfaa
