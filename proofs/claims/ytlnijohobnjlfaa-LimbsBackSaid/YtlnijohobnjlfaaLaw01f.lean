/- the laws of limbs: LimbsBack. -/
import Derived.Test.YtlnijohobnjlfaaLaw01d
set_option linter.unusedVariables false
set_option linter.unusedSimpArgs false
namespace Go.Proofs.Ytlnijohobnjlfaa
open Go.RowKit

/-- one of the numbers from 0 to 2,000 -/
theorem pickI_bounds (x : Int) : 0 ≤ pickI x 2001 ∧ pickI x 2001 ≤ 2000 := by
  unfold pickI
  rw [if_neg (by decide)]
  have := Int.emod_nonneg x (show (2001 : Int) ≠ 0 by decide)
  have := Int.emod_lt_of_pos x (show (0 : Int) < 2001 by decide)
  omega
set_option maxHeartbeats 4000000 in
theorem limbsBack_any (a : Option Addr) (n c : Nat) (l : List Nat) (s t : Int) (w : World) (g1 : NatAt w a n c l) (b1 : -9223372036854775808 ≤ s) (b2 : s ≤ 9223372036854775807) (b3 : -9223372036854775808 ≤ t) (b4 : t ≤ 9223372036854775807) :
    Calls Try.prog 5 #[.slice a n c, .int .i64 s, .int .i64 t] w (RetVal w (.bool true)) := by
  have hc1 := Nat.le_trans g1.le g1.cle
  by_cases hlong : 60 < n ∨ 60 < 0
  · have t : decide (60 < n ∨ 60 < 0) = true := decide_eq_true hlong
    have T := Lib.hid t
    clear t hlong
    go_enter Try.func5, Try.ntmps5
    have hB := Below.refl w.heap.size w
    go_wp2_with fail
    refine (awake01 _).mono ?_
    rintro e w1 ⟨rfl, hb⟩
    have g1 := (g1).past hb
    have hB := below_later hB hb
    clear hb
    go_wp2_with fail
    refine (long01_any _ _ _ _ _ _ _ hc1 (by decide)).mono ?_
    rintro e w' ⟨rfl, rfl⟩
    rw [T.out]
    go_wp2
    go_ret
    exact ⟨rfl, hB⟩
  have tt : decide (60 < n ∨ 60 < 0) = false := decide_eq_false hlong
  have hn1 : n ≤ 60 := by omega
  have T := Lib.hid tt
  clear tt hlong
  have pS := pickI_bounds s
  have pT := pickI_bounds t
  obtain ⟨p, hp⟩ : ∃ p : Nat, pickI s 2001 = p := ⟨(pickI s 2001).toNat, by omega⟩
  obtain ⟨q, hq⟩ : ∃ q : Nat, pickI t 2001 = q := ⟨(pickI t 2001).toNat, by omega⟩
  have hp2 : p ≤ 2000 := by omega
  have hq2 : q ≤ 2000 := by omega
  have HP := Lib.hid hp
  have HQ := Lib.hid hq
  clear pS pT hp hq
  have s1 := g1.short
  have k1 := digs_len_shift (val l) (s := p) (k := 64) (by omega)
  have k2 := digs_len_shift (val l * 2 ^ p) (s := q) (k := 64) (by omega)
  have epq : ((p : Int) + q).toNat = p + q := by omega
  have EPQ := Lib.hid epq
  clear epq
  have h2p : 0 < 2 ^ p := Nat.pow_pos (by decide)
  have hdivp : val l * 2 ^ p / 2 ^ p = val l := Nat.mul_div_cancel _ h2p
  have hmulpq : val l * 2 ^ p * 2 ^ q = val l * 2 ^ (p + q) := by rw [Nat.pow_add, Nat.mul_assoc]
  have hdivpq : val l * 2 ^ (p + q) / 2 ^ (p + q) = val l := Nat.mul_div_cancel _ (Nat.pow_pos (by decide))
  have hone : val l * 2 ^ (1 : Int).toNat = val l + val l := by rw [show (2 : Nat) ^ (1 : Int).toNat = 2 from rfl]; omega
  have HDP := Lib.hid hdivp
  have HMPQ := Lib.hid hmulpq
  have HDPQ := Lib.hid hdivpq
  have HONE := Lib.hid hone
  clear h2p hdivp hmulpq hdivpq hone
  have hbits : nbits (val l) = 0 ∨ (0 < nbits (val l) ∧ nbits (val l * 2 ^ p) = nbits (val l) + p) := by
    by_cases h0 : val l = 0
    · exact .inl (by rw [h0]; rfl)
    · exact .inr ⟨by rw [nbits_pos h0]; omega, nbits_shift h0⟩
  have hnb := nbits_le_len g1.dig
  rw [g1.len] at hnb
  go_enter Try.func5, Try.ntmps5
  have hB := Below.refl w.heap.size w
  go_wp2_with fail
  refine (awake01 _).mono ?_
  rintro e w1 ⟨rfl, hb⟩
  have g1 := (g1).past hb
  have hB := below_later hB hb
  clear hb
  go_wp2_with fail
  refine (long01_any _ _ _ _ _ _ _ hc1 (by decide)).mono ?_
  rintro e w' ⟨rfl, rfl⟩
  rw [T.out]
  go_wp2_with fail
  refine (pick_any _ _ _ b1 b2 (by decide)).mono ?_
  rintro e w' ⟨rfl, rfl⟩
  rw [HP.out]
  go_wp2_with fail
  refine (pick_any _ _ _ b3 b4 (by decide)).mono ?_
  rintro e w' ⟨rfl, rfl⟩
  rw [HQ.out]
  go_wp2_with fail
  refine (shiftUp_any _ _ _ l _ _ g1 (by omega) (by omega) (by omega)).mono ?_
  rintro e w2 ⟨aU, nU, cU, rfl, hU, hb⟩
  have g1 := (g1).past hb
  have hB := below_later hB hb
  clear hb
  rw [Int.toNat_natCast] at hU
  have bU : nU ≤ 124 := by have := hU.toNatAt.short2; omega
  go_wp2_with fail
  refine (shiftDown_any _ _ _ (digs (val l * 2 ^ p)) _ _ hU.toNatAt (by omega) (by omega) (by omega)).mono ?_
  rintro e w3 ⟨aD, nD, cD, rfl, hD, hb⟩
  have g1 := (g1).past hb
  have hU := (hU).later hb (Nat.le_refl _)
  have hB := below_later hB hb
  clear hb
  rw [Int.toNat_natCast, val_digs, HDP.out] at hD
  go_wp2_with fail
  refine (shiftUp_any _ _ _ (digs (val l * 2 ^ p)) _ _ hU.toNatAt (by omega) (by omega) (by omega)).mono ?_
  rintro e w4 ⟨aV, nV, cV, rfl, hV, hb⟩
  have g1 := (g1).past hb
  have hU := (hU).later hb (Nat.le_refl _)
  have hD := (hD).later hb (Nat.le_refl _)
  have hB := below_later hB hb
  clear hb
  rw [Int.toNat_natCast, val_digs] at hV
  have bV : nV ≤ 188 := by have := hV.toNatAt.short2; omega
  rw [HMPQ.out] at hV
  go_wp2_with fail
  refine (shiftUp_any _ _ _ l _ _ g1 (by omega) (by omega) (by omega)).mono ?_
  rintro e w5 ⟨aW, nW, cW, rfl, hW, hb⟩
  have g1 := (g1).past hb
  have hU := (hU).later hb (Nat.le_refl _)
  have hD := (hD).later hb (Nat.le_refl _)
  have hV := (hV).later hb (Nat.le_refl _)
  have hB := below_later hB hb
  clear hb
  rw [EPQ.out] at hW
  go_wp2_with fail
  refine (shiftDown_any _ _ _ (digs (val l * 2 ^ (p + q))) _ _ hV.toNatAt (by omega) (by omega) (by omega)).mono ?_
  rintro e w6 ⟨aX, nX, cX, rfl, hX, hb⟩
  have g1 := (g1).past hb
  have hU := (hU).later hb (Nat.le_refl _)
  have hD := (hD).later hb (Nat.le_refl _)
  have hV := (hV).later hb (Nat.le_refl _)
  have hW := (hW).later hb (Nat.le_refl _)
  have hB := below_later hB hb
  clear hb
  rw [EPQ.out, val_digs, HDPQ.out] at hX
  go_wp2_with fail
  refine (shiftUp_any _ _ _ l _ _ g1 (by omega) (by omega) (by omega)).mono ?_
  rintro e w7 ⟨aO, nO, cO, rfl, hO, hb⟩
  have g1 := (g1).past hb
  have hU := (hU).later hb (Nat.le_refl _)
  have hD := (hD).later hb (Nat.le_refl _)
  have hV := (hV).later hb (Nat.le_refl _)
  have hW := (hW).later hb (Nat.le_refl _)
  have hX := (hX).later hb (Nat.le_refl _)
  have hB := below_later hB hb
  clear hb
  rw [HONE.out] at hO
  go_wp2_with fail
  refine (fine01_yes hU.toNatAt (top_digs _)).mono ?_
  rintro e w' ⟨rfl, rfl⟩
  go_wp2_with fail
  refine (fine01_yes hD.toNatAt (top_digs _)).mono ?_
  rintro e w' ⟨rfl, rfl⟩
  go_wp2_with fail
  refine (len_any _ _ _ l _ g1 (by omega)).mono ?_
  rintro e w' ⟨rfl, rfl⟩
  rcases hbits with hb0 | ⟨hb0, hb1⟩
  · have HB0 := Lib.hid hb0
    rw [HB0.out]
    clear hb0
    go_wp2_with fail
    refine (trim_any _ _ _ l _ g1 (by omega)).mono ?_
    rintro e w91 ⟨aY, nY, cY, rfl, hY, hb⟩
    have g1 := (g1).past hb
    have hU := (hU).later hb (Nat.le_refl _)
    have hD := (hD).later hb (Nat.le_refl _)
    have hV := (hV).later hb (Nat.le_refl _)
    have hW := (hW).later hb (Nat.le_refl _)
    have hX := (hX).later hb (Nat.le_refl _)
    have hO := (hO).later hb (Nat.le_refl _)
    have hB := below_later hB hb
    clear hb
    go_wp2_with fail
    refine (sameNat_yes hD.toNatAt hY.toNatAt).mono ?_
    rintro e w92 ⟨rfl, hb⟩
    have g1 := (g1).past hb
    have hU := (hU).later hb (Nat.le_refl _)
    have hD := (hD).later hb (Nat.le_refl _)
    have hV := (hV).later hb (Nat.le_refl _)
    have hW := (hW).later hb (Nat.le_refl _)
    have hX := (hX).later hb (Nat.le_refl _)
    have hO := (hO).later hb (Nat.le_refl _)
    have hY := (hY).later hb (Nat.le_refl _)
    have hB := below_later hB hb
    clear hb
    go_wp2_with fail
    refine (sameNat_yes hV.toNatAt hW.toNatAt).mono ?_
    rintro e w93 ⟨rfl, hb⟩
    have g1 := (g1).past hb
    have hU := (hU).later hb (Nat.le_refl _)
    have hD := (hD).later hb (Nat.le_refl _)
    have hV := (hV).later hb (Nat.le_refl _)
    have hW := (hW).later hb (Nat.le_refl _)
    have hX := (hX).later hb (Nat.le_refl _)
    have hO := (hO).later hb (Nat.le_refl _)
    have hY := (hY).later hb (Nat.le_refl _)
    have hB := below_later hB hb
    clear hb
    go_wp2_with fail
    refine (sameNat_yes hX.toNatAt hD.toNatAt).mono ?_
    rintro e w94 ⟨rfl, hb⟩
    have g1 := (g1).past hb
    have hU := (hU).later hb (Nat.le_refl _)
    have hD := (hD).later hb (Nat.le_refl _)
    have hV := (hV).later hb (Nat.le_refl _)
    have hW := (hW).later hb (Nat.le_refl _)
    have hX := (hX).later hb (Nat.le_refl _)
    have hO := (hO).later hb (Nat.le_refl _)
    have hY := (hY).later hb (Nat.le_refl _)
    have hB := below_later hB hb
    clear hb
    go_wp2_with fail
    refine (add_any _ _ _ l _ _ _ l _ g1 g1 (by omega) (by omega)).mono ?_
    rintro e w95 ⟨aZ, nZ, cZ, rfl, hZ, hb⟩
    have g1 := (g1).past hb
    have hU := (hU).later hb (Nat.le_refl _)
    have hD := (hD).later hb (Nat.le_refl _)
    have hV := (hV).later hb (Nat.le_refl _)
    have hW := (hW).later hb (Nat.le_refl _)
    have hX := (hX).later hb (Nat.le_refl _)
    have hO := (hO).later hb (Nat.le_refl _)
    have hY := (hY).later hb (Nat.le_refl _)
    have hB := below_later hB hb
    clear hb
    go_wp2_with fail
    refine (sameNat_yes hO.toNatAt hZ.toNatAt).mono ?_
    rintro e w96 ⟨rfl, hb⟩
    have hB := below_later hB hb
    clear hb
    go_wp2
    go_ret
    exact ⟨rfl, hB⟩
  · have HB := Lib.hid hb1
    have tq : ((((nbits (val l) + p : Nat) : Int) != ((nbits (val l) : Int) + (p : Int)))) = false := by simp
    clear hb1
    go_wp2_with fail
    refine (len_any _ _ _ (digs (val l * 2 ^ p)) _ hU.toNatAt (by omega)).mono ?_
    rintro e w' ⟨rfl, rfl⟩
    rw [val_digs, HB.out]
    go_wp2_with fail
    refine (trim_any _ _ _ l _ g1 (by omega)).mono ?_
    rintro e w71 ⟨aY, nY, cY, rfl, hY, hb⟩
    have g1 := (g1).past hb
    have hU := (hU).later hb (Nat.le_refl _)
    have hD := (hD).later hb (Nat.le_refl _)
    have hV := (hV).later hb (Nat.le_refl _)
    have hW := (hW).later hb (Nat.le_refl _)
    have hX := (hX).later hb (Nat.le_refl _)
    have hO := (hO).later hb (Nat.le_refl _)
    have hB := below_later hB hb
    clear hb
    go_wp2_with fail
    refine (sameNat_yes hD.toNatAt hY.toNatAt).mono ?_
    rintro e w72 ⟨rfl, hb⟩
    have g1 := (g1).past hb
    have hU := (hU).later hb (Nat.le_refl _)
    have hD := (hD).later hb (Nat.le_refl _)
    have hV := (hV).later hb (Nat.le_refl _)
    have hW := (hW).later hb (Nat.le_refl _)
    have hX := (hX).later hb (Nat.le_refl _)
    have hO := (hO).later hb (Nat.le_refl _)
    have hY := (hY).later hb (Nat.le_refl _)
    have hB := below_later hB hb
    clear hb
    go_wp2_with fail
    refine (sameNat_yes hV.toNatAt hW.toNatAt).mono ?_
    rintro e w73 ⟨rfl, hb⟩
    have g1 := (g1).past hb
    have hU := (hU).later hb (Nat.le_refl _)
    have hD := (hD).later hb (Nat.le_refl _)
    have hV := (hV).later hb (Nat.le_refl _)
    have hW := (hW).later hb (Nat.le_refl _)
    have hX := (hX).later hb (Nat.le_refl _)
    have hO := (hO).later hb (Nat.le_refl _)
    have hY := (hY).later hb (Nat.le_refl _)
    have hB := below_later hB hb
    clear hb
    go_wp2_with fail
    refine (sameNat_yes hX.toNatAt hD.toNatAt).mono ?_
    rintro e w74 ⟨rfl, hb⟩
    have g1 := (g1).past hb
    have hU := (hU).later hb (Nat.le_refl _)
    have hD := (hD).later hb (Nat.le_refl _)
    have hV := (hV).later hb (Nat.le_refl _)
    have hW := (hW).later hb (Nat.le_refl _)
    have hX := (hX).later hb (Nat.le_refl _)
    have hO := (hO).later hb (Nat.le_refl _)
    have hY := (hY).later hb (Nat.le_refl _)
    have hB := below_later hB hb
    clear hb
    go_wp2_with fail
    refine (add_any _ _ _ l _ _ _ l _ g1 g1 (by omega) (by omega)).mono ?_
    rintro e w75 ⟨aZ, nZ, cZ, rfl, hZ, hb⟩
    have g1 := (g1).past hb
    have hU := (hU).later hb (Nat.le_refl _)
    have hD := (hD).later hb (Nat.le_refl _)
    have hV := (hV).later hb (Nat.le_refl _)
    have hW := (hW).later hb (Nat.le_refl _)
    have hX := (hX).later hb (Nat.le_refl _)
    have hO := (hO).later hb (Nat.le_refl _)
    have hY := (hY).later hb (Nat.le_refl _)
    have hB := below_later hB hb
    clear hb
    go_wp2_with fail
    refine (sameNat_yes hO.toNatAt hZ.toNatAt).mono ?_
    rintro e w76 ⟨rfl, hb⟩
    have hB := below_later hB hb
    clear hb
    go_wp2
    go_ret
    exact ⟨rfl, hB⟩

end Go.Proofs.Ytlnijohobnjlfaa
