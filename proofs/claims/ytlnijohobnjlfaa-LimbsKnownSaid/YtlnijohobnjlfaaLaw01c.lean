/- the laws of limbs: LimbsKnown. -/
import Derived.Test.YtlnijohobnjlfaaLaw01a
import Derived.Test.YtlnijohobnjlfaaLimbs7
set_option linter.unusedVariables false
set_option linter.unusedSimpArgs false
namespace Go.Proofs.Ytlnijohobnjlfaa
open Go.RowKit

set_option maxHeartbeats 4000000 in
theorem limbsKnown_any (w : World) : Calls Try.prog 6 #[] w (RetVal w (.bool true)) := by
  have e1 : digs (val [5] - val [5]) = [] := rfl
  have e2 : digs (val [18446744073709551615] * 2 ^ (4 : Int).toNat) = [18446744073709551600, 15] := by rw [show val [18446744073709551615] * 2 ^ (4 : Int).toNat = 18446744073709551600 + 18446744073709551616 * 15 by decide]; exact digs_two (by decide) (by decide) (by decide)
  have e3 : digs (val [0, 1] / 2 ^ (1 : Int).toNat) = [9223372036854775808] := by rw [show val [0, 1] / 2 ^ (1 : Int).toNat = 9223372036854775808 by decide]; exact digs_small (by decide) (by decide)
  have e4 : digs (val [7] / 2 ^ (3 : Int).toNat) = [] := by rw [show val [7] / 2 ^ (3 : Int).toNat = 0 by decide]; rfl
  have e5 : oneN (val [7]) = 7 := by decide
  have e6 : oneB (val [7]) = true := by decide
  have e7 : oneN (val [0, 1]) = 0 := by decide
  have e8 : oneB (val [0, 1]) = false := by decide
  have e9 : (digs (val [] + val [])).length = 0 := rfl
  have e10 : nbits (val []) = 0 := rfl
  have e11 : nbits (val [1]) = 1 := rfl
  have e12 : digs (val [1, 0, 0]) = [1] := by rw [show val [1, 0, 0] = 1 by decide]; exact digs_small (by decide) (by decide)
  have E1 := Lib.hid e1
  have E2 := Lib.hid e2
  have E3 := Lib.hid e3
  have E4 := Lib.hid e4
  have E5 := Lib.hid e5
  have E6 := Lib.hid e6
  have E7 := Lib.hid e7
  have E8 := Lib.hid e8
  have E9 := Lib.hid e9
  have E10 := Lib.hid e10
  have E11 := Lib.hid e11
  have E12 := Lib.hid e12
  clear e1 e2 e3 e4 e5 e6 e7 e8 e9 e10 e11 e12
  go_enter Try.func6, Try.ntmps6
  have hB := Below.refl w.heap.size w
  go_wp2_with fail
  refine (sub_no _ _ _ [1] _ _ _ [2] _ (((lit1g _ _ 1 1 (by simp) rfl (by decide)).toNatAt).alloc _) ((lit1g _ _ 2 2 (by simp) rfl (by decide)).toNatAt) (by decide)).mono ?_
  rintro e w1 ⟨rfl, hb⟩
  have hB := below_later (below_alloc (below_alloc hB _) _) hb
  clear hb
  go_wp2_with fail
  refine (sub_yes _ _ _ [5] _ _ _ [5] _ (((lit1g _ _ 5 5 (by simp) rfl (by decide)).toNatAt).alloc _) ((lit1g _ _ 5 5 (by simp) rfl (by decide)).toNatAt) (by decide) (by decide)).mono ?_
  rintro e w2 ⟨aD, nD, cD, rfl, hD, hb⟩
  have hB := below_later (below_alloc (below_alloc hB _) _) hb
  clear hb
  rw [E1.out] at hD
  go_wp2_with fail
  refine (shiftUp_any _ _ _ [18446744073709551615] _ _ ((lit1g _ _ 18446744073709551615 18446744073709551615 (by simp) rfl (by decide)).toNatAt) (by decide) (by decide) (by decide)).mono ?_
  rintro e w3 ⟨aU, nU, cU, rfl, hU, hb⟩
  have hD := ((hD).alloc _).later hb (Nat.le_refl _)
  have hB := below_later (below_alloc hB _) hb
  clear hb
  rw [E2.out] at hU
  go_wp2_with fail
  refine (shiftDown_any _ _ _ [0, 1] _ _ ((lit2g _ _ 0 1 0 1 (by simp) rfl (by decide) rfl (by decide)).toNatAt) (by decide) (by decide) (by decide)).mono ?_
  rintro e w4 ⟨aV, nV, cV, rfl, hV, hb⟩
  have hD := ((hD).alloc _).later hb (Nat.le_refl _)
  have hU := ((hU).alloc _).later hb (Nat.le_refl _)
  have hB := below_later (below_alloc hB _) hb
  clear hb
  rw [E3.out] at hV
  go_wp2_with fail
  refine (shiftDown_any _ _ _ [7] _ _ ((lit1g _ _ 7 7 (by simp) rfl (by decide)).toNatAt) (by decide) (by decide) (by decide)).mono ?_
  rintro e w5 ⟨aW, nW, cW, rfl, hW, hb⟩
  have hD := ((hD).alloc _).later hb (Nat.le_refl _)
  have hU := ((hU).alloc _).later hb (Nat.le_refl _)
  have hV := ((hV).alloc _).later hb (Nat.le_refl _)
  have hB := below_later (below_alloc hB _) hb
  clear hb
  rw [E4.out] at hW
  go_wp2_with fail
  refine (shiftUp_no _ _ _ _ _ (.inl (by decide))).mono ?_
  rintro e w6 ⟨rfl, hb⟩
  have hD := ((hD).alloc _).later hb (Nat.le_refl _)
  have hU := ((hU).alloc _).later hb (Nat.le_refl _)
  have hV := ((hV).alloc _).later hb (Nat.le_refl _)
  have hW := ((hW).alloc _).later hb (Nat.le_refl _)
  have hB := below_later (below_alloc hB _) hb
  clear hb
  go_wp2_with fail
  refine (one_any _ _ _ [7] _ ((lit1g _ _ 7 7 (by simp) rfl (by decide)).toNatAt)).mono ?_
  rintro e w' ⟨rfl, rfl⟩
  rw [E5.out, E6.out]
  go_wp2_with fail
  refine (one_any _ _ _ [0, 1] _ ((lit2g _ _ 0 1 0 1 (by simp) rfl (by decide) rfl (by decide)).toNatAt)).mono ?_
  rintro e w' ⟨rfl, rfl⟩
  rw [E7.out, E8.out]
  go_wp2_with fail
  refine (is01_yes (((hD.toNatAt).alloc _).alloc _) (NatAt.nil _)).mono ?_
  rintro e w7 ⟨rfl, hb⟩
  have hD := (((hD).alloc _).alloc _).later hb (Nat.le_refl _)
  have hU := (((hU).alloc _).alloc _).later hb (Nat.le_refl _)
  have hV := (((hV).alloc _).alloc _).later hb (Nat.le_refl _)
  have hW := (((hW).alloc _).alloc _).later hb (Nat.le_refl _)
  have hB := below_later (below_alloc (below_alloc hB _) _) hb
  clear hb
  go_wp2_with fail
  refine (is01_yes ((hU.toNatAt).alloc _) ((lit2g _ _ 18446744073709551600 15 18446744073709551600 15 (by simp) rfl (by decide) rfl (by decide)).toNatAt)).mono ?_
  rintro e w8 ⟨rfl, hb⟩
  have hD := ((hD).alloc _).later hb (Nat.le_refl _)
  have hU := ((hU).alloc _).later hb (Nat.le_refl _)
  have hV := ((hV).alloc _).later hb (Nat.le_refl _)
  have hW := ((hW).alloc _).later hb (Nat.le_refl _)
  have hB := below_later (below_alloc hB _) hb
  clear hb
  go_wp2_with fail
  refine (is01_yes ((hV.toNatAt).alloc _) ((lit1g _ _ 9223372036854775808 9223372036854775808 (by simp) rfl (by decide)).toNatAt)).mono ?_
  rintro e w9 ⟨rfl, hb⟩
  have hD := ((hD).alloc _).later hb (Nat.le_refl _)
  have hU := ((hU).alloc _).later hb (Nat.le_refl _)
  have hV := ((hV).alloc _).later hb (Nat.le_refl _)
  have hW := ((hW).alloc _).later hb (Nat.le_refl _)
  have hB := below_later (below_alloc hB _) hb
  clear hb
  go_wp2_with fail
  refine (is01_yes hW.toNatAt (NatAt.nil _)).mono ?_
  rintro e w10 ⟨rfl, hb⟩
  have hD := (hD).later hb (Nat.le_refl _)
  have hU := (hU).later hb (Nat.le_refl _)
  have hV := (hV).later hb (Nat.le_refl _)
  have hW := (hW).later hb (Nat.le_refl _)
  have hB := below_later hB hb
  clear hb
  go_wp2_with fail
  refine (awake01 _).mono ?_
  rintro e w11 ⟨rfl, hb⟩
  have hB := below_later hB hb
  clear hb
  go_wp2_with fail
  refine (add_any _ _ _ [] _ _ _ [] _ (NatAt.nil _) (NatAt.nil _) (by decide) (by decide)).mono ?_
  rintro e w12 ⟨aZ, nZ, cZ, rfl, hZ, hb⟩
  have hB := below_later hB hb
  clear hb
  obtain rfl : nZ = 0 := by have := hZ.len; rw [E9.out] at this; exact this.symm
  go_wp2_with fail
  refine (len_any _ _ _ [] _ (NatAt.nil _) (by decide)).mono ?_
  rintro e w' ⟨rfl, rfl⟩
  rw [E10.out]
  go_wp2_with fail
  refine (len_any _ _ _ [1] _ ((lit1g _ _ 1 1 (by simp) rfl (by decide)).toNatAt) (by decide)).mono ?_
  rintro e w' ⟨rfl, rfl⟩
  rw [E11.out]
  go_wp2_with fail
  refine (trim_any _ _ _ [1, 0, 0] _ ((lit3g _ _ 1 0 0 1 0 0 (by simp) rfl (by decide) rfl (by decide) rfl (by decide)).toNatAt) (by decide)).mono ?_
  rintro e w13 ⟨aT, nT, cT, rfl, hT, hb⟩
  have hB := below_later (below_alloc (below_alloc hB _) _) hb
  clear hb
  rw [E12.out] at hT
  go_wp2_with fail
  refine (is01_yes ((hT.toNatAt).alloc _) ((lit1g _ _ 1 1 (by simp) rfl (by decide)).toNatAt)).mono ?_
  rintro e w14 ⟨rfl, hb⟩
  have hT := ((hT).alloc _).later hb (Nat.le_refl _)
  have hB := below_later (below_alloc hB _) hb
  clear hb
  go_wp2
  go_ret
  exact ⟨rfl, hB⟩

end Go.Proofs.Ytlnijohobnjlfaa
