/- the laws of times: TimesKnown. -/
import Derived.Test.YtlljljhiimeajaaLaw02a
import Derived.Test.YtlljljhiimeajaaTimes6
set_option linter.unusedVariables false
set_option linter.unusedSimpArgs false
namespace Go.Proofs.Ytlljljhiimeajaa
open Go.RowKit

set_option maxHeartbeats 8000000 in
theorem timesKnown_any (w : World) : Calls Try.prog 6 #[] w (RetVal w (.bool true)) := by
  have e1 : digs (val [2] ^ 64) = [0, 1] := digs_of _ (by decide) (by decide) (by decide)
  have e2 : digs (val [] ^ 0) = [1] := digs_of _ (by decide) (by decide) (by decide)
  have e3 : digs (val [0, 1] * val [0, 0, 1]) = [0, 0, 0, 1] := digs_of _ (by decide) (by decide) (by decide)
  have e4 : digs (val [3] * val [3]) = [9] := digs_of _ (by decide) (by decide) (by decide)
  have e5 : digs (val [5, 7] * 2) = [10, 14] := digs_of _ (by decide) (by decide) (by decide)
  have e6 : (digs (val [] * val [5])).length = 0 := rfl
  have e7 : 16777216 < 65536 * nbits (val [0, 0, 0, 0, 1]) := by rw [nbits_top (l := [0, 0, 0, 0, 1]) (m := 4) (by intro x hx; simp at hx; omega) rfl (by decide)]; decide
  have e8 : 64 * nbits (val [2]) ≤ 16777216 := by decide
  have e9 : 0 * nbits (val []) ≤ 16777216 := by decide
  have E1 := Lib.hid e1
  have E2 := Lib.hid e2
  have E3 := Lib.hid e3
  have E4 := Lib.hid e4
  have E5 := Lib.hid e5
  have E6 := Lib.hid e6
  have E7 := Lib.hid e7
  have E8 := Lib.hid e8
  have E9 := Lib.hid e9
  clear e1 e2 e3 e4 e5 e6 e7 e8 e9
  go_enter Try.func6, Try.ntmps6
  have hB := Below.refl w.heap.size w
  go_wp2_with fail
  refine (of02_any _ _).mono ?_
  rintro e w' ⟨rfl, rfl⟩
  go_wp2_with fail
  refine (of02_any _ _).mono ?_
  rintro e w' ⟨rfl, rfl⟩
  go_wp2_with fail
  refine (kara_no _ _ _ _ _ _ _ _ (.inl (by decide))).mono ?_
  rintro e w' ⟨rfl, rfl⟩
  go_wp2_with fail
  refine (of02_any _ _).mono ?_
  rintro e w' ⟨rfl, rfl⟩
  go_wp2_with fail
  refine (power_yes _ _ _ [2] 64 _ ((litG _ _ _ [2] 1 (by simp) rfl rfl (by decide) (by decide)).toNatAt) (by decide) (by decide) E8.out).mono ?_
  rintro e w1 ⟨ahP, nhP, chP, rfl, hP, hb⟩
  have hB := below_later (below_alloc (below_alloc (below_alloc hB _) _) _) hb
  clear hb
  rw [E1.out] at hP
  go_wp2_with fail
  refine (power_yes _ _ _ [] 0 _ (NatAt.nil _) (by decide) (by decide) E9.out).mono ?_
  rintro e w2 ⟨ahQ, nhQ, chQ, rfl, hQ, hb⟩
  have hP := (hP).later hb (Nat.le_refl _)
  have hB := below_later hB hb
  clear hb
  rw [E2.out] at hQ
  go_wp2_with fail
  refine (of02_any _ _).mono ?_
  rintro e w' ⟨rfl, rfl⟩
  go_wp2_with fail
  refine (power_no _ _ _ _ _ (.inl (by decide))).mono ?_
  rintro e w3 ⟨rfl, hb⟩
  have hP := ((hP).alloc _).later hb (Nat.le_refl _)
  have hQ := ((hQ).alloc _).later hb (Nat.le_refl _)
  have hB := below_later (below_alloc hB _) hb
  clear hb
  go_wp2_with fail
  refine (of02_any _ _).mono ?_
  rintro e w' ⟨rfl, rfl⟩
  go_wp2_with fail
  refine (power_long _ _ _ [0, 0, 0, 0, 1] 65536 _ ((litG _ _ _ [0, 0, 0, 0, 1] 5 (by simp) rfl rfl (by decide) (by decide)).toNatAt) (by decide) (by decide) E7.out).mono ?_
  rintro e w4 ⟨rfl, hb⟩
  have hP := ((hP).alloc _).later hb (Nat.le_refl _)
  have hQ := ((hQ).alloc _).later hb (Nat.le_refl _)
  have hB := below_later (below_alloc hB _) hb
  clear hb
  go_wp2_with fail
  refine (of02_any _ _).mono ?_
  rintro e w' ⟨rfl, rfl⟩
  go_wp2_with fail
  refine (power_no _ _ _ _ _ (.inr (by decide))).mono ?_
  rintro e w5 ⟨rfl, hb⟩
  have hP := ((hP).alloc _).later hb (Nat.le_refl _)
  have hQ := ((hQ).alloc _).later hb (Nat.le_refl _)
  have hB := below_later (below_alloc hB _) hb
  clear hb
  go_wp2_with fail
  refine (of02_any _ _).mono ?_
  rintro e w' ⟨rfl, rfl⟩
  go_wp2_with fail
  refine (of02_any _ _).mono ?_
  rintro e w' ⟨rfl, rfl⟩
  go_wp2_with fail
  refine (tmul_any _ _ _ [0, 1] _ _ _ [0, 0, 1] _ (((litG _ _ _ [0, 1] 2 (by simp) rfl rfl (by decide) (by decide)).toNatAt).alloc _) ((litG _ _ _ [0, 0, 1] 3 (by simp) rfl rfl (by decide) (by decide)).toNatAt) (by decide) (by decide)).mono ?_
  rintro e w6 ⟨ahA, nhA, chA, rfl, hA, hb⟩
  have hP := (((hP).alloc _).alloc _).later hb (Nat.le_refl _)
  have hQ := (((hQ).alloc _).alloc _).later hb (Nat.le_refl _)
  have hB := below_later (below_alloc (below_alloc hB _) _) hb
  clear hb
  rw [E3.out] at hA
  go_wp2_with fail
  refine (of02_any _ _).mono ?_
  rintro e w' ⟨rfl, rfl⟩
  go_wp2_with fail
  refine (sameNat_yes ((hA.toNatAt).alloc _) ((litG _ _ _ [0, 0, 0, 1] 4 (by simp) rfl rfl (by decide) (by decide)).toNatAt)).mono ?_
  rintro e w7 ⟨rfl, hb⟩
  have hP := ((hP).alloc _).later hb (Nat.le_refl _)
  have hQ := ((hQ).alloc _).later hb (Nat.le_refl _)
  have hB := below_later (below_alloc hB _) hb
  clear hb
  go_wp2_with fail
  refine (of02_any _ _).mono ?_
  rintro e w' ⟨rfl, rfl⟩
  go_wp2_with fail
  refine (square_any _ _ _ [3] _ ((litG _ _ _ [3] 1 (by simp) rfl rfl (by decide) (by decide)).toNatAt) (by decide)).mono ?_
  rintro e w8 ⟨ahB2, nhB2, chB2, rfl, hB2, hb⟩
  have hP := ((hP).alloc _).later hb (Nat.le_refl _)
  have hQ := ((hQ).alloc _).later hb (Nat.le_refl _)
  have hB := below_later (below_alloc hB _) hb
  clear hb
  rw [E4.out] at hB2
  go_wp2_with fail
  refine (of02_any _ _).mono ?_
  rintro e w' ⟨rfl, rfl⟩
  go_wp2_with fail
  refine (sameNat_yes ((hB2.toNatAt).alloc _) ((litG _ _ _ [9] 1 (by simp) rfl rfl (by decide) (by decide)).toNatAt)).mono ?_
  rintro e w9 ⟨rfl, hb⟩
  have hP := ((hP).alloc _).later hb (Nat.le_refl _)
  have hQ := ((hQ).alloc _).later hb (Nat.le_refl _)
  have hB := below_later (below_alloc hB _) hb
  clear hb
  go_wp2_with fail
  refine (of02_any _ _).mono ?_
  rintro e w' ⟨rfl, rfl⟩
  go_wp2_with fail
  refine (tgrow_any _ _ _ [5, 7] 2 _ ((litG _ _ _ [5, 7] 2 (by simp) rfl rfl (by decide) (by decide)).toNatAt) (by decide) (by decide)).mono ?_
  rintro e w10 ⟨ahC, nhC, chC, rfl, hC, hb⟩
  have hP := ((hP).alloc _).later hb (Nat.le_refl _)
  have hQ := ((hQ).alloc _).later hb (Nat.le_refl _)
  have hB := below_later (below_alloc hB _) hb
  clear hb
  rw [E5.out] at hC
  go_wp2_with fail
  refine (of02_any _ _).mono ?_
  rintro e w' ⟨rfl, rfl⟩
  go_wp2_with fail
  refine (sameNat_yes ((hC.toNatAt).alloc _) ((litG _ _ _ [10, 14] 2 (by simp) rfl rfl (by decide) (by decide)).toNatAt)).mono ?_
  rintro e w11 ⟨rfl, hb⟩
  have hP := ((hP).alloc _).later hb (Nat.le_refl _)
  have hQ := ((hQ).alloc _).later hb (Nat.le_refl _)
  have hB := below_later (below_alloc hB _) hb
  clear hb
  go_wp2_with fail
  refine (of02_any _ _).mono ?_
  rintro e w' ⟨rfl, rfl⟩
  go_wp2_with fail
  refine (tmul_any _ _ _ [] _ _ _ [5] _ (NatAt.nil _) ((litG _ _ _ [5] 1 (by simp) rfl rfl (by decide) (by decide)).toNatAt) (by decide) (by decide)).mono ?_
  rintro e w12 ⟨ahE, nhE, chE, rfl, hE, hb⟩
  have hP := ((hP).alloc _).later hb (Nat.le_refl _)
  have hQ := ((hQ).alloc _).later hb (Nat.le_refl _)
  have hB := below_later (below_alloc hB _) hb
  clear hb
  obtain rfl : nhE = 0 := by have := hE.len; rw [E6.out] at this; exact this.symm
  go_wp2_with fail
  refine (awake02 _).mono ?_
  rintro e w13 ⟨rfl, hb⟩
  have hP := (hP).later hb (Nat.le_refl _)
  have hQ := (hQ).later hb (Nat.le_refl _)
  have hB := below_later hB hb
  clear hb
  go_wp2_with fail
  refine (of02_any _ _).mono ?_
  rintro e w' ⟨rfl, rfl⟩
  go_wp2_with fail
  refine (sameNat_yes ((hP.toNatAt).alloc _) ((litG _ _ _ [0, 1] 2 (by simp) rfl rfl (by decide) (by decide)).toNatAt)).mono ?_
  rintro e w14 ⟨rfl, hb⟩
  have hQ := ((hQ).alloc _).later hb (Nat.le_refl _)
  have hB := below_later (below_alloc hB _) hb
  clear hb
  go_wp2_with fail
  refine (of02_any _ _).mono ?_
  rintro e w' ⟨rfl, rfl⟩
  go_wp2_with fail
  refine (sameNat_yes ((hQ.toNatAt).alloc _) ((litG _ _ _ [1] 1 (by simp) rfl rfl (by decide) (by decide)).toNatAt)).mono ?_
  rintro e w15 ⟨rfl, hb⟩
  have hB := below_later (below_alloc hB _) hb
  clear hb
  go_wp2
  go_ret
  exact ⟨rfl, hB⟩

end Go.Proofs.Ytlljljhiimeajaa
