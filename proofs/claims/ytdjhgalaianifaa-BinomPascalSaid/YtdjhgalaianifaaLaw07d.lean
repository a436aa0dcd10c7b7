/- the laws of binom: BinomKnown. -/
import Derived.Test.YtdjhgalaianifaaLaw07a
import Derived.Test.YtdjhgalaianifaaBinom4
import Derived.Test.YtdjhgalaianifaaKit3
set_option linter.unusedVariables false
set_option linter.unusedSimpArgs false
namespace Go.Proofs.Ytdjhgalaianifaa
open Go.RowKit

/-- a row of Pascal's triangle behind another one -/
def nextRow (l : List Nat) : List Nat := 1 :: (l.zipWith (· + ·) (l.drop 1 ++ [0]))
theorem row_ch : ∀ n : Nat, (List.range n).foldl (fun l _ => nextRow l) [1] = (List.range (n + 1)).map (ch n) := by
  intro n
  induction n with
  | zero => rfl
  | succ n ih =>
    rw [List.range_succ, List.foldl_append, ih]
    simp only [List.foldl_cons, List.foldl_nil]
    apply List.ext_getElem?
    intro i
    unfold nextRow
    cases i with
    | zero => simp [ch_zero]
    | succ i =>
      rw [List.getElem?_cons_succ, List.getElem?_zipWith, List.getElem?_map, List.getElem?_map]
      by_cases h : i < n + 1
      · by_cases h2 : i = n
        · subst h2
          simp [List.getElem?_append, ch_self, ch_succ, ch_gt]
        · simp [List.getElem?_append, List.getElem?_drop, h, show i < n by omega, show 1 + i < n + 1 by omega, ch_succ, Nat.add_comm 1 i]
      · simp [List.getElem?_eq_none, h, show ¬ i + 1 < n + 1 + 1 by omega]
theorem ch_great : ch 70 35 = val [1505813374405535736, 6] := by
  have h2 : ((List.range 70).foldl (fun l _ => nextRow l) [1])[35]? = some 112186277816662845432 := by kernel_rfl
  rw [row_ch, List.getElem?_map, List.getElem?_range (by decide)] at h2
  have h3 : ch 70 35 = 112186277816662845432 := by simpa using h2
  rw [h3]; decide

set_option maxRecDepth 100000 in
set_option maxHeartbeats 4000000 in
theorem binomKnown_any (w : World) : Calls Try.prog 11 #[] w (RetVal w (.bool true)) := by
  have f1 : bin 4 0 = digs 1 := by unfold bin; rw [show ch 4 0 = 1 by decide]
  have f2 : bin 4 1 = digs 4 := by unfold bin; rw [show ch 4 1 = 4 by decide]
  have f3 : bin 4 2 = digs 6 := by unfold bin; rw [show ch 4 2 = 6 by decide]
  have f4 : bin 4 3 = digs 4 := by unfold bin; rw [show ch 4 3 = 4 by decide]
  have f5 : bin 4 4 = digs 1 := by unfold bin; rw [show ch 4 4 = 1 by decide]
  have f6 : digs (fall 2 3) = digs 0 := by rw [show fall 2 3 = 0 by decide]
  have f7 : digs (fall 7 0) = digs 1 := by rw [show fall 7 0 = 1 by decide]
  have f8 : digs (multi ([] : List Nat).sum []) = digs 1 := by rw [show multi ([] : List Nat).sum [] = 1 by decide]
  have f9 : digs (multi ([3, 0] : List Nat).sum [3, 0]) = digs 1 := by rw [show multi ([3, 0] : List Nat).sum [3, 0] = 1 by decide]
  have f10 : digs (ch 70 35) = [1505813374405535736, 6] := digs_of _ (by decide) (by decide) ch_great
  have f11 : ¬ okInts [1, -1] := fun h => by have := h.1 (-1) (by simp); omega
  have F1 := Lib.hid f1
  have F2 := Lib.hid f2
  have F3 := Lib.hid f3
  have F4 := Lib.hid f4
  have F5 := Lib.hid f5
  have F6 := Lib.hid f6
  have F7 := Lib.hid f7
  have F8 := Lib.hid f8
  have F9 := Lib.hid f9
  have F10 := Lib.hid f10
  have F11 := Lib.hid f11
  clear f1 f2 f3 f4 f5 f6 f7 f8 f9 f10 f11
  go_enter Try.func11, Try.ntmps11
  have hB := Below.refl w.heap.size w
  go_wp2_with fail
  refine (rowE_yes 4 _ (by decide)).mono ?_
  rintro e w1 ⟨gR, cR, rfl, hR, hb⟩
  have hB := below_later hB hb
  clear hb
  obtain ⟨aR0, nR0, cR0, qR0, oR0, _⟩ := hR.get (i := 0) (by decide)
  rw [F1.out] at oR0
  obtain ⟨aR1, nR1, cR1, qR1, oR1, _⟩ := hR.get (i := 1) (by decide)
  rw [F2.out] at oR1
  obtain ⟨aR2, nR2, cR2, qR2, oR2, _⟩ := hR.get (i := 2) (by decide)
  rw [F3.out] at oR2
  obtain ⟨aR3, nR3, cR3, qR3, oR3, _⟩ := hR.get (i := 3) (by decide)
  rw [F4.out] at oR3
  obtain ⟨aR4, nR4, cR4, qR4, oR4, _⟩ := hR.get (i := 4) (by decide)
  rw [F5.out] at oR4
  have lR := hR.lt.2
  go_wp2_with fail
  refine (is07_yes (N := 1) oR0.toNatAt (by decide)).mono ?_
  rintro e w2 ⟨rfl, hb⟩
  have qR1 := (hb.cell (p := ⟨gR, 1, none⟩) lR).trans qR1
  have qR2 := (hb.cell (p := ⟨gR, 2, none⟩) lR).trans qR2
  have qR3 := (hb.cell (p := ⟨gR, 3, none⟩) lR).trans qR3
  have qR4 := (hb.cell (p := ⟨gR, 4, none⟩) lR).trans qR4
  have lR := Nat.lt_of_lt_of_le lR hb.size
  have oR0 := oR0.past hb
  have oR1 := oR1.past hb
  have oR2 := oR2.past hb
  have oR3 := oR3.past hb
  have oR4 := oR4.past hb
  have hB := below_later hB hb
  clear hb
  go_wp2_with fail
  refine (is07_yes (N := 4) oR1.toNatAt (by decide)).mono ?_
  rintro e w3 ⟨rfl, hb⟩
  have qR2 := (hb.cell (p := ⟨gR, 2, none⟩) lR).trans qR2
  have qR3 := (hb.cell (p := ⟨gR, 3, none⟩) lR).trans qR3
  have qR4 := (hb.cell (p := ⟨gR, 4, none⟩) lR).trans qR4
  have lR := Nat.lt_of_lt_of_le lR hb.size
  have oR0 := oR0.past hb
  have oR1 := oR1.past hb
  have oR2 := oR2.past hb
  have oR3 := oR3.past hb
  have oR4 := oR4.past hb
  have hB := below_later hB hb
  clear hb
  go_wp2_with fail
  refine (is07_yes (N := 6) oR2.toNatAt (by decide)).mono ?_
  rintro e w4 ⟨rfl, hb⟩
  have qR3 := (hb.cell (p := ⟨gR, 3, none⟩) lR).trans qR3
  have qR4 := (hb.cell (p := ⟨gR, 4, none⟩) lR).trans qR4
  have lR := Nat.lt_of_lt_of_le lR hb.size
  have oR0 := oR0.past hb
  have oR1 := oR1.past hb
  have oR2 := oR2.past hb
  have oR3 := oR3.past hb
  have oR4 := oR4.past hb
  have hB := below_later hB hb
  clear hb
  go_wp2_with fail
  refine (is07_yes (N := 4) oR3.toNatAt (by decide)).mono ?_
  rintro e w5 ⟨rfl, hb⟩
  have qR4 := (hb.cell (p := ⟨gR, 4, none⟩) lR).trans qR4
  have lR := Nat.lt_of_lt_of_le lR hb.size
  have oR0 := oR0.past hb
  have oR1 := oR1.past hb
  have oR2 := oR2.past hb
  have oR3 := oR3.past hb
  have oR4 := oR4.past hb
  have hB := below_later hB hb
  clear hb
  go_wp2_with fail
  refine (is07_yes (N := 1) oR4.toNatAt (by decide)).mono ?_
  rintro e w6 ⟨rfl, hb⟩
  have lR := Nat.lt_of_lt_of_le lR hb.size
  have oR0 := oR0.past hb
  have oR1 := oR1.past hb
  have oR2 := oR2.past hb
  have oR3 := oR3.past hb
  have oR4 := oR4.past hb
  have hB := below_later hB hb
  clear hb
  go_wp2_with fail
  refine (choose_no (-1) 0 _ (by decide)).mono ?_
  rintro e w7 ⟨rfl, hb⟩
  have hB := below_later hB hb
  clear hb
  go_wp2_with fail
  refine (falling_yes 2 3 _ (by decide) (by decide)).mono ?_
  rintro e w8 ⟨ahA, nhA, chA, rfl, hA, hb⟩
  have hB := below_later hB hb
  clear hb
  rw [F6.out] at hA
  go_wp2_with fail
  refine (falling_yes 7 0 _ (by decide) (by decide)).mono ?_
  rintro e w9 ⟨ahC, nhC, chC, rfl, hC, hb⟩
  have hA := hA.past hb
  have hB := below_later hB hb
  clear hb
  rw [F7.out] at hC
  go_wp2_with fail
  refine (falling_no 7 (-1) _ (by decide)).mono ?_
  rintro e w10 ⟨rfl, hb⟩
  have hA := hA.past hb
  have hC := hC.past hb
  have hB := below_later hB hb
  clear hb
  have hnil : IntsAt w10 none 0 0 (ints []) := ⟨rfl, Nat.le_refl _, Nat.zero_le _, .inl rfl, fun _ => rfl, by simp [ints]⟩
  go_wp2_with fail
  refine (count_yes [] _ _ _ _ hnil (by decide)).mono ?_
  rintro e w11 ⟨ahD, nhD, chD, rfl, hD, hb⟩
  have hA := hA.past hb
  have hC := hC.past hb
  have hB := below_later hB hb
  clear hb
  rw [F8.out] at hD
  go_wp2_with fail
  have h0z := litI (E := 3) w11 #[.int .i64 3, .int .i64 0] [3, 0] 2 rfl rfl (by decide) (by decide)
  obtain ⟨w12, hW⟩ : ∃ W, w11.alloc (.cells #[.int .i64 3, .int .i64 0] 3) = W := ⟨_, rfl⟩
  have hb : Below w11.heap.size w11 w12 := by rw [← hW]; exact (Below.refl _ _).alloc (Nat.le_refl _) _
  rw [hW] at h0z ⊢
  clear hW
  have hA := hA.past hb
  have hC := hC.past hb
  have hD := hD.past hb
  have hB := below_later hB hb
  clear hb
  go_wp2_with fail
  refine (count_yes [3, 0] _ _ _ _ h0z (by decide)).mono ?_
  rintro e w13 ⟨ahE, nhE, chE, rfl, hE, hb⟩
  have hA := hA.past hb
  have hC := hC.past hb
  have hD := hD.past hb
  have hB := below_later hB hb
  clear hb
  rw [F9.out] at hE
  go_wp2_with fail
  have h0y := litI (E := 3) w13 #[.int .i64 1, .int .i64 (-1)] [1, -1] 2 rfl rfl (by decide) (by decide)
  obtain ⟨w14, hW⟩ : ∃ W, w13.alloc (.cells #[.int .i64 1, .int .i64 (-1)] 3) = W := ⟨_, rfl⟩
  have hb : Below w13.heap.size w13 w14 := by rw [← hW]; exact (Below.refl _ _).alloc (Nat.le_refl _) _
  rw [hW] at h0y ⊢
  clear hW
  have hA := hA.past hb
  have hC := hC.past hb
  have hD := hD.past hb
  have hE := hE.past hb
  have hB := below_later hB hb
  clear hb
  go_wp2_with fail
  refine (count_no [1, -1] _ _ _ _ h0y F11.out).mono ?_
  rintro e w15 ⟨rfl, hb⟩
  have hA := hA.past hb
  have hC := hC.past hb
  have hD := hD.past hb
  have hE := hE.past hb
  have hB := below_later hB hb
  clear hb
  go_wp2_with fail
  refine (choose_in 70 35 _ (by decide) (by decide)).mono ?_
  rintro e w16 ⟨ahG, nhG, chG, rfl, hG, hb⟩
  have hA := hA.past hb
  have hC := hC.past hb
  have hD := hD.past hb
  have hE := hE.past hb
  have hB := below_later hB hb
  clear hb
  rw [F10.out] at hG
  go_wp2_with fail
  obtain ⟨w17, hW, hz0, hb, q, f⟩ := box1g w16 (w16.heap.size) (by omega) #[.int .u64 1505813374405535736, .int .u64 6] 37
  have h0k1 : OwnAt w17 w16.heap.size (some ⟨w16.heap.size, 0, none⟩) 2 2 [1505813374405535736, 6] := by rw [← hW]; exact litG _ _ _ [1505813374405535736, 6] 2 (by omega) rfl rfl (by decide) (by decide)
  rw [hW]
  clear hW
  have hA := hA.past hb
  have hC := hC.past hb
  have hD := hD.past hb
  have hE := hE.past hb
  have hG := hG.past hb
  have hB := below_later hB hb
  clear hb
  have k1 := h0k1
  clear h0k1
  clear q f
  clear hz0
  with_reducible refine (awake07 _).mono ?_
  rintro e w18 ⟨rfl, hb⟩
  have hA := hA.past hb
  have hC := hC.past hb
  have hD := hD.past hb
  have hE := hE.past hb
  have hG := hG.past hb
  have k1 := k1.past hb
  have hB := below_later hB hb
  clear hb
  go_wp2_with fail
  refine (chosen07_out 5 6 _ (by decide) (by decide)).mono ?_
  rintro e w19 ⟨rfl, hb⟩
  have hA := hA.past hb
  have hC := hC.past hb
  have hD := hD.past hb
  have hE := hE.past hb
  have hG := hG.past hb
  have k1 := k1.past hb
  have hB := below_later hB hb
  clear hb
  go_wp2_with fail
  refine (chosen07_out 5 (-1) _ (by decide) (by decide)).mono ?_
  rintro e w20 ⟨rfl, hb⟩
  have hA := hA.past hb
  have hC := hC.past hb
  have hD := hD.past hb
  have hE := hE.past hb
  have hG := hG.past hb
  have k1 := k1.past hb
  have hB := below_later hB hb
  clear hb
  go_wp2_with fail
  refine (is07_yes (N := 0) hA.toNatAt (by decide)).mono ?_
  rintro e w21 ⟨rfl, hb⟩
  have hA := hA.past hb
  have hC := hC.past hb
  have hD := hD.past hb
  have hE := hE.past hb
  have hG := hG.past hb
  have k1 := k1.past hb
  have hB := below_later hB hb
  clear hb
  go_wp2_with fail
  refine (is07_yes (N := 1) hC.toNatAt (by decide)).mono ?_
  rintro e w22 ⟨rfl, hb⟩
  have hA := hA.past hb
  have hC := hC.past hb
  have hD := hD.past hb
  have hE := hE.past hb
  have hG := hG.past hb
  have k1 := k1.past hb
  have hB := below_later hB hb
  clear hb
  go_wp2_with fail
  refine (is07_yes (N := 1) hD.toNatAt (by decide)).mono ?_
  rintro e w23 ⟨rfl, hb⟩
  have hA := hA.past hb
  have hC := hC.past hb
  have hD := hD.past hb
  have hE := hE.past hb
  have hG := hG.past hb
  have k1 := k1.past hb
  have hB := below_later hB hb
  clear hb
  go_wp2_with fail
  refine (is07_yes (N := 1) hE.toNatAt (by decide)).mono ?_
  rintro e w24 ⟨rfl, hb⟩
  have hA := hA.past hb
  have hC := hC.past hb
  have hD := hD.past hb
  have hE := hE.past hb
  have hG := hG.past hb
  have k1 := k1.past hb
  have hB := below_later hB hb
  clear hb
  go_wp2_with fail
  refine (sameNat_yes hG.toNatAt k1.toNatAt).mono ?_
  rintro e w25 ⟨rfl, hb⟩
  have hA := hA.past hb
  have hC := hC.past hb
  have hD := hD.past hb
  have hE := hE.past hb
  have hG := hG.past hb
  have k1 := k1.past hb
  have hB := below_later hB hb
  clear hb
  go_wp2
  go_ret
  exact ⟨rfl, hB⟩

end Go.Proofs.Ytdjhgalaianifaa
