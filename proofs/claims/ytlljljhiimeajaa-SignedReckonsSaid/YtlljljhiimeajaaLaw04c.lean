/- the laws of signed: SignedReckons. -/
import Derived.Test.YtlljljhiimeajaaLaw04a
import Derived.Test.YtlljljhiimeajaaReg2
set_option linter.unusedVariables false
set_option linter.unusedSimpArgs false
namespace Go.Proofs.Ytlljljhiimeajaa
open Go.RowKit

set_option maxRecDepth 100000 in
set_option maxHeartbeats 16000000 in
theorem signedReckons_any (b : Bool) (a : Option Addr) (n c : Nat) (l : List Nat) (b2 : Bool) (a2 : Option Addr) (n2 c2 : Nat) (l2 : List Nat) (w : World) (g1 : NatAt w a n c l) (g2 : NatAt w a2 n2 c2 l2) :
    Calls Try.prog 9 #[.agg #[.bool b, .slice a n c], .agg #[.bool b2, .slice a2 n2 c2]] w (RetVal w (.bool true)) := by
  have hc1 := Nat.le_trans g1.le g1.cle
  have hc2 := Nat.le_trans g2.le g2.cle
  by_cases hl1 : 30 < n
  · have t1 : decide ((30 : Int) < (n : Int)) = true := by simp; omega
    go_enter Try.func9, Try.ntmps9
    have hB := Below.refl w.heap.size w
    go_wp2_with fail
    obtain ⟨w1, hW, hz0, hb, q, f⟩ := box1g w (w.heap.size) (by omega) #[.bool b, .slice a n c] 42
    rw [hW]
    clear hW
    have hB := below_later hB hb
    clear hb
    have lb1 : w.heap.size < w1.heap.size := by omega
    have qb10 := q 0
    simp only [List.getElem?_toArray, List.getElem?_cons_zero, List.getElem?_cons_succ] at qb10
    have qb11 := q 1
    simp only [List.getElem?_toArray, List.getElem?_cons_zero, List.getElem?_cons_succ] at qb11
    clear q f
    obtain ⟨w2, hW, hz1, hb, q, f⟩ := box1g w1 (w.heap.size + 1) (by omega) #[.bool b2, .slice a2 n2 c2] 42
    rw [hW]
    clear hW
    have qb10 := (hb.cell (p := ⟨w.heap.size, 0, none⟩) lb1).trans qb10
    have qb11 := (hb.cell (p := ⟨w.heap.size, 1, none⟩) lb1).trans qb11
    have lb1 := Nat.lt_of_lt_of_le lb1 hb.size
    have hB := below_later hB hb
    clear hb
    have lb2 : w.heap.size + 1 < w2.heap.size := by omega
    have qb20 := q 0
    simp only [List.getElem?_toArray, List.getElem?_cons_zero, List.getElem?_cons_succ] at qb20
    have qb21 := q 1
    simp only [List.getElem?_toArray, List.getElem?_cons_zero, List.getElem?_cons_succ] at qb21
    clear q f
    clear hz0
    clear hz1
    with_reducible refine (long04_any _ _ _ _ _ hc1).mono ?_
    rintro e w3 ⟨rfl, hb⟩
    have qb10 := (hb.cell (p := ⟨w.heap.size, 0, none⟩) lb1).trans qb10
    have qb11 := (hb.cell (p := ⟨w.heap.size, 1, none⟩) lb1).trans qb11
    have lb1 := Nat.lt_of_lt_of_le lb1 hb.size
    have qb20 := (hb.cell (p := ⟨w.heap.size + 1, 0, none⟩) lb2).trans qb20
    have qb21 := (hb.cell (p := ⟨w.heap.size + 1, 1, none⟩) lb2).trans qb21
    have lb2 := Nat.lt_of_lt_of_le lb2 hb.size
    have hB := below_later hB hb
    clear hb
    go_wp2_with fail
    with_reducible refine (awake04 _).mono ?_
    rintro e w4 ⟨rfl, hb⟩
    have qb10 := (hb.cell (p := ⟨w.heap.size, 0, none⟩) lb1).trans qb10
    have qb11 := (hb.cell (p := ⟨w.heap.size, 1, none⟩) lb1).trans qb11
    have lb1 := Nat.lt_of_lt_of_le lb1 hb.size
    have qb20 := (hb.cell (p := ⟨w.heap.size + 1, 0, none⟩) lb2).trans qb20
    have qb21 := (hb.cell (p := ⟨w.heap.size + 1, 1, none⟩) lb2).trans qb21
    have lb2 := Nat.lt_of_lt_of_le lb2 hb.size
    have hB := below_later hB hb
    clear hb
    go_wp2
    go_ret
    exact ⟨rfl, hB⟩
  have t1 : decide ((30 : Int) < (n : Int)) = false := by simp; omega
  by_cases hl2 : 30 < n2
  · have t2 : decide ((30 : Int) < (n2 : Int)) = true := by simp; omega
    go_enter Try.func9, Try.ntmps9
    have hB := Below.refl w.heap.size w
    go_wp2_with fail
    obtain ⟨w1, hW, hz0, hb, q, f⟩ := box1g w (w.heap.size) (by omega) #[.bool b, .slice a n c] 42
    rw [hW]
    clear hW
    have hB := below_later hB hb
    clear hb
    have lb1 : w.heap.size < w1.heap.size := by omega
    have qb10 := q 0
    simp only [List.getElem?_toArray, List.getElem?_cons_zero, List.getElem?_cons_succ] at qb10
    have qb11 := q 1
    simp only [List.getElem?_toArray, List.getElem?_cons_zero, List.getElem?_cons_succ] at qb11
    clear q f
    obtain ⟨w2, hW, hz1, hb, q, f⟩ := box1g w1 (w.heap.size + 1) (by omega) #[.bool b2, .slice a2 n2 c2] 42
    rw [hW]
    clear hW
    have qb10 := (hb.cell (p := ⟨w.heap.size, 0, none⟩) lb1).trans qb10
    have qb11 := (hb.cell (p := ⟨w.heap.size, 1, none⟩) lb1).trans qb11
    have lb1 := Nat.lt_of_lt_of_le lb1 hb.size
    have hB := below_later hB hb
    clear hb
    have lb2 : w.heap.size + 1 < w2.heap.size := by omega
    have qb20 := q 0
    simp only [List.getElem?_toArray, List.getElem?_cons_zero, List.getElem?_cons_succ] at qb20
    have qb21 := q 1
    simp only [List.getElem?_toArray, List.getElem?_cons_zero, List.getElem?_cons_succ] at qb21
    clear q f
    clear hz0
    clear hz1
    with_reducible refine (long04_any _ _ _ _ _ hc1).mono ?_
    rintro e w3 ⟨rfl, hb⟩
    have qb10 := (hb.cell (p := ⟨w.heap.size, 0, none⟩) lb1).trans qb10
    have qb11 := (hb.cell (p := ⟨w.heap.size, 1, none⟩) lb1).trans qb11
    have lb1 := Nat.lt_of_lt_of_le lb1 hb.size
    have qb20 := (hb.cell (p := ⟨w.heap.size + 1, 0, none⟩) lb2).trans qb20
    have qb21 := (hb.cell (p := ⟨w.heap.size + 1, 1, none⟩) lb2).trans qb21
    have lb2 := Nat.lt_of_lt_of_le lb2 hb.size
    have hB := below_later hB hb
    clear hb
    go_wp2_with fail
    with_reducible refine (long04_any _ _ _ _ _ hc2).mono ?_
    rintro e w4 ⟨rfl, hb⟩
    have qb10 := (hb.cell (p := ⟨w.heap.size, 0, none⟩) lb1).trans qb10
    have qb11 := (hb.cell (p := ⟨w.heap.size, 1, none⟩) lb1).trans qb11
    have lb1 := Nat.lt_of_lt_of_le lb1 hb.size
    have qb20 := (hb.cell (p := ⟨w.heap.size + 1, 0, none⟩) lb2).trans qb20
    have qb21 := (hb.cell (p := ⟨w.heap.size + 1, 1, none⟩) lb2).trans qb21
    have lb2 := Nat.lt_of_lt_of_le lb2 hb.size
    have hB := below_later hB hb
    clear hb
    go_wp2_with fail
    with_reducible refine (awake04 _).mono ?_
    rintro e w5 ⟨rfl, hb⟩
    have qb10 := (hb.cell (p := ⟨w.heap.size, 0, none⟩) lb1).trans qb10
    have qb11 := (hb.cell (p := ⟨w.heap.size, 1, none⟩) lb1).trans qb11
    have lb1 := Nat.lt_of_lt_of_le lb1 hb.size
    have qb20 := (hb.cell (p := ⟨w.heap.size + 1, 0, none⟩) lb2).trans qb20
    have qb21 := (hb.cell (p := ⟨w.heap.size + 1, 1, none⟩) lb2).trans qb21
    have lb2 := Nat.lt_of_lt_of_le lb2 hb.size
    have hB := below_later hB hb
    clear hb
    go_wp2
    go_ret
    exact ⟨rfl, hB⟩
  have t2 : decide ((30 : Int) < (n2 : Int)) = false := by simp; omega
  go_enter Try.func9, Try.ntmps9
  have hB := Below.refl w.heap.size w
  go_wp2_with fail
  obtain ⟨w1, hW, hz0, hb, q, f⟩ := box1g w (w.heap.size) (by omega) #[.bool b, .slice a n c] 42
  rw [hW]
  clear hW
  have g1 := g1.past hb
  have g2 := g2.past hb
  have hB := below_later hB hb
  clear hb
  have lb1 : w.heap.size < w1.heap.size := by omega
  have qb10 := q 0
  simp only [List.getElem?_toArray, List.getElem?_cons_zero, List.getElem?_cons_succ] at qb10
  have qb11 := q 1
  simp only [List.getElem?_toArray, List.getElem?_cons_zero, List.getElem?_cons_succ] at qb11
  clear q f
  obtain ⟨w2, hW, hz1, hb, q, f⟩ := box1g w1 (w.heap.size + 1) (by omega) #[.bool b2, .slice a2 n2 c2] 42
  rw [hW]
  clear hW
  have g1 := g1.past hb
  have g2 := g2.past hb
  have qb10 := (hb.cell (p := ⟨w.heap.size, 0, none⟩) lb1).trans qb10
  have qb11 := (hb.cell (p := ⟨w.heap.size, 1, none⟩) lb1).trans qb11
  have lb1 := Nat.lt_of_lt_of_le lb1 hb.size
  have hB := below_later hB hb
  clear hb
  have lb2 : w.heap.size + 1 < w2.heap.size := by omega
  have qb20 := q 0
  simp only [List.getElem?_toArray, List.getElem?_cons_zero, List.getElem?_cons_succ] at qb20
  have qb21 := q 1
  simp only [List.getElem?_toArray, List.getElem?_cons_zero, List.getElem?_cons_succ] at qb21
  clear q f
  clear hz0
  clear hz1
  with_reducible refine (long04_any _ _ _ _ _ hc1).mono ?_
  rintro e w3 ⟨rfl, hb⟩
  have g1 := g1.past hb
  have g2 := g2.past hb
  have qb10 := (hb.cell (p := ⟨w.heap.size, 0, none⟩) lb1).trans qb10
  have qb11 := (hb.cell (p := ⟨w.heap.size, 1, none⟩) lb1).trans qb11
  have lb1 := Nat.lt_of_lt_of_le lb1 hb.size
  have qb20 := (hb.cell (p := ⟨w.heap.size + 1, 0, none⟩) lb2).trans qb20
  have qb21 := (hb.cell (p := ⟨w.heap.size + 1, 1, none⟩) lb2).trans qb21
  have lb2 := Nat.lt_of_lt_of_le lb2 hb.size
  have hB := below_later hB hb
  clear hb
  go_wp2_with fail
  with_reducible refine (long04_any _ _ _ _ _ hc2).mono ?_
  rintro e w4 ⟨rfl, hb⟩
  have g1 := g1.past hb
  have g2 := g2.past hb
  have qb10 := (hb.cell (p := ⟨w.heap.size, 0, none⟩) lb1).trans qb10
  have qb11 := (hb.cell (p := ⟨w.heap.size, 1, none⟩) lb1).trans qb11
  have lb1 := Nat.lt_of_lt_of_le lb1 hb.size
  have qb20 := (hb.cell (p := ⟨w.heap.size + 1, 0, none⟩) lb2).trans qb20
  have qb21 := (hb.cell (p := ⟨w.heap.size + 1, 1, none⟩) lb2).trans qb21
  have lb2 := Nat.lt_of_lt_of_le lb2 hb.size
  have hB := below_later hB hb
  clear hb
  go_wp2_with fail
  refine wp_region_inv (by kernel_rfl) rfl (by kernel_rfl) (fun A0 V0 dd aa ww => ∃ (blk : Nat → Nat) (y19 y20 y21 y22 y5 y6 : Value), aa = puts A0 [(19, y19), (20, y20), (21, y21), (22, y22), (5, y5), (6, y6)] ∧ Below V0.heap.size V0 ww ∧ Boxes [(4, 2), (5, 2)] V0.heap.size dd blk ww ∧ Shut (dd 0 = true → y19 = .agg #[.bool b, .slice a n c]) ∧ Shut (dd 1 = true → CopyV V0.heap.size (b) (l) y20 ww) ∧ Shut (dd 2 = true → y21 = .agg #[.bool b2, .slice a2 n2 c2]) ∧ Shut (dd 3 = true → CopyV V0.heap.size (b2) (l2) y22 ww) ∧ Shut (dd 4 = true → y5 = .pointer (some ⟨blk 4, 0, none⟩)) ∧ Shut (dd 5 = true → y6 = .pointer (some ⟨blk 5, 0, none⟩)) ∧ Shut (dd 6 = true → HoldsV dd 4 1 (blk 4) y20 ww) ∧ Shut (dd 7 = true → HoldsV dd 5 3 (blk 5) y22 ww) ∧ True) ?_ ?_ ?_
  · exact ⟨fun _ => 0, _, _, _, _, _, _, puts_self _ [19, 20, 21, 22, 5, 6], (Below.refl _ _).drew, Boxes.none _ _ _ _, fun h => (by cases h), fun h => (by cases h), fun h => (by cases h), fun h => (by cases h), fun h => (by cases h), fun h => (by cases h), fun h => (by cases h), fun h => (by cases h), trivial⟩
  · refine Steps.cons ?_ (Steps.cons ?_ (Steps.cons ?_ (Steps.cons ?_ (Steps.cons ?_ (Steps.cons ?_ (Steps.cons ?_ (Steps.cons ?_ (Steps.nil))))))))
    · intro dd aa ww K hun hn hI hK
      obtain ⟨blk, y19, y20, y21, y22, y5, y6, ea, hb, hX, f0, f1, f2, f3, f4, f5, f6, f7, _⟩ := hI
      try simp [Region.binds] at hn
      have e0 := (hb.cell (p := ⟨w.heap.size, 0, none⟩) lb1).trans qb10
      have e1 := (hb.cell (p := ⟨w.heap.size, 1, none⟩) lb1).trans qb11
      subst ea
      simp only [puts, Act.put, List.setIfInBounds_toArray, List.set_cons_zero, List.set_cons_succ]
      go_simp
      refine hK.out _ _ ?_
      exact ⟨blk, .agg #[.bool b, .slice a n c], y20, y21, y22, y5, y6, by simp only [puts, Act.put, List.setIfInBounds_toArray, List.set_cons_zero, List.set_cons_succ], hb, hX.same 0 rfl, fun _ => rfl, fun h => (f1.out (upd_of rfl h)), fun h => (f2.out (upd_of rfl h)), fun h => (f3.out (upd_of rfl h)), fun h => (f4.out (upd_of rfl h)), fun h => (f5.out (upd_of rfl h)), fun h => (f6.out (upd_of rfl h)).same 0, fun h => (f7.out (upd_of rfl h)).same 0, trivial⟩
    · intro dd aa ww K hun hn hI hK
      obtain ⟨blk, y19, y20, y21, y22, y5, y6, ea, hb, hX, f0, f1, f2, f3, f4, f5, f6, f7, _⟩ := hI
      try simp [Region.binds] at hn
      have ex := f0.out (by simp [hn])
      subst ex
      subst ea
      simp only [puts, Act.put, List.setIfInBounds_toArray, List.set_cons_zero, List.set_cons_succ]
      go_simp
      with_reducible refine (copyWhole_any _ _ _ _ l _ (g1.past hb) (by omega)).mono ?_
      rintro e w1 ⟨ahI, nhI, chI, rfl, hI, h1⟩
      refine hK.out _ _ ?_
      exact ⟨blk, .agg #[.bool b, .slice a n c], .agg #[.bool (b), .slice ahI nhI chI], y21, y22, y5, y6, by simp only [puts, Act.put, List.setIfInBounds_toArray, List.set_cons_zero, List.set_cons_succ], below_later hb h1, hX.past h1 1 rfl, fun h => rfl, fun _ => ⟨_, _, _, rfl, hI.mono hb.size⟩, fun h => (f2.out (upd_of rfl h)), fun h => (f3.out (upd_of rfl h)).past h1, fun h => (f4.out (upd_of rfl h)), fun h => (f5.out (upd_of rfl h)), fun h => absurd (HoldsV.vp (f6.out (upd_of rfl h))) (by rw [hun]; decide), fun h => (f7.out (upd_of rfl h)).past h1 1, trivial⟩
    · intro dd aa ww K hun hn hI hK
      obtain ⟨blk, y19, y20, y21, y22, y5, y6, ea, hb, hX, f0, f1, f2, f3, f4, f5, f6, f7, _⟩ := hI
      try simp [Region.binds] at hn
      have e0 := (hb.cell (p := ⟨w.heap.size + 1, 0, none⟩) lb2).trans qb20
      have e1 := (hb.cell (p := ⟨w.heap.size + 1, 1, none⟩) lb2).trans qb21
      subst ea
      simp only [puts, Act.put, List.setIfInBounds_toArray, List.set_cons_zero, List.set_cons_succ]
      go_simp
      refine hK.out _ _ ?_
      exact ⟨blk, y19, y20, .agg #[.bool b2, .slice a2 n2 c2], y22, y5, y6, by simp only [puts, Act.put, List.setIfInBounds_toArray, List.set_cons_zero, List.set_cons_succ], hb, hX.same 2 rfl, fun h => (f0.out (upd_of rfl h)), fun h => (f1.out (upd_of rfl h)), fun _ => rfl, fun h => (f3.out (upd_of rfl h)), fun h => (f4.out (upd_of rfl h)), fun h => (f5.out (upd_of rfl h)), fun h => (f6.out (upd_of rfl h)).same 2, fun h => (f7.out (upd_of rfl h)).same 2, trivial⟩
    · intro dd aa ww K hun hn hI hK
      obtain ⟨blk, y19, y20, y21, y22, y5, y6, ea, hb, hX, f0, f1, f2, f3, f4, f5, f6, f7, _⟩ := hI
      try simp [Region.binds] at hn
      have ex := f2.out (by simp [hn])
      subst ex
      subst ea
      simp only [puts, Act.put, List.setIfInBounds_toArray, List.set_cons_zero, List.set_cons_succ]
      go_simp
      with_reducible refine (copyWhole_any _ _ _ _ l2 _ (g2.past hb) (by omega)).mono ?_
      rintro e w1 ⟨ahY, nhY, chY, rfl, hY, h1⟩
      refine hK.out _ _ ?_
      exact ⟨blk, y19, y20, .agg #[.bool b2, .slice a2 n2 c2], .agg #[.bool (b2), .slice ahY nhY chY], y5, y6, by simp only [puts, Act.put, List.setIfInBounds_toArray, List.set_cons_zero, List.set_cons_succ], below_later hb h1, hX.past h1 3 rfl, fun h => (f0.out (upd_of rfl h)), fun h => (f1.out (upd_of rfl h)).past h1, fun h => rfl, fun _ => ⟨_, _, _, rfl, hY.mono hb.size⟩, fun h => (f4.out (upd_of rfl h)), fun h => (f5.out (upd_of rfl h)), fun h => (f6.out (upd_of rfl h)).past h1 3, fun h => absurd (HoldsV.vp (f7.out (upd_of rfl h))) (by rw [hun]; decide), trivial⟩
    · intro dd aa ww K hun hn hI hK
      obtain ⟨blk, y19, y20, y21, y22, y5, y6, ea, hb, hX, f0, f1, f2, f3, f4, f5, f6, f7, _⟩ := hI
      try simp [Region.binds] at hn
      subst ea
      simp only [puts, Act.put, List.setIfInBounds_toArray, List.set_cons_zero, List.set_cons_succ]
      go_simp
      refine hK.out _ _ ?_
      exact ⟨setB blk 4 ww.heap.size, y19, y20, y21, y22, .pointer (some ⟨ww.heap.size, 0, none⟩), y6, by simp only [puts, Act.put, List.setIfInBounds_toArray, List.set_cons_zero, List.set_cons_succ], below_alloc hb _, hX.new hb.size 4 #[.bool false, .slice none 0 0] _ rfl (by simp [notU_bool, notU_slice, notU_i64]), fun h => (f0.out (upd_of rfl h)), fun h => (f1.out (upd_of rfl h)).past ((Below.refl _ _).alloc (Nat.le_refl _) _), fun h => (f2.out (upd_of rfl h)), fun h => (f3.out (upd_of rfl h)).past ((Below.refl _ _).alloc (Nat.le_refl _) _), fun _ => rfl, fun h => (f5.out (upd_of rfl h)), fun h => absurd (HoldsV.up (f6.out (upd_of rfl h))) (by rw [hun]; decide), fun h => (f7.out (upd_of rfl h)).past ((Below.refl _ _).alloc (Nat.le_refl _) _) 4, trivial⟩
    · intro dd aa ww K hun hn hI hK
      obtain ⟨blk, y19, y20, y21, y22, y5, y6, ea, hb, hX, f0, f1, f2, f3, f4, f5, f6, f7, _⟩ := hI
      try simp [Region.binds] at hn
      subst ea
      simp only [puts, Act.put, List.setIfInBounds_toArray, List.set_cons_zero, List.set_cons_succ]
      go_simp
      refine hK.out _ _ ?_
      exact ⟨setB blk 5 ww.heap.size, y19, y20, y21, y22, y5, .pointer (some ⟨ww.heap.size, 0, none⟩), by simp only [puts, Act.put, List.setIfInBounds_toArray, List.set_cons_zero, List.set_cons_succ], below_alloc hb _, hX.new hb.size 5 #[.bool false, .slice none 0 0] _ rfl (by simp [notU_bool, notU_slice, notU_i64]), fun h => (f0.out (upd_of rfl h)), fun h => (f1.out (upd_of rfl h)).past ((Below.refl _ _).alloc (Nat.le_refl _) _), fun h => (f2.out (upd_of rfl h)), fun h => (f3.out (upd_of rfl h)).past ((Below.refl _ _).alloc (Nat.le_refl _) _), fun h => (f4.out (upd_of rfl h)), fun _ => rfl, fun h => (f6.out (upd_of rfl h)).past ((Below.refl _ _).alloc (Nat.le_refl _) _) 5, fun h => absurd (HoldsV.up (f7.out (upd_of rfl h))) (by rw [hun]; decide), trivial⟩
    · intro dd aa ww K hun hn hI hK
      obtain ⟨blk, y19, y20, y21, y22, y5, y6, ea, hb, hX, f0, f1, f2, f3, f4, f5, f6, f7, _⟩ := hI
      try simp [Region.binds] at hn
      have ex := f4.out (by simp [hn])
      subst ex
      obtain ⟨ahI, nhI, chI, ex, hI⟩ := f1.out (by simp [hn])
      subst ex
      have hd4 : dd 4 = true := by simp [hn]
      have hv1 : dd 1 = true := by simp [hn]
      obtain ⟨x1, x2, x3⟩ := hX.at_ (4, 2) (by simp) hd4
      obtain ⟨v0, v1, z0, z1, z2, z3, _, _⟩ := x3.two
      have hv : ∀ v ∈ ([.bool (b), .slice ahI nhI chI] : List Value), notU v := by simp [notU_bool, notU_slice, notU_i64]
      subst ea
      simp only [puts, Act.put, List.setIfInBounds_toArray, List.set_cons_zero, List.set_cons_succ]
      go_simp
      refine hK.out _ _ ?_
      exact ⟨blk, y19, .agg #[.bool (b), .slice ahI nhI chI], y21, y22, .pointer (some ⟨blk 4, 0, none⟩), y6, by simp only [puts, Act.put, List.setIfInBounds_toArray, List.set_cons_zero, List.set_cons_succ], hb.trans (below_setCells _ _ x1 [.bool (b), .slice ahI nhI chI] 0 _), (hX.sets [.bool (b), .slice ahI nhI chI] _ 0 _ hv).same 6 rfl, fun h => (f0.out (upd_of rfl h)), fun h => ((f1.out (upd_of rfl h)).sets [.bool (b), .slice ahI nhI chI] x3 (by simp) hv), fun h => (f2.out (upd_of rfl h)), fun h => ((f3.out (upd_of rfl h)).sets [.bool (b), .slice ahI nhI chI] x3 (by simp) hv), fun h => rfl, fun h => (f5.out (upd_of rfl h)), fun _ => (HoldsV.new hd4 hv1 x2 x3 [.bool (b), .slice ahI nhI chI] (by simp)).same 6, fun h => ((f7.out (upd_of rfl h)).sets (fun e => absurd (hX.ne (4, 2) (by simp) (5, 2) (by simp) hd4 (HoldsV.up (f7.out (upd_of rfl h))) e) (by decide)) [.bool (b), .slice ahI nhI chI]).same 6, trivial⟩
    · intro dd aa ww K hun hn hI hK
      obtain ⟨blk, y19, y20, y21, y22, y5, y6, ea, hb, hX, f0, f1, f2, f3, f4, f5, f6, f7, _⟩ := hI
      try simp [Region.binds] at hn
      have ex := f5.out (by simp [hn])
      subst ex
      obtain ⟨ahY, nhY, chY, ex, hY⟩ := f3.out (by simp [hn])
      subst ex
      have hd5 : dd 5 = true := by simp [hn]
      have hv3 : dd 3 = true := by simp [hn]
      obtain ⟨x1, x2, x3⟩ := hX.at_ (5, 2) (by simp) hd5
      obtain ⟨v0, v1, z0, z1, z2, z3, _, _⟩ := x3.two
      have hv : ∀ v ∈ ([.bool (b2), .slice ahY nhY chY] : List Value), notU v := by simp [notU_bool, notU_slice, notU_i64]
      subst ea
      simp only [puts, Act.put, List.setIfInBounds_toArray, List.set_cons_zero, List.set_cons_succ]
      go_simp
      refine hK.out _ _ ?_
      exact ⟨blk, y19, y20, y21, .agg #[.bool (b2), .slice ahY nhY chY], y5, .pointer (some ⟨blk 5, 0, none⟩), by simp only [puts, Act.put, List.setIfInBounds_toArray, List.set_cons_zero, List.set_cons_succ], hb.trans (below_setCells _ _ x1 [.bool (b2), .slice ahY nhY chY] 0 _), (hX.sets [.bool (b2), .slice ahY nhY chY] _ 0 _ hv).same 7 rfl, fun h => (f0.out (upd_of rfl h)), fun h => ((f1.out (upd_of rfl h)).sets [.bool (b2), .slice ahY nhY chY] x3 (by simp) hv), fun h => (f2.out (upd_of rfl h)), fun h => ((f3.out (upd_of rfl h)).sets [.bool (b2), .slice ahY nhY chY] x3 (by simp) hv), fun h => (f4.out (upd_of rfl h)), fun h => rfl, fun h => ((f6.out (upd_of rfl h)).sets (fun e => absurd (hX.ne (5, 2) (by simp) (4, 2) (by simp) hd5 (HoldsV.up (f6.out (upd_of rfl h))) e) (by decide)) [.bool (b2), .slice ahY nhY chY]).same 7, fun _ => (HoldsV.new hd5 hv3 x2 x3 [.bool (b2), .slice ahY nhY chY] (by simp)).same 7, trivial⟩
  intro dd aa w5 hd hI
  obtain ⟨blk, y19, y20, y21, y22, y5, y6, ea, hb, hX, f0, f1, f2, f3, f4, f5, f6, f7, _⟩ := hI
  have ex := f0.out (hd 0 (by simp))
  subst ex
  obtain ⟨ahI, nhI, chI, ex, hI⟩ := f1.out (hd 1 (by simp))
  subst ex
  have ex := f2.out (hd 2 (by simp))
  subst ex
  obtain ⟨ahY, nhY, chY, ex, hY⟩ := f3.out (hd 3 (by simp))
  subst ex
  have ex := f4.out (hd 4 (by simp))
  subst ex
  have ex := f5.out (hd 5 (by simp))
  subst ex
  obtain ⟨vs6, e, h6⟩ := f6.out (hd 6 (by simp))
  cases e
  obtain ⟨vs7, e, h7⟩ := f7.out (hd 7 (by simp))
  cases e
  have lb3 := h6.lt
  have qb30 := h6.at_ 0 (by simp)
  simp only [List.getElem?_cons_zero, List.getElem?_cons_succ] at qb30
  have qb31 := h6.at_ 1 (by simp)
  simp only [List.getElem?_cons_zero, List.getElem?_cons_succ] at qb31
  generalize blk 4 = Bb3 at *
  have lb4 := h7.lt
  have qb40 := h7.at_ 0 (by simp)
  simp only [List.getElem?_cons_zero, List.getElem?_cons_succ] at qb40
  have qb41 := h7.at_ 1 (by simp)
  simp only [List.getElem?_cons_zero, List.getElem?_cons_succ] at qb41
  generalize blk 5 = Bb4 at *
  subst ea
  simp only [puts, Act.put, List.setIfInBounds_toArray, List.set_cons_zero, List.set_cons_succ]
  have g1 := g1.past hb
  have g2 := g2.past hb
  have qb10 := (hb.cell (p := ⟨w.heap.size, 0, none⟩) lb1).trans qb10
  have qb11 := (hb.cell (p := ⟨w.heap.size, 1, none⟩) lb1).trans qb11
  have lb1 := Nat.lt_of_lt_of_le lb1 hb.size
  have qb20 := (hb.cell (p := ⟨w.heap.size + 1, 0, none⟩) lb2).trans qb20
  have qb21 := (hb.cell (p := ⟨w.heap.size + 1, 1, none⟩) lb2).trans qb21
  have lb2 := Nat.lt_of_lt_of_le lb2 hb.size
  have hB := below_later hB hb
  clear hX
  clear hb hd
  have bhI : nhI ≤ n := by have h1 := hI.len; have h2 := g1.len; omega
  have bhY : nhY ≤ n2 := by have h1 := hY.len; have h2 := g2.len; omega
  obtain ⟨x, hx⟩ : ∃ x, sg b (val l) = x := ⟨_, rfl⟩
  obtain ⟨y, hy⟩ : ∃ y, sg b2 (val l2) = y := ⟨_, rfl⟩
  have HX := Lib.hid hx
  have HY := Lib.hid hy
  clear hx hy
  have hZ := Below.refl w5.heap.size w5
  have zB := hB
  have zg1 := g1
  have zg2 := g2
  have zhI := hI.toNatAt
  have zhY := hY.toNatAt
  go_wp2_with fail
  refine wp_region_inv (by kernel_rfl) rfl (by kernel_rfl) (fun A0 V0 dd aa ww => ∃ (blk : Nat → Nat) (y23 y24 y25 y26 y27 y28 y29 y30 y31 y32 y33 y7 y8 y9 y10 : Value), aa = puts A0 [(23, y23), (24, y24), (25, y25), (26, y26), (27, y27), (28, y28), (29, y29), (30, y30), (31, y31), (32, y32), (33, y33), (7, y7), (8, y8), (9, y9), (10, y10)] ∧ Below V0.heap.size V0 ww ∧ Boxes [(11, 2), (12, 2), (13, 2), (14, 2)] V0.heap.size dd blk ww ∧ Shut (dd 0 = true → y23 = .agg #[.bool (b), .slice ahI nhI chI]) ∧ Shut (dd 1 = true → y24 = .agg #[.bool (b2), .slice ahY nhY chY]) ∧ Shut (dd 2 = true → CopyV V0.heap.size (neg (x + y)) (digs (x + y).natAbs) y25 ww) ∧ Shut (dd 3 = true → y26 = .agg #[.bool (b), .slice ahI nhI chI]) ∧ Shut (dd 4 = true → y27 = .agg #[.bool (b2), .slice ahY nhY chY]) ∧ Shut (dd 5 = true → CopyV V0.heap.size (neg (x - y)) (digs (x - y).natAbs) y28 ww) ∧ Shut (dd 6 = true → y29 = .agg #[.bool (b), .slice ahI nhI chI]) ∧ Shut (dd 7 = true → y30 = .agg #[.bool (b2), .slice ahY nhY chY]) ∧ Shut (dd 8 = true → CopyV V0.heap.size (neg (x * y)) (digs (x * y).natAbs) y31 ww) ∧ Shut (dd 9 = true → y32 = .agg #[.bool (b), .slice ahI nhI chI]) ∧ Shut (dd 10 = true → CopyV V0.heap.size (neg (-x)) (digs (-x).natAbs) y33 ww) ∧ Shut (dd 11 = true → y7 = .pointer (some ⟨blk 11, 0, none⟩)) ∧ Shut (dd 12 = true → y8 = .pointer (some ⟨blk 12, 0, none⟩)) ∧ Shut (dd 13 = true → y9 = .pointer (some ⟨blk 13, 0, none⟩)) ∧ Shut (dd 14 = true → y10 = .pointer (some ⟨blk 14, 0, none⟩)) ∧ Shut (dd 15 = true → HoldsV dd 11 2 (blk 11) y25 ww) ∧ Shut (dd 16 = true → HoldsV dd 12 5 (blk 12) y28 ww) ∧ Shut (dd 17 = true → HoldsV dd 13 8 (blk 13) y31 ww) ∧ Shut (dd 18 = true → HoldsV dd 14 10 (blk 14) y33 ww) ∧ True) ?_ ?_ ?_
  · exact ⟨fun _ => 0, _, _, _, _, _, _, _, _, _, _, _, _, _, _, _, puts_self _ [23, 24, 25, 26, 27, 28, 29, 30, 31, 32, 33, 7, 8, 9, 10], (Below.refl _ _).drew, Boxes.none _ _ _ _, fun h => (by cases h), fun h => (by cases h), fun h => (by cases h), fun h => (by cases h), fun h => (by cases h), fun h => (by cases h), fun h => (by cases h), fun h => (by cases h), fun h => (by cases h), fun h => (by cases h), fun h => (by cases h), fun h => (by cases h), fun h => (by cases h), fun h => (by cases h), fun h => (by cases h), fun h => (by cases h), fun h => (by cases h), fun h => (by cases h), fun h => (by cases h), trivial⟩
  · refine Steps.cons ?_ (Steps.cons ?_ (Steps.cons ?_ (Steps.cons ?_ (Steps.cons ?_ (Steps.cons ?_ (Steps.cons ?_ (Steps.cons ?_ (Steps.cons ?_ (Steps.cons ?_ (Steps.cons ?_ (Steps.cons ?_ (Steps.cons ?_ (Steps.cons ?_ (Steps.cons ?_ (Steps.cons ?_ (Steps.cons ?_ (Steps.cons ?_ (Steps.cons ?_ (Steps.nil)))))))))))))))))))
    · intro dd aa ww K hun hn hI hK
      obtain ⟨blk, y23, y24, y25, y26, y27, y28, y29, y30, y31, y32, y33, y7, y8, y9, y10, ea, hb, hX, f0, f1, f2, f3, f4, f5, f6, f7, f8, f9, f10, f11, f12, f13, f14, f15, f16, f17, f18, _⟩ := hI
      try simp [Region.binds] at hn
      have e0 := (hb.cell (p := ⟨Bb3, 0, none⟩) lb3).trans qb30
      have e1 := (hb.cell (p := ⟨Bb3, 1, none⟩) lb3).trans qb31
      subst ea
      simp only [puts, Act.put, List.setIfInBounds_toArray, List.set_cons_zero, List.set_cons_succ]
      go_simp
      refine hK.out _ _ ?_
      exact ⟨blk, .agg #[.bool (b), .slice ahI nhI chI], y24, y25, y26, y27, y28, y29, y30, y31, y32, y33, y7, y8, y9, y10, by simp only [puts, Act.put, List.setIfInBounds_toArray, List.set_cons_zero, List.set_cons_succ], hb, hX.same 0 rfl, fun _ => rfl, fun h => (f1.out (upd_of rfl h)), fun h => (f2.out (upd_of rfl h)), fun h => (f3.out (upd_of rfl h)), fun h => (f4.out (upd_of rfl h)), fun h => (f5.out (upd_of rfl h)), fun h => (f6.out (upd_of rfl h)), fun h => (f7.out (upd_of rfl h)), fun h => (f8.out (upd_of rfl h)), fun h => (f9.out (upd_of rfl h)), fun h => (f10.out (upd_of rfl h)), fun h => (f11.out (upd_of rfl h)), fun h => (f12.out (upd_of rfl h)), fun h => (f13.out (upd_of rfl h)), fun h => (f14.out (upd_of rfl h)), fun h => (f15.out (upd_of rfl h)).same 0, fun h => (f16.out (upd_of rfl h)).same 0, fun h => (f17.out (upd_of rfl h)).same 0, fun h => (f18.out (upd_of rfl h)).same 0, trivial⟩
    · intro dd aa ww K hun hn hI hK
      obtain ⟨blk, y23, y24, y25, y26, y27, y28, y29, y30, y31, y32, y33, y7, y8, y9, y10, ea, hb, hX, f0, f1, f2, f3, f4, f5, f6, f7, f8, f9, f10, f11, f12, f13, f14, f15, f16, f17, f18, _⟩ := hI
      try simp [Region.binds] at hn
      have e0 := (hb.cell (p := ⟨Bb4, 0, none⟩) lb4).trans qb40
      have e1 := (hb.cell (p := ⟨Bb4, 1, none⟩) lb4).trans qb41
      subst ea
      simp only [puts, Act.put, List.setIfInBounds_toArray, List.set_cons_zero, List.set_cons_succ]
      go_simp
      refine hK.out _ _ ?_
      exact ⟨blk, y23, .agg #[.bool (b2), .slice ahY nhY chY], y25, y26, y27, y28, y29, y30, y31, y32, y33, y7, y8, y9, y10, by simp only [puts, Act.put, List.setIfInBounds_toArray, List.set_cons_zero, List.set_cons_succ], hb, hX.same 1 rfl, fun h => (f0.out (upd_of rfl h)), fun _ => rfl, fun h => (f2.out (upd_of rfl h)), fun h => (f3.out (upd_of rfl h)), fun h => (f4.out (upd_of rfl h)), fun h => (f5.out (upd_of rfl h)), fun h => (f6.out (upd_of rfl h)), fun h => (f7.out (upd_of rfl h)), fun h => (f8.out (upd_of rfl h)), fun h => (f9.out (upd_of rfl h)), fun h => (f10.out (upd_of rfl h)), fun h => (f11.out (upd_of rfl h)), fun h => (f12.out (upd_of rfl h)), fun h => (f13.out (upd_of rfl h)), fun h => (f14.out (upd_of rfl h)), fun h => (f15.out (upd_of rfl h)).same 1, fun h => (f16.out (upd_of rfl h)).same 1, fun h => (f17.out (upd_of rfl h)).same 1, fun h => (f18.out (upd_of rfl h)).same 1, trivial⟩
    · intro dd aa ww K hun hn hI hK
      obtain ⟨blk, y23, y24, y25, y26, y27, y28, y29, y30, y31, y32, y33, y7, y8, y9, y10, ea, hb, hX, f0, f1, f2, f3, f4, f5, f6, f7, f8, f9, f10, f11, f12, f13, f14, f15, f16, f17, f18, _⟩ := hI
      try simp [Region.binds] at hn
      have ex := f0.out (by simp [hn])
      subst ex
      have ex := f1.out (by simp [hn])
      subst ex
      subst ea
      simp only [puts, Act.put, List.setIfInBounds_toArray, List.set_cons_zero, List.set_cons_succ]
      go_simp
      with_reducible refine (sadd_any _ _ _ _ l _ _ _ _ l2 _ (hI.past hb).toNatAt (hY.past hb).toNatAt (by omega) (by omega)).mono ?_
      rintro e w1 ⟨ahS1, nhS1, chS1, rfl, hS1, h1⟩
      rw [HX.out, HY.out] at hS1 ⊢
      refine hK.out _ _ ?_
      exact ⟨blk, .agg #[.bool (b), .slice ahI nhI chI], .agg #[.bool (b2), .slice ahY nhY chY], .agg #[.bool (neg (x + y)), .slice ahS1 nhS1 chS1], y26, y27, y28, y29, y30, y31, y32, y33, y7, y8, y9, y10, by simp only [puts, Act.put, List.setIfInBounds_toArray, List.set_cons_zero, List.set_cons_succ], below_later hb h1, hX.past h1 2 rfl, fun h => rfl, fun h => rfl, fun _ => ⟨_, _, _, rfl, hS1.mono hb.size⟩, fun h => (f3.out (upd_of rfl h)), fun h => (f4.out (upd_of rfl h)), fun h => (f5.out (upd_of rfl h)).past h1, fun h => (f6.out (upd_of rfl h)), fun h => (f7.out (upd_of rfl h)), fun h => (f8.out (upd_of rfl h)).past h1, fun h => (f9.out (upd_of rfl h)), fun h => (f10.out (upd_of rfl h)).past h1, fun h => (f11.out (upd_of rfl h)), fun h => (f12.out (upd_of rfl h)), fun h => (f13.out (upd_of rfl h)), fun h => (f14.out (upd_of rfl h)), fun h => absurd (HoldsV.vp (f15.out (upd_of rfl h))) (by rw [hun]; decide), fun h => (f16.out (upd_of rfl h)).past h1 2, fun h => (f17.out (upd_of rfl h)).past h1 2, fun h => (f18.out (upd_of rfl h)).past h1 2, trivial⟩
    · intro dd aa ww K hun hn hI hK
      obtain ⟨blk, y23, y24, y25, y26, y27, y28, y29, y30, y31, y32, y33, y7, y8, y9, y10, ea, hb, hX, f0, f1, f2, f3, f4, f5, f6, f7, f8, f9, f10, f11, f12, f13, f14, f15, f16, f17, f18, _⟩ := hI
      try simp [Region.binds] at hn
      have e0 := (hb.cell (p := ⟨Bb3, 0, none⟩) lb3).trans qb30
      have e1 := (hb.cell (p := ⟨Bb3, 1, none⟩) lb3).trans qb31
      subst ea
      simp only [puts, Act.put, List.setIfInBounds_toArray, List.set_cons_zero, List.set_cons_succ]
      go_simp
      refine hK.out _ _ ?_
      exact ⟨blk, y23, y24, y25, .agg #[.bool (b), .slice ahI nhI chI], y27, y28, y29, y30, y31, y32, y33, y7, y8, y9, y10, by simp only [puts, Act.put, List.setIfInBounds_toArray, List.set_cons_zero, List.set_cons_succ], hb, hX.same 3 rfl, fun h => (f0.out (upd_of rfl h)), fun h => (f1.out (upd_of rfl h)), fun h => (f2.out (upd_of rfl h)), fun _ => rfl, fun h => (f4.out (upd_of rfl h)), fun h => (f5.out (upd_of rfl h)), fun h => (f6.out (upd_of rfl h)), fun h => (f7.out (upd_of rfl h)), fun h => (f8.out (upd_of rfl h)), fun h => (f9.out (upd_of rfl h)), fun h => (f10.out (upd_of rfl h)), fun h => (f11.out (upd_of rfl h)), fun h => (f12.out (upd_of rfl h)), fun h => (f13.out (upd_of rfl h)), fun h => (f14.out (upd_of rfl h)), fun h => (f15.out (upd_of rfl h)).same 3, fun h => (f16.out (upd_of rfl h)).same 3, fun h => (f17.out (upd_of rfl h)).same 3, fun h => (f18.out (upd_of rfl h)).same 3, trivial⟩
    · intro dd aa ww K hun hn hI hK
      obtain ⟨blk, y23, y24, y25, y26, y27, y28, y29, y30, y31, y32, y33, y7, y8, y9, y10, ea, hb, hX, f0, f1, f2, f3, f4, f5, f6, f7, f8, f9, f10, f11, f12, f13, f14, f15, f16, f17, f18, _⟩ := hI
      try simp [Region.binds] at hn
      have e0 := (hb.cell (p := ⟨Bb4, 0, none⟩) lb4).trans qb40
      have e1 := (hb.cell (p := ⟨Bb4, 1, none⟩) lb4).trans qb41
      subst ea
      simp only [puts, Act.put, List.setIfInBounds_toArray, List.set_cons_zero, List.set_cons_succ]
      go_simp
      refine hK.out _ _ ?_
      exact ⟨blk, y23, y24, y25, y26, .agg #[.bool (b2), .slice ahY nhY chY], y28, y29, y30, y31, y32, y33, y7, y8, y9, y10, by simp only [puts, Act.put, List.setIfInBounds_toArray, List.set_cons_zero, List.set_cons_succ], hb, hX.same 4 rfl, fun h => (f0.out (upd_of rfl h)), fun h => (f1.out (upd_of rfl h)), fun h => (f2.out (upd_of rfl h)), fun h => (f3.out (upd_of rfl h)), fun _ => rfl, fun h => (f5.out (upd_of rfl h)), fun h => (f6.out (upd_of rfl h)), fun h => (f7.out (upd_of rfl h)), fun h => (f8.out (upd_of rfl h)), fun h => (f9.out (upd_of rfl h)), fun h => (f10.out (upd_of rfl h)), fun h => (f11.out (upd_of rfl h)), fun h => (f12.out (upd_of rfl h)), fun h => (f13.out (upd_of rfl h)), fun h => (f14.out (upd_of rfl h)), fun h => (f15.out (upd_of rfl h)).same 4, fun h => (f16.out (upd_of rfl h)).same 4, fun h => (f17.out (upd_of rfl h)).same 4, fun h => (f18.out (upd_of rfl h)).same 4, trivial⟩
    · intro dd aa ww K hun hn hI hK
      obtain ⟨blk, y23, y24, y25, y26, y27, y28, y29, y30, y31, y32, y33, y7, y8, y9, y10, ea, hb, hX, f0, f1, f2, f3, f4, f5, f6, f7, f8, f9, f10, f11, f12, f13, f14, f15, f16, f17, f18, _⟩ := hI
      try simp [Region.binds] at hn
      have ex := f3.out (by simp [hn])
      subst ex
      have ex := f4.out (by simp [hn])
      subst ex
      subst ea
      simp only [puts, Act.put, List.setIfInBounds_toArray, List.set_cons_zero, List.set_cons_succ]
      go_simp
      with_reducible refine (ssub_any _ _ _ _ l _ _ _ _ l2 _ (hI.past hb).toNatAt (hY.past hb).toNatAt (by omega) (by omega)).mono ?_
      rintro e w1 ⟨ahD, nhD, chD, rfl, hD, h1⟩
      rw [HX.out, HY.out] at hD ⊢
      refine hK.out _ _ ?_
      exact ⟨blk, y23, y24, y25, .agg #[.bool (b), .slice ahI nhI chI], .agg #[.bool (b2), .slice ahY nhY chY], .agg #[.bool (neg (x - y)), .slice ahD nhD chD], y29, y30, y31, y32, y33, y7, y8, y9, y10, by simp only [puts, Act.put, List.setIfInBounds_toArray, List.set_cons_zero, List.set_cons_succ], below_later hb h1, hX.past h1 5 rfl, fun h => (f0.out (upd_of rfl h)), fun h => (f1.out (upd_of rfl h)), fun h => (f2.out (upd_of rfl h)).past h1, fun h => rfl, fun h => rfl, fun _ => ⟨_, _, _, rfl, hD.mono hb.size⟩, fun h => (f6.out (upd_of rfl h)), fun h => (f7.out (upd_of rfl h)), fun h => (f8.out (upd_of rfl h)).past h1, fun h => (f9.out (upd_of rfl h)), fun h => (f10.out (upd_of rfl h)).past h1, fun h => (f11.out (upd_of rfl h)), fun h => (f12.out (upd_of rfl h)), fun h => (f13.out (upd_of rfl h)), fun h => (f14.out (upd_of rfl h)), fun h => (f15.out (upd_of rfl h)).past h1 5, fun h => absurd (HoldsV.vp (f16.out (upd_of rfl h))) (by rw [hun]; decide), fun h => (f17.out (upd_of rfl h)).past h1 5, fun h => (f18.out (upd_of rfl h)).past h1 5, trivial⟩
    · intro dd aa ww K hun hn hI hK
      obtain ⟨blk, y23, y24, y25, y26, y27, y28, y29, y30, y31, y32, y33, y7, y8, y9, y10, ea, hb, hX, f0, f1, f2, f3, f4, f5, f6, f7, f8, f9, f10, f11, f12, f13, f14, f15, f16, f17, f18, _⟩ := hI
      try simp [Region.binds] at hn
      have e0 := (hb.cell (p := ⟨Bb3, 0, none⟩) lb3).trans qb30
      have e1 := (hb.cell (p := ⟨Bb3, 1, none⟩) lb3).trans qb31
      subst ea
      simp only [puts, Act.put, List.setIfInBounds_toArray, List.set_cons_zero, List.set_cons_succ]
      go_simp
      refine hK.out _ _ ?_
      exact ⟨blk, y23, y24, y25, y26, y27, y28, .agg #[.bool (b), .slice ahI nhI chI], y30, y31, y32, y33, y7, y8, y9, y10, by simp only [puts, Act.put, List.setIfInBounds_toArray, List.set_cons_zero, List.set_cons_succ], hb, hX.same 6 rfl, fun h => (f0.out (upd_of rfl h)), fun h => (f1.out (upd_of rfl h)), fun h => (f2.out (upd_of rfl h)), fun h => (f3.out (upd_of rfl h)), fun h => (f4.out (upd_of rfl h)), fun h => (f5.out (upd_of rfl h)), fun _ => rfl, fun h => (f7.out (upd_of rfl h)), fun h => (f8.out (upd_of rfl h)), fun h => (f9.out (upd_of rfl h)), fun h => (f10.out (upd_of rfl h)), fun h => (f11.out (upd_of rfl h)), fun h => (f12.out (upd_of rfl h)), fun h => (f13.out (upd_of rfl h)), fun h => (f14.out (upd_of rfl h)), fun h => (f15.out (upd_of rfl h)).same 6, fun h => (f16.out (upd_of rfl h)).same 6, fun h => (f17.out (upd_of rfl h)).same 6, fun h => (f18.out (upd_of rfl h)).same 6, trivial⟩
    · intro dd aa ww K hun hn hI hK
      obtain ⟨blk, y23, y24, y25, y26, y27, y28, y29, y30, y31, y32, y33, y7, y8, y9, y10, ea, hb, hX, f0, f1, f2, f3, f4, f5, f6, f7, f8, f9, f10, f11, f12, f13, f14, f15, f16, f17, f18, _⟩ := hI
      try simp [Region.binds] at hn
      have e0 := (hb.cell (p := ⟨Bb4, 0, none⟩) lb4).trans qb40
      have e1 := (hb.cell (p := ⟨Bb4, 1, none⟩) lb4).trans qb41
      subst ea
      simp only [puts, Act.put, List.setIfInBounds_toArray, List.set_cons_zero, List.set_cons_succ]
      go_simp
      refine hK.out _ _ ?_
      exact ⟨blk, y23, y24, y25, y26, y27, y28, y29, .agg #[.bool (b2), .slice ahY nhY chY], y31, y32, y33, y7, y8, y9, y10, by simp only [puts, Act.put, List.setIfInBounds_toArray, List.set_cons_zero, List.set_cons_succ], hb, hX.same 7 rfl, fun h => (f0.out (upd_of rfl h)), fun h => (f1.out (upd_of rfl h)), fun h => (f2.out (upd_of rfl h)), fun h => (f3.out (upd_of rfl h)), fun h => (f4.out (upd_of rfl h)), fun h => (f5.out (upd_of rfl h)), fun h => (f6.out (upd_of rfl h)), fun _ => rfl, fun h => (f8.out (upd_of rfl h)), fun h => (f9.out (upd_of rfl h)), fun h => (f10.out (upd_of rfl h)), fun h => (f11.out (upd_of rfl h)), fun h => (f12.out (upd_of rfl h)), fun h => (f13.out (upd_of rfl h)), fun h => (f14.out (upd_of rfl h)), fun h => (f15.out (upd_of rfl h)).same 7, fun h => (f16.out (upd_of rfl h)).same 7, fun h => (f17.out (upd_of rfl h)).same 7, fun h => (f18.out (upd_of rfl h)).same 7, trivial⟩
    · intro dd aa ww K hun hn hI hK
      obtain ⟨blk, y23, y24, y25, y26, y27, y28, y29, y30, y31, y32, y33, y7, y8, y9, y10, ea, hb, hX, f0, f1, f2, f3, f4, f5, f6, f7, f8, f9, f10, f11, f12, f13, f14, f15, f16, f17, f18, _⟩ := hI
      try simp [Region.binds] at hn
      have ex := f6.out (by simp [hn])
      subst ex
      have ex := f7.out (by simp [hn])
      subst ex
      subst ea
      simp only [puts, Act.put, List.setIfInBounds_toArray, List.set_cons_zero, List.set_cons_succ]
      go_simp
      with_reducible refine (smul_any _ _ _ _ l _ _ _ _ l2 _ (hI.past hb).toNatAt (hY.past hb).toNatAt (by omega) (by omega)).mono ?_
      rintro e w1 ⟨ahP, nhP, chP, rfl, hP, h1⟩
      rw [HX.out, HY.out] at hP ⊢
      refine hK.out _ _ ?_
      exact ⟨blk, y23, y24, y25, y26, y27, y28, .agg #[.bool (b), .slice ahI nhI chI], .agg #[.bool (b2), .slice ahY nhY chY], .agg #[.bool (neg (x * y)), .slice ahP nhP chP], y32, y33, y7, y8, y9, y10, by simp only [puts, Act.put, List.setIfInBounds_toArray, List.set_cons_zero, List.set_cons_succ], below_later hb h1, hX.past h1 8 rfl, fun h => (f0.out (upd_of rfl h)), fun h => (f1.out (upd_of rfl h)), fun h => (f2.out (upd_of rfl h)).past h1, fun h => (f3.out (upd_of rfl h)), fun h => (f4.out (upd_of rfl h)), fun h => (f5.out (upd_of rfl h)).past h1, fun h => rfl, fun h => rfl, fun _ => ⟨_, _, _, rfl, hP.mono hb.size⟩, fun h => (f9.out (upd_of rfl h)), fun h => (f10.out (upd_of rfl h)).past h1, fun h => (f11.out (upd_of rfl h)), fun h => (f12.out (upd_of rfl h)), fun h => (f13.out (upd_of rfl h)), fun h => (f14.out (upd_of rfl h)), fun h => (f15.out (upd_of rfl h)).past h1 8, fun h => (f16.out (upd_of rfl h)).past h1 8, fun h => absurd (HoldsV.vp (f17.out (upd_of rfl h))) (by rw [hun]; decide), fun h => (f18.out (upd_of rfl h)).past h1 8, trivial⟩
    · intro dd aa ww K hun hn hI hK
      obtain ⟨blk, y23, y24, y25, y26, y27, y28, y29, y30, y31, y32, y33, y7, y8, y9, y10, ea, hb, hX, f0, f1, f2, f3, f4, f5, f6, f7, f8, f9, f10, f11, f12, f13, f14, f15, f16, f17, f18, _⟩ := hI
      try simp [Region.binds] at hn
      have e0 := (hb.cell (p := ⟨Bb3, 0, none⟩) lb3).trans qb30
      have e1 := (hb.cell (p := ⟨Bb3, 1, none⟩) lb3).trans qb31
      subst ea
      simp only [puts, Act.put, List.setIfInBounds_toArray, List.set_cons_zero, List.set_cons_succ]
      go_simp
      refine hK.out _ _ ?_
      exact ⟨blk, y23, y24, y25, y26, y27, y28, y29, y30, y31, .agg #[.bool (b), .slice ahI nhI chI], y33, y7, y8, y9, y10, by simp only [puts, Act.put, List.setIfInBounds_toArray, List.set_cons_zero, List.set_cons_succ], hb, hX.same 9 rfl, fun h => (f0.out (upd_of rfl h)), fun h => (f1.out (upd_of rfl h)), fun h => (f2.out (upd_of rfl h)), fun h => (f3.out (upd_of rfl h)), fun h => (f4.out (upd_of rfl h)), fun h => (f5.out (upd_of rfl h)), fun h => (f6.out (upd_of rfl h)), fun h => (f7.out (upd_of rfl h)), fun h => (f8.out (upd_of rfl h)), fun _ => rfl, fun h => (f10.out (upd_of rfl h)), fun h => (f11.out (upd_of rfl h)), fun h => (f12.out (upd_of rfl h)), fun h => (f13.out (upd_of rfl h)), fun h => (f14.out (upd_of rfl h)), fun h => (f15.out (upd_of rfl h)).same 9, fun h => (f16.out (upd_of rfl h)).same 9, fun h => (f17.out (upd_of rfl h)).same 9, fun h => (f18.out (upd_of rfl h)).same 9, trivial⟩
    · intro dd aa ww K hun hn hI hK
      obtain ⟨blk, y23, y24, y25, y26, y27, y28, y29, y30, y31, y32, y33, y7, y8, y9, y10, ea, hb, hX, f0, f1, f2, f3, f4, f5, f6, f7, f8, f9, f10, f11, f12, f13, f14, f15, f16, f17, f18, _⟩ := hI
      try simp [Region.binds] at hn
      have ex := f9.out (by simp [hn])
      subst ex
      subst ea
      simp only [puts, Act.put, List.setIfInBounds_toArray, List.set_cons_zero, List.set_cons_succ]
      go_simp
      with_reducible refine (sneg_any _ _ _ _ l _ (hI.past hb).toNatAt (by omega)).mono ?_
      rintro e w1 ⟨ahN, nhN, chN, rfl, hN, h1⟩
      rw [HX.out] at hN ⊢
      refine hK.out _ _ ?_
      exact ⟨blk, y23, y24, y25, y26, y27, y28, y29, y30, y31, .agg #[.bool (b), .slice ahI nhI chI], .agg #[.bool (neg (-x)), .slice ahN nhN chN], y7, y8, y9, y10, by simp only [puts, Act.put, List.setIfInBounds_toArray, List.set_cons_zero, List.set_cons_succ], below_later hb h1, hX.past h1 10 rfl, fun h => (f0.out (upd_of rfl h)), fun h => (f1.out (upd_of rfl h)), fun h => (f2.out (upd_of rfl h)).past h1, fun h => (f3.out (upd_of rfl h)), fun h => (f4.out (upd_of rfl h)), fun h => (f5.out (upd_of rfl h)).past h1, fun h => (f6.out (upd_of rfl h)), fun h => (f7.out (upd_of rfl h)), fun h => (f8.out (upd_of rfl h)).past h1, fun h => rfl, fun _ => ⟨_, _, _, rfl, hN.mono hb.size⟩, fun h => (f11.out (upd_of rfl h)), fun h => (f12.out (upd_of rfl h)), fun h => (f13.out (upd_of rfl h)), fun h => (f14.out (upd_of rfl h)), fun h => (f15.out (upd_of rfl h)).past h1 10, fun h => (f16.out (upd_of rfl h)).past h1 10, fun h => (f17.out (upd_of rfl h)).past h1 10, fun h => absurd (HoldsV.vp (f18.out (upd_of rfl h))) (by rw [hun]; decide), trivial⟩
    · intro dd aa ww K hun hn hI hK
      obtain ⟨blk, y23, y24, y25, y26, y27, y28, y29, y30, y31, y32, y33, y7, y8, y9, y10, ea, hb, hX, f0, f1, f2, f3, f4, f5, f6, f7, f8, f9, f10, f11, f12, f13, f14, f15, f16, f17, f18, _⟩ := hI
      try simp [Region.binds] at hn
      subst ea
      simp only [puts, Act.put, List.setIfInBounds_toArray, List.set_cons_zero, List.set_cons_succ]
      go_simp
      refine hK.out _ _ ?_
      exact ⟨setB blk 11 ww.heap.size, y23, y24, y25, y26, y27, y28, y29, y30, y31, y32, y33, .pointer (some ⟨ww.heap.size, 0, none⟩), y8, y9, y10, by simp only [puts, Act.put, List.setIfInBounds_toArray, List.set_cons_zero, List.set_cons_succ], below_alloc hb _, hX.new hb.size 11 #[.bool false, .slice none 0 0] _ rfl (by simp [notU_bool, notU_slice, notU_i64]), fun h => (f0.out (upd_of rfl h)), fun h => (f1.out (upd_of rfl h)), fun h => (f2.out (upd_of rfl h)).past ((Below.refl _ _).alloc (Nat.le_refl _) _), fun h => (f3.out (upd_of rfl h)), fun h => (f4.out (upd_of rfl h)), fun h => (f5.out (upd_of rfl h)).past ((Below.refl _ _).alloc (Nat.le_refl _) _), fun h => (f6.out (upd_of rfl h)), fun h => (f7.out (upd_of rfl h)), fun h => (f8.out (upd_of rfl h)).past ((Below.refl _ _).alloc (Nat.le_refl _) _), fun h => (f9.out (upd_of rfl h)), fun h => (f10.out (upd_of rfl h)).past ((Below.refl _ _).alloc (Nat.le_refl _) _), fun _ => rfl, fun h => (f12.out (upd_of rfl h)), fun h => (f13.out (upd_of rfl h)), fun h => (f14.out (upd_of rfl h)), fun h => absurd (HoldsV.up (f15.out (upd_of rfl h))) (by rw [hun]; decide), fun h => (f16.out (upd_of rfl h)).past ((Below.refl _ _).alloc (Nat.le_refl _) _) 11, fun h => (f17.out (upd_of rfl h)).past ((Below.refl _ _).alloc (Nat.le_refl _) _) 11, fun h => (f18.out (upd_of rfl h)).past ((Below.refl _ _).alloc (Nat.le_refl _) _) 11, trivial⟩
    · intro dd aa ww K hun hn hI hK
      obtain ⟨blk, y23, y24, y25, y26, y27, y28, y29, y30, y31, y32, y33, y7, y8, y9, y10, ea, hb, hX, f0, f1, f2, f3, f4, f5, f6, f7, f8, f9, f10, f11, f12, f13, f14, f15, f16, f17, f18, _⟩ := hI
      try simp [Region.binds] at hn
      subst ea
      simp only [puts, Act.put, List.setIfInBounds_toArray, List.set_cons_zero, List.set_cons_succ]
      go_simp
      refine hK.out _ _ ?_
      exact ⟨setB blk 12 ww.heap.size, y23, y24, y25, y26, y27, y28, y29, y30, y31, y32, y33, y7, .pointer (some ⟨ww.heap.size, 0, none⟩), y9, y10, by simp only [puts, Act.put, List.setIfInBounds_toArray, List.set_cons_zero, List.set_cons_succ], below_alloc hb _, hX.new hb.size 12 #[.bool false, .slice none 0 0] _ rfl (by simp [notU_bool, notU_slice, notU_i64]), fun h => (f0.out (upd_of rfl h)), fun h => (f1.out (upd_of rfl h)), fun h => (f2.out (upd_of rfl h)).past ((Below.refl _ _).alloc (Nat.le_refl _) _), fun h => (f3.out (upd_of rfl h)), fun h => (f4.out (upd_of rfl h)), fun h => (f5.out (upd_of rfl h)).past ((Below.refl _ _).alloc (Nat.le_refl _) _), fun h => (f6.out (upd_of rfl h)), fun h => (f7.out (upd_of rfl h)), fun h => (f8.out (upd_of rfl h)).past ((Below.refl _ _).alloc (Nat.le_refl _) _), fun h => (f9.out (upd_of rfl h)), fun h => (f10.out (upd_of rfl h)).past ((Below.refl _ _).alloc (Nat.le_refl _) _), fun h => (f11.out (upd_of rfl h)), fun _ => rfl, fun h => (f13.out (upd_of rfl h)), fun h => (f14.out (upd_of rfl h)), fun h => (f15.out (upd_of rfl h)).past ((Below.refl _ _).alloc (Nat.le_refl _) _) 12, fun h => absurd (HoldsV.up (f16.out (upd_of rfl h))) (by rw [hun]; decide), fun h => (f17.out (upd_of rfl h)).past ((Below.refl _ _).alloc (Nat.le_refl _) _) 12, fun h => (f18.out (upd_of rfl h)).past ((Below.refl _ _).alloc (Nat.le_refl _) _) 12, trivial⟩
    · intro dd aa ww K hun hn hI hK
      obtain ⟨blk, y23, y24, y25, y26, y27, y28, y29, y30, y31, y32, y33, y7, y8, y9, y10, ea, hb, hX, f0, f1, f2, f3, f4, f5, f6, f7, f8, f9, f10, f11, f12, f13, f14, f15, f16, f17, f18, _⟩ := hI
      try simp [Region.binds] at hn
      subst ea
      simp only [puts, Act.put, List.setIfInBounds_toArray, List.set_cons_zero, List.set_cons_succ]
      go_simp
      refine hK.out _ _ ?_
      exact ⟨setB blk 13 ww.heap.size, y23, y24, y25, y26, y27, y28, y29, y30, y31, y32, y33, y7, y8, .pointer (some ⟨ww.heap.size, 0, none⟩), y10, by simp only [puts, Act.put, List.setIfInBounds_toArray, List.set_cons_zero, List.set_cons_succ], below_alloc hb _, hX.new hb.size 13 #[.bool false, .slice none 0 0] _ rfl (by simp [notU_bool, notU_slice, notU_i64]), fun h => (f0.out (upd_of rfl h)), fun h => (f1.out (upd_of rfl h)), fun h => (f2.out (upd_of rfl h)).past ((Below.refl _ _).alloc (Nat.le_refl _) _), fun h => (f3.out (upd_of rfl h)), fun h => (f4.out (upd_of rfl h)), fun h => (f5.out (upd_of rfl h)).past ((Below.refl _ _).alloc (Nat.le_refl _) _), fun h => (f6.out (upd_of rfl h)), fun h => (f7.out (upd_of rfl h)), fun h => (f8.out (upd_of rfl h)).past ((Below.refl _ _).alloc (Nat.le_refl _) _), fun h => (f9.out (upd_of rfl h)), fun h => (f10.out (upd_of rfl h)).past ((Below.refl _ _).alloc (Nat.le_refl _) _), fun h => (f11.out (upd_of rfl h)), fun h => (f12.out (upd_of rfl h)), fun _ => rfl, fun h => (f14.out (upd_of rfl h)), fun h => (f15.out (upd_of rfl h)).past ((Below.refl _ _).alloc (Nat.le_refl _) _) 13, fun h => (f16.out (upd_of rfl h)).past ((Below.refl _ _).alloc (Nat.le_refl _) _) 13, fun h => absurd (HoldsV.up (f17.out (upd_of rfl h))) (by rw [hun]; decide), fun h => (f18.out (upd_of rfl h)).past ((Below.refl _ _).alloc (Nat.le_refl _) _) 13, trivial⟩
    · intro dd aa ww K hun hn hI hK
      obtain ⟨blk, y23, y24, y25, y26, y27, y28, y29, y30, y31, y32, y33, y7, y8, y9, y10, ea, hb, hX, f0, f1, f2, f3, f4, f5, f6, f7, f8, f9, f10, f11, f12, f13, f14, f15, f16, f17, f18, _⟩ := hI
      try simp [Region.binds] at hn
      subst ea
      simp only [puts, Act.put, List.setIfInBounds_toArray, List.set_cons_zero, List.set_cons_succ]
      go_simp
      refine hK.out _ _ ?_
      exact ⟨setB blk 14 ww.heap.size, y23, y24, y25, y26, y27, y28, y29, y30, y31, y32, y33, y7, y8, y9, .pointer (some ⟨ww.heap.size, 0, none⟩), by simp only [puts, Act.put, List.setIfInBounds_toArray, List.set_cons_zero, List.set_cons_succ], below_alloc hb _, hX.new hb.size 14 #[.bool false, .slice none 0 0] _ rfl (by simp [notU_bool, notU_slice, notU_i64]), fun h => (f0.out (upd_of rfl h)), fun h => (f1.out (upd_of rfl h)), fun h => (f2.out (upd_of rfl h)).past ((Below.refl _ _).alloc (Nat.le_refl _) _), fun h => (f3.out (upd_of rfl h)), fun h => (f4.out (upd_of rfl h)), fun h => (f5.out (upd_of rfl h)).past ((Below.refl _ _).alloc (Nat.le_refl _) _), fun h => (f6.out (upd_of rfl h)), fun h => (f7.out (upd_of rfl h)), fun h => (f8.out (upd_of rfl h)).past ((Below.refl _ _).alloc (Nat.le_refl _) _), fun h => (f9.out (upd_of rfl h)), fun h => (f10.out (upd_of rfl h)).past ((Below.refl _ _).alloc (Nat.le_refl _) _), fun h => (f11.out (upd_of rfl h)), fun h => (f12.out (upd_of rfl h)), fun h => (f13.out (upd_of rfl h)), fun _ => rfl, fun h => (f15.out (upd_of rfl h)).past ((Below.refl _ _).alloc (Nat.le_refl _) _) 14, fun h => (f16.out (upd_of rfl h)).past ((Below.refl _ _).alloc (Nat.le_refl _) _) 14, fun h => (f17.out (upd_of rfl h)).past ((Below.refl _ _).alloc (Nat.le_refl _) _) 14, fun h => absurd (HoldsV.up (f18.out (upd_of rfl h))) (by rw [hun]; decide), trivial⟩
    · intro dd aa ww K hun hn hI hK
      obtain ⟨blk, y23, y24, y25, y26, y27, y28, y29, y30, y31, y32, y33, y7, y8, y9, y10, ea, hb, hX, f0, f1, f2, f3, f4, f5, f6, f7, f8, f9, f10, f11, f12, f13, f14, f15, f16, f17, f18, _⟩ := hI
      try simp [Region.binds] at hn
      have ex := f11.out (by simp [hn])
      subst ex
      obtain ⟨ahS1, nhS1, chS1, ex, hS1⟩ := f2.out (by simp [hn])
      subst ex
      have hd11 : dd 11 = true := by simp [hn]
      have hv2 : dd 2 = true := by simp [hn]
      obtain ⟨x1, x2, x3⟩ := hX.at_ (11, 2) (by simp) hd11
      obtain ⟨v0, v1, z0, z1, z2, z3, _, _⟩ := x3.two
      have hv : ∀ v ∈ ([.bool (neg (x + y)), .slice ahS1 nhS1 chS1] : List Value), notU v := by simp [notU_bool, notU_slice, notU_i64]
      subst ea
      simp only [puts, Act.put, List.setIfInBounds_toArray, List.set_cons_zero, List.set_cons_succ]
      go_simp
      refine hK.out _ _ ?_
      exact ⟨blk, y23, y24, .agg #[.bool (neg (x + y)), .slice ahS1 nhS1 chS1], y26, y27, y28, y29, y30, y31, y32, y33, .pointer (some ⟨blk 11, 0, none⟩), y8, y9, y10, by simp only [puts, Act.put, List.setIfInBounds_toArray, List.set_cons_zero, List.set_cons_succ], hb.trans (below_setCells _ _ x1 [.bool (neg (x + y)), .slice ahS1 nhS1 chS1] 0 _), (hX.sets [.bool (neg (x + y)), .slice ahS1 nhS1 chS1] _ 0 _ hv).same 15 rfl, fun h => (f0.out (upd_of rfl h)), fun h => (f1.out (upd_of rfl h)), fun h => ((f2.out (upd_of rfl h)).sets [.bool (neg (x + y)), .slice ahS1 nhS1 chS1] x3 (by simp) hv), fun h => (f3.out (upd_of rfl h)), fun h => (f4.out (upd_of rfl h)), fun h => ((f5.out (upd_of rfl h)).sets [.bool (neg (x + y)), .slice ahS1 nhS1 chS1] x3 (by simp) hv), fun h => (f6.out (upd_of rfl h)), fun h => (f7.out (upd_of rfl h)), fun h => ((f8.out (upd_of rfl h)).sets [.bool (neg (x + y)), .slice ahS1 nhS1 chS1] x3 (by simp) hv), fun h => (f9.out (upd_of rfl h)), fun h => ((f10.out (upd_of rfl h)).sets [.bool (neg (x + y)), .slice ahS1 nhS1 chS1] x3 (by simp) hv), fun h => rfl, fun h => (f12.out (upd_of rfl h)), fun h => (f13.out (upd_of rfl h)), fun h => (f14.out (upd_of rfl h)), fun _ => (HoldsV.new hd11 hv2 x2 x3 [.bool (neg (x + y)), .slice ahS1 nhS1 chS1] (by simp)).same 15, fun h => ((f16.out (upd_of rfl h)).sets (fun e => absurd (hX.ne (11, 2) (by simp) (12, 2) (by simp) hd11 (HoldsV.up (f16.out (upd_of rfl h))) e) (by decide)) [.bool (neg (x + y)), .slice ahS1 nhS1 chS1]).same 15, fun h => ((f17.out (upd_of rfl h)).sets (fun e => absurd (hX.ne (11, 2) (by simp) (13, 2) (by simp) hd11 (HoldsV.up (f17.out (upd_of rfl h))) e) (by decide)) [.bool (neg (x + y)), .slice ahS1 nhS1 chS1]).same 15, fun h => ((f18.out (upd_of rfl h)).sets (fun e => absurd (hX.ne (11, 2) (by simp) (14, 2) (by simp) hd11 (HoldsV.up (f18.out (upd_of rfl h))) e) (by decide)) [.bool (neg (x + y)), .slice ahS1 nhS1 chS1]).same 15, trivial⟩
    · intro dd aa ww K hun hn hI hK
      obtain ⟨blk, y23, y24, y25, y26, y27, y28, y29, y30, y31, y32, y33, y7, y8, y9, y10, ea, hb, hX, f0, f1, f2, f3, f4, f5, f6, f7, f8, f9, f10, f11, f12, f13, f14, f15, f16, f17, f18, _⟩ := hI
      try simp [Region.binds] at hn
      have ex := f12.out (by simp [hn])
      subst ex
      obtain ⟨ahD, nhD, chD, ex, hD⟩ := f5.out (by simp [hn])
      subst ex
      have hd12 : dd 12 = true := by simp [hn]
      have hv5 : dd 5 = true := by simp [hn]
      obtain ⟨x1, x2, x3⟩ := hX.at_ (12, 2) (by simp) hd12
      obtain ⟨v0, v1, z0, z1, z2, z3, _, _⟩ := x3.two
      have hv : ∀ v ∈ ([.bool (neg (x - y)), .slice ahD nhD chD] : List Value), notU v := by simp [notU_bool, notU_slice, notU_i64]
      subst ea
      simp only [puts, Act.put, List.setIfInBounds_toArray, List.set_cons_zero, List.set_cons_succ]
      go_simp
      refine hK.out _ _ ?_
      exact ⟨blk, y23, y24, y25, y26, y27, .agg #[.bool (neg (x - y)), .slice ahD nhD chD], y29, y30, y31, y32, y33, y7, .pointer (some ⟨blk 12, 0, none⟩), y9, y10, by simp only [puts, Act.put, List.setIfInBounds_toArray, List.set_cons_zero, List.set_cons_succ], hb.trans (below_setCells _ _ x1 [.bool (neg (x - y)), .slice ahD nhD chD] 0 _), (hX.sets [.bool (neg (x - y)), .slice ahD nhD chD] _ 0 _ hv).same 16 rfl, fun h => (f0.out (upd_of rfl h)), fun h => (f1.out (upd_of rfl h)), fun h => ((f2.out (upd_of rfl h)).sets [.bool (neg (x - y)), .slice ahD nhD chD] x3 (by simp) hv), fun h => (f3.out (upd_of rfl h)), fun h => (f4.out (upd_of rfl h)), fun h => ((f5.out (upd_of rfl h)).sets [.bool (neg (x - y)), .slice ahD nhD chD] x3 (by simp) hv), fun h => (f6.out (upd_of rfl h)), fun h => (f7.out (upd_of rfl h)), fun h => ((f8.out (upd_of rfl h)).sets [.bool (neg (x - y)), .slice ahD nhD chD] x3 (by simp) hv), fun h => (f9.out (upd_of rfl h)), fun h => ((f10.out (upd_of rfl h)).sets [.bool (neg (x - y)), .slice ahD nhD chD] x3 (by simp) hv), fun h => (f11.out (upd_of rfl h)), fun h => rfl, fun h => (f13.out (upd_of rfl h)), fun h => (f14.out (upd_of rfl h)), fun h => ((f15.out (upd_of rfl h)).sets (fun e => absurd (hX.ne (12, 2) (by simp) (11, 2) (by simp) hd12 (HoldsV.up (f15.out (upd_of rfl h))) e) (by decide)) [.bool (neg (x - y)), .slice ahD nhD chD]).same 16, fun _ => (HoldsV.new hd12 hv5 x2 x3 [.bool (neg (x - y)), .slice ahD nhD chD] (by simp)).same 16, fun h => ((f17.out (upd_of rfl h)).sets (fun e => absurd (hX.ne (12, 2) (by simp) (13, 2) (by simp) hd12 (HoldsV.up (f17.out (upd_of rfl h))) e) (by decide)) [.bool (neg (x - y)), .slice ahD nhD chD]).same 16, fun h => ((f18.out (upd_of rfl h)).sets (fun e => absurd (hX.ne (12, 2) (by simp) (14, 2) (by simp) hd12 (HoldsV.up (f18.out (upd_of rfl h))) e) (by decide)) [.bool (neg (x - y)), .slice ahD nhD chD]).same 16, trivial⟩
    · intro dd aa ww K hun hn hI hK
      obtain ⟨blk, y23, y24, y25, y26, y27, y28, y29, y30, y31, y32, y33, y7, y8, y9, y10, ea, hb, hX, f0, f1, f2, f3, f4, f5, f6, f7, f8, f9, f10, f11, f12, f13, f14, f15, f16, f17, f18, _⟩ := hI
      try simp [Region.binds] at hn
      have ex := f13.out (by simp [hn])
      subst ex
      obtain ⟨ahP, nhP, chP, ex, hP⟩ := f8.out (by simp [hn])
      subst ex
      have hd13 : dd 13 = true := by simp [hn]
      have hv8 : dd 8 = true := by simp [hn]
      obtain ⟨x1, x2, x3⟩ := hX.at_ (13, 2) (by simp) hd13
      obtain ⟨v0, v1, z0, z1, z2, z3, _, _⟩ := x3.two
      have hv : ∀ v ∈ ([.bool (neg (x * y)), .slice ahP nhP chP] : List Value), notU v := by simp [notU_bool, notU_slice, notU_i64]
      subst ea
      simp only [puts, Act.put, List.setIfInBounds_toArray, List.set_cons_zero, List.set_cons_succ]
      go_simp
      refine hK.out _ _ ?_
      exact ⟨blk, y23, y24, y25, y26, y27, y28, y29, y30, .agg #[.bool (neg (x * y)), .slice ahP nhP chP], y32, y33, y7, y8, .pointer (some ⟨blk 13, 0, none⟩), y10, by simp only [puts, Act.put, List.setIfInBounds_toArray, List.set_cons_zero, List.set_cons_succ], hb.trans (below_setCells _ _ x1 [.bool (neg (x * y)), .slice ahP nhP chP] 0 _), (hX.sets [.bool (neg (x * y)), .slice ahP nhP chP] _ 0 _ hv).same 17 rfl, fun h => (f0.out (upd_of rfl h)), fun h => (f1.out (upd_of rfl h)), fun h => ((f2.out (upd_of rfl h)).sets [.bool (neg (x * y)), .slice ahP nhP chP] x3 (by simp) hv), fun h => (f3.out (upd_of rfl h)), fun h => (f4.out (upd_of rfl h)), fun h => ((f5.out (upd_of rfl h)).sets [.bool (neg (x * y)), .slice ahP nhP chP] x3 (by simp) hv), fun h => (f6.out (upd_of rfl h)), fun h => (f7.out (upd_of rfl h)), fun h => ((f8.out (upd_of rfl h)).sets [.bool (neg (x * y)), .slice ahP nhP chP] x3 (by simp) hv), fun h => (f9.out (upd_of rfl h)), fun h => ((f10.out (upd_of rfl h)).sets [.bool (neg (x * y)), .slice ahP nhP chP] x3 (by simp) hv), fun h => (f11.out (upd_of rfl h)), fun h => (f12.out (upd_of rfl h)), fun h => rfl, fun h => (f14.out (upd_of rfl h)), fun h => ((f15.out (upd_of rfl h)).sets (fun e => absurd (hX.ne (13, 2) (by simp) (11, 2) (by simp) hd13 (HoldsV.up (f15.out (upd_of rfl h))) e) (by decide)) [.bool (neg (x * y)), .slice ahP nhP chP]).same 17, fun h => ((f16.out (upd_of rfl h)).sets (fun e => absurd (hX.ne (13, 2) (by simp) (12, 2) (by simp) hd13 (HoldsV.up (f16.out (upd_of rfl h))) e) (by decide)) [.bool (neg (x * y)), .slice ahP nhP chP]).same 17, fun _ => (HoldsV.new hd13 hv8 x2 x3 [.bool (neg (x * y)), .slice ahP nhP chP] (by simp)).same 17, fun h => ((f18.out (upd_of rfl h)).sets (fun e => absurd (hX.ne (13, 2) (by simp) (14, 2) (by simp) hd13 (HoldsV.up (f18.out (upd_of rfl h))) e) (by decide)) [.bool (neg (x * y)), .slice ahP nhP chP]).same 17, trivial⟩
    · intro dd aa ww K hun hn hI hK
      obtain ⟨blk, y23, y24, y25, y26, y27, y28, y29, y30, y31, y32, y33, y7, y8, y9, y10, ea, hb, hX, f0, f1, f2, f3, f4, f5, f6, f7, f8, f9, f10, f11, f12, f13, f14, f15, f16, f17, f18, _⟩ := hI
      try simp [Region.binds] at hn
      have ex := f14.out (by simp [hn])
      subst ex
      obtain ⟨ahN, nhN, chN, ex, hN⟩ := f10.out (by simp [hn])
      subst ex
      have hd14 : dd 14 = true := by simp [hn]
      have hv10 : dd 10 = true := by simp [hn]
      obtain ⟨x1, x2, x3⟩ := hX.at_ (14, 2) (by simp) hd14
      obtain ⟨v0, v1, z0, z1, z2, z3, _, _⟩ := x3.two
      have hv : ∀ v ∈ ([.bool (neg (-x)), .slice ahN nhN chN] : List Value), notU v := by simp [notU_bool, notU_slice, notU_i64]
      subst ea
      simp only [puts, Act.put, List.setIfInBounds_toArray, List.set_cons_zero, List.set_cons_succ]
      go_simp
      refine hK.out _ _ ?_
      exact ⟨blk, y23, y24, y25, y26, y27, y28, y29, y30, y31, y32, .agg #[.bool (neg (-x)), .slice ahN nhN chN], y7, y8, y9, .pointer (some ⟨blk 14, 0, none⟩), by simp only [puts, Act.put, List.setIfInBounds_toArray, List.set_cons_zero, List.set_cons_succ], hb.trans (below_setCells _ _ x1 [.bool (neg (-x)), .slice ahN nhN chN] 0 _), (hX.sets [.bool (neg (-x)), .slice ahN nhN chN] _ 0 _ hv).same 18 rfl, fun h => (f0.out (upd_of rfl h)), fun h => (f1.out (upd_of rfl h)), fun h => ((f2.out (upd_of rfl h)).sets [.bool (neg (-x)), .slice ahN nhN chN] x3 (by simp) hv), fun h => (f3.out (upd_of rfl h)), fun h => (f4.out (upd_of rfl h)), fun h => ((f5.out (upd_of rfl h)).sets [.bool (neg (-x)), .slice ahN nhN chN] x3 (by simp) hv), fun h => (f6.out (upd_of rfl h)), fun h => (f7.out (upd_of rfl h)), fun h => ((f8.out (upd_of rfl h)).sets [.bool (neg (-x)), .slice ahN nhN chN] x3 (by simp) hv), fun h => (f9.out (upd_of rfl h)), fun h => ((f10.out (upd_of rfl h)).sets [.bool (neg (-x)), .slice ahN nhN chN] x3 (by simp) hv), fun h => (f11.out (upd_of rfl h)), fun h => (f12.out (upd_of rfl h)), fun h => (f13.out (upd_of rfl h)), fun h => rfl, fun h => ((f15.out (upd_of rfl h)).sets (fun e => absurd (hX.ne (14, 2) (by simp) (11, 2) (by simp) hd14 (HoldsV.up (f15.out (upd_of rfl h))) e) (by decide)) [.bool (neg (-x)), .slice ahN nhN chN]).same 18, fun h => ((f16.out (upd_of rfl h)).sets (fun e => absurd (hX.ne (14, 2) (by simp) (12, 2) (by simp) hd14 (HoldsV.up (f16.out (upd_of rfl h))) e) (by decide)) [.bool (neg (-x)), .slice ahN nhN chN]).same 18, fun h => ((f17.out (upd_of rfl h)).sets (fun e => absurd (hX.ne (14, 2) (by simp) (13, 2) (by simp) hd14 (HoldsV.up (f17.out (upd_of rfl h))) e) (by decide)) [.bool (neg (-x)), .slice ahN nhN chN]).same 18, fun _ => (HoldsV.new hd14 hv10 x2 x3 [.bool (neg (-x)), .slice ahN nhN chN] (by simp)).same 18, trivial⟩
  intro dd aa w6 hd hI
  obtain ⟨blk, y23, y24, y25, y26, y27, y28, y29, y30, y31, y32, y33, y7, y8, y9, y10, ea, hb, hX, f0, f1, f2, f3, f4, f5, f6, f7, f8, f9, f10, f11, f12, f13, f14, f15, f16, f17, f18, _⟩ := hI
  have ex := f0.out (hd 0 (by simp))
  subst ex
  have ex := f1.out (hd 1 (by simp))
  subst ex
  obtain ⟨ahS1, nhS1, chS1, ex, hS1⟩ := f2.out (hd 2 (by simp))
  subst ex
  have ex := f3.out (hd 3 (by simp))
  subst ex
  have ex := f4.out (hd 4 (by simp))
  subst ex
  obtain ⟨ahD, nhD, chD, ex, hD⟩ := f5.out (hd 5 (by simp))
  subst ex
  have ex := f6.out (hd 6 (by simp))
  subst ex
  have ex := f7.out (hd 7 (by simp))
  subst ex
  obtain ⟨ahP, nhP, chP, ex, hP⟩ := f8.out (hd 8 (by simp))
  subst ex
  have ex := f9.out (hd 9 (by simp))
  subst ex
  obtain ⟨ahN, nhN, chN, ex, hN⟩ := f10.out (hd 10 (by simp))
  subst ex
  have ex := f11.out (hd 11 (by simp))
  subst ex
  have ex := f12.out (hd 12 (by simp))
  subst ex
  have ex := f13.out (hd 13 (by simp))
  subst ex
  have ex := f14.out (hd 14 (by simp))
  subst ex
  obtain ⟨vs15, e, h15⟩ := f15.out (hd 15 (by simp))
  cases e
  obtain ⟨vs16, e, h16⟩ := f16.out (hd 16 (by simp))
  cases e
  obtain ⟨vs17, e, h17⟩ := f17.out (hd 17 (by simp))
  cases e
  obtain ⟨vs18, e, h18⟩ := f18.out (hd 18 (by simp))
  cases e
  have lb7 := h15.lt
  have qb70 := h15.at_ 0 (by simp)
  simp only [List.getElem?_cons_zero, List.getElem?_cons_succ] at qb70
  have qb71 := h15.at_ 1 (by simp)
  simp only [List.getElem?_cons_zero, List.getElem?_cons_succ] at qb71
  generalize blk 11 = Bb7 at *
  have lb8 := h16.lt
  have qb80 := h16.at_ 0 (by simp)
  simp only [List.getElem?_cons_zero, List.getElem?_cons_succ] at qb80
  have qb81 := h16.at_ 1 (by simp)
  simp only [List.getElem?_cons_zero, List.getElem?_cons_succ] at qb81
  generalize blk 12 = Bb8 at *
  have lb9 := h17.lt
  have qb90 := h17.at_ 0 (by simp)
  simp only [List.getElem?_cons_zero, List.getElem?_cons_succ] at qb90
  have qb91 := h17.at_ 1 (by simp)
  simp only [List.getElem?_cons_zero, List.getElem?_cons_succ] at qb91
  generalize blk 13 = Bb9 at *
  have lb10 := h18.lt
  have qb100 := h18.at_ 0 (by simp)
  simp only [List.getElem?_cons_zero, List.getElem?_cons_succ] at qb100
  have qb101 := h18.at_ 1 (by simp)
  simp only [List.getElem?_cons_zero, List.getElem?_cons_succ] at qb101
  generalize blk 14 = Bb10 at *
  subst ea
  simp only [puts, Act.put, List.setIfInBounds_toArray, List.set_cons_zero, List.set_cons_succ]
  have hS1 := hS1.mono hZ.size
  have hD := hD.mono hZ.size
  have hP := hP.mono hZ.size
  have hN := hN.mono hZ.size
  have g1 := g1.past hb
  have g2 := g2.past hb
  have hI := hI.past hb
  have hY := hY.past hb
  have qb10 := (hb.cell (p := ⟨w.heap.size, 0, none⟩) lb1).trans qb10
  have qb11 := (hb.cell (p := ⟨w.heap.size, 1, none⟩) lb1).trans qb11
  have lb1 := Nat.lt_of_lt_of_le lb1 hb.size
  have qb20 := (hb.cell (p := ⟨w.heap.size + 1, 0, none⟩) lb2).trans qb20
  have qb21 := (hb.cell (p := ⟨w.heap.size + 1, 1, none⟩) lb2).trans qb21
  have lb2 := Nat.lt_of_lt_of_le lb2 hb.size
  have qb30 := (hb.cell (p := ⟨Bb3, 0, none⟩) lb3).trans qb30
  have qb31 := (hb.cell (p := ⟨Bb3, 1, none⟩) lb3).trans qb31
  have lb3 := Nat.lt_of_lt_of_le lb3 hb.size
  have qb40 := (hb.cell (p := ⟨Bb4, 0, none⟩) lb4).trans qb40
  have qb41 := (hb.cell (p := ⟨Bb4, 1, none⟩) lb4).trans qb41
  have lb4 := Nat.lt_of_lt_of_le lb4 hb.size
  have hB := below_later hB hb
  have hZ := below_later hZ hb
  clear hX
  clear hb hd
  go_wp2_with fail
  go_region_held3 (fun w' => (w'.cell? ⟨w.heap.size, 0, none⟩ = some (.bool b) ∧ w'.cell? ⟨w.heap.size, 1, none⟩ = some (.slice a n c) ∧ w'.cell? ⟨w.heap.size + 1, 0, none⟩ = some (.bool b2) ∧ w'.cell? ⟨w.heap.size + 1, 1, none⟩ = some (.slice a2 n2 c2) ∧ w'.cell? ⟨Bb3, 0, none⟩ = some (.bool (b)) ∧ w'.cell? ⟨Bb3, 1, none⟩ = some (.slice ahI nhI chI) ∧ w'.cell? ⟨Bb4, 0, none⟩ = some (.bool (b2)) ∧ w'.cell? ⟨Bb4, 1, none⟩ = some (.slice ahY nhY chY) ∧ w'.cell? ⟨Bb7, 0, none⟩ = some (.bool (neg (x + y))) ∧ w'.cell? ⟨Bb7, 1, none⟩ = some (.slice ahS1 nhS1 chS1) ∧ w'.cell? ⟨Bb8, 0, none⟩ = some (.bool (neg (x - y))) ∧ w'.cell? ⟨Bb8, 1, none⟩ = some (.slice ahD nhD chD) ∧ w'.cell? ⟨Bb9, 0, none⟩ = some (.bool (neg (x * y))) ∧ w'.cell? ⟨Bb9, 1, none⟩ = some (.slice ahP nhP chP) ∧ w'.cell? ⟨Bb10, 0, none⟩ = some (.bool (neg (-x))) ∧ w'.cell? ⟨Bb10, 1, none⟩ = some (.slice ahN nhN chN)) ∧ Below w6.heap.size w6 w')
    (first
      | exact ⟨⟨((Below.refl w6.heap.size w6).drew.cell (p := ⟨w.heap.size, 0, none⟩) lb1).trans qb10, ((Below.refl w6.heap.size w6).drew.cell (p := ⟨w.heap.size, 1, none⟩) lb1).trans qb11, ((Below.refl w6.heap.size w6).drew.cell (p := ⟨w.heap.size + 1, 0, none⟩) lb2).trans qb20, ((Below.refl w6.heap.size w6).drew.cell (p := ⟨w.heap.size + 1, 1, none⟩) lb2).trans qb21, ((Below.refl w6.heap.size w6).drew.cell (p := ⟨Bb3, 0, none⟩) lb3).trans qb30, ((Below.refl w6.heap.size w6).drew.cell (p := ⟨Bb3, 1, none⟩) lb3).trans qb31, ((Below.refl w6.heap.size w6).drew.cell (p := ⟨Bb4, 0, none⟩) lb4).trans qb40, ((Below.refl w6.heap.size w6).drew.cell (p := ⟨Bb4, 1, none⟩) lb4).trans qb41, ((Below.refl w6.heap.size w6).drew.cell (p := ⟨Bb7, 0, none⟩) lb7).trans qb70, ((Below.refl w6.heap.size w6).drew.cell (p := ⟨Bb7, 1, none⟩) lb7).trans qb71, ((Below.refl w6.heap.size w6).drew.cell (p := ⟨Bb8, 0, none⟩) lb8).trans qb80, ((Below.refl w6.heap.size w6).drew.cell (p := ⟨Bb8, 1, none⟩) lb8).trans qb81, ((Below.refl w6.heap.size w6).drew.cell (p := ⟨Bb9, 0, none⟩) lb9).trans qb90, ((Below.refl w6.heap.size w6).drew.cell (p := ⟨Bb9, 1, none⟩) lb9).trans qb91, ((Below.refl w6.heap.size w6).drew.cell (p := ⟨Bb10, 0, none⟩) lb10).trans qb100, ((Below.refl w6.heap.size w6).drew.cell (p := ⟨Bb10, 1, none⟩) lb10).trans qb101⟩, (Below.refl _ _).drew⟩
      | (rename _ ∧ Below w6.heap.size w6 _ => hS
         first
           | exact ⟨⟨((below_later hS.2 hbw16).cell (p := ⟨w.heap.size, 0, none⟩) lb1).trans qb10, ((below_later hS.2 hbw16).cell (p := ⟨w.heap.size, 1, none⟩) lb1).trans qb11, ((below_later hS.2 hbw16).cell (p := ⟨w.heap.size + 1, 0, none⟩) lb2).trans qb20, ((below_later hS.2 hbw16).cell (p := ⟨w.heap.size + 1, 1, none⟩) lb2).trans qb21, ((below_later hS.2 hbw16).cell (p := ⟨Bb3, 0, none⟩) lb3).trans qb30, ((below_later hS.2 hbw16).cell (p := ⟨Bb3, 1, none⟩) lb3).trans qb31, ((below_later hS.2 hbw16).cell (p := ⟨Bb4, 0, none⟩) lb4).trans qb40, ((below_later hS.2 hbw16).cell (p := ⟨Bb4, 1, none⟩) lb4).trans qb41, ((below_later hS.2 hbw16).cell (p := ⟨Bb7, 0, none⟩) lb7).trans qb70, ((below_later hS.2 hbw16).cell (p := ⟨Bb7, 1, none⟩) lb7).trans qb71, ((below_later hS.2 hbw16).cell (p := ⟨Bb8, 0, none⟩) lb8).trans qb80, ((below_later hS.2 hbw16).cell (p := ⟨Bb8, 1, none⟩) lb8).trans qb81, ((below_later hS.2 hbw16).cell (p := ⟨Bb9, 0, none⟩) lb9).trans qb90, ((below_later hS.2 hbw16).cell (p := ⟨Bb9, 1, none⟩) lb9).trans qb91, ((below_later hS.2 hbw16).cell (p := ⟨Bb10, 0, none⟩) lb10).trans qb100, ((below_later hS.2 hbw16).cell (p := ⟨Bb10, 1, none⟩) lb10).trans qb101⟩, below_later hS.2 hbw16⟩
           | exact ⟨⟨((below_later hS.2 hbw15).cell (p := ⟨w.heap.size, 0, none⟩) lb1).trans qb10, ((below_later hS.2 hbw15).cell (p := ⟨w.heap.size, 1, none⟩) lb1).trans qb11, ((below_later hS.2 hbw15).cell (p := ⟨w.heap.size + 1, 0, none⟩) lb2).trans qb20, ((below_later hS.2 hbw15).cell (p := ⟨w.heap.size + 1, 1, none⟩) lb2).trans qb21, ((below_later hS.2 hbw15).cell (p := ⟨Bb3, 0, none⟩) lb3).trans qb30, ((below_later hS.2 hbw15).cell (p := ⟨Bb3, 1, none⟩) lb3).trans qb31, ((below_later hS.2 hbw15).cell (p := ⟨Bb4, 0, none⟩) lb4).trans qb40, ((below_later hS.2 hbw15).cell (p := ⟨Bb4, 1, none⟩) lb4).trans qb41, ((below_later hS.2 hbw15).cell (p := ⟨Bb7, 0, none⟩) lb7).trans qb70, ((below_later hS.2 hbw15).cell (p := ⟨Bb7, 1, none⟩) lb7).trans qb71, ((below_later hS.2 hbw15).cell (p := ⟨Bb8, 0, none⟩) lb8).trans qb80, ((below_later hS.2 hbw15).cell (p := ⟨Bb8, 1, none⟩) lb8).trans qb81, ((below_later hS.2 hbw15).cell (p := ⟨Bb9, 0, none⟩) lb9).trans qb90, ((below_later hS.2 hbw15).cell (p := ⟨Bb9, 1, none⟩) lb9).trans qb91, ((below_later hS.2 hbw15).cell (p := ⟨Bb10, 0, none⟩) lb10).trans qb100, ((below_later hS.2 hbw15).cell (p := ⟨Bb10, 1, none⟩) lb10).trans qb101⟩, below_later hS.2 hbw15⟩
           | exact ⟨⟨((below_later hS.2 hbw14).cell (p := ⟨w.heap.size, 0, none⟩) lb1).trans qb10, ((below_later hS.2 hbw14).cell (p := ⟨w.heap.size, 1, none⟩) lb1).trans qb11, ((below_later hS.2 hbw14).cell (p := ⟨w.heap.size + 1, 0, none⟩) lb2).trans qb20, ((below_later hS.2 hbw14).cell (p := ⟨w.heap.size + 1, 1, none⟩) lb2).trans qb21, ((below_later hS.2 hbw14).cell (p := ⟨Bb3, 0, none⟩) lb3).trans qb30, ((below_later hS.2 hbw14).cell (p := ⟨Bb3, 1, none⟩) lb3).trans qb31, ((below_later hS.2 hbw14).cell (p := ⟨Bb4, 0, none⟩) lb4).trans qb40, ((below_later hS.2 hbw14).cell (p := ⟨Bb4, 1, none⟩) lb4).trans qb41, ((below_later hS.2 hbw14).cell (p := ⟨Bb7, 0, none⟩) lb7).trans qb70, ((below_later hS.2 hbw14).cell (p := ⟨Bb7, 1, none⟩) lb7).trans qb71, ((below_later hS.2 hbw14).cell (p := ⟨Bb8, 0, none⟩) lb8).trans qb80, ((below_later hS.2 hbw14).cell (p := ⟨Bb8, 1, none⟩) lb8).trans qb81, ((below_later hS.2 hbw14).cell (p := ⟨Bb9, 0, none⟩) lb9).trans qb90, ((below_later hS.2 hbw14).cell (p := ⟨Bb9, 1, none⟩) lb9).trans qb91, ((below_later hS.2 hbw14).cell (p := ⟨Bb10, 0, none⟩) lb10).trans qb100, ((below_later hS.2 hbw14).cell (p := ⟨Bb10, 1, none⟩) lb10).trans qb101⟩, below_later hS.2 hbw14⟩
           | exact ⟨⟨((below_later hS.2 hbw13).cell (p := ⟨w.heap.size, 0, none⟩) lb1).trans qb10, ((below_later hS.2 hbw13).cell (p := ⟨w.heap.size, 1, none⟩) lb1).trans qb11, ((below_later hS.2 hbw13).cell (p := ⟨w.heap.size + 1, 0, none⟩) lb2).trans qb20, ((below_later hS.2 hbw13).cell (p := ⟨w.heap.size + 1, 1, none⟩) lb2).trans qb21, ((below_later hS.2 hbw13).cell (p := ⟨Bb3, 0, none⟩) lb3).trans qb30, ((below_later hS.2 hbw13).cell (p := ⟨Bb3, 1, none⟩) lb3).trans qb31, ((below_later hS.2 hbw13).cell (p := ⟨Bb4, 0, none⟩) lb4).trans qb40, ((below_later hS.2 hbw13).cell (p := ⟨Bb4, 1, none⟩) lb4).trans qb41, ((below_later hS.2 hbw13).cell (p := ⟨Bb7, 0, none⟩) lb7).trans qb70, ((below_later hS.2 hbw13).cell (p := ⟨Bb7, 1, none⟩) lb7).trans qb71, ((below_later hS.2 hbw13).cell (p := ⟨Bb8, 0, none⟩) lb8).trans qb80, ((below_later hS.2 hbw13).cell (p := ⟨Bb8, 1, none⟩) lb8).trans qb81, ((below_later hS.2 hbw13).cell (p := ⟨Bb9, 0, none⟩) lb9).trans qb90, ((below_later hS.2 hbw13).cell (p := ⟨Bb9, 1, none⟩) lb9).trans qb91, ((below_later hS.2 hbw13).cell (p := ⟨Bb10, 0, none⟩) lb10).trans qb100, ((below_later hS.2 hbw13).cell (p := ⟨Bb10, 1, none⟩) lb10).trans qb101⟩, below_later hS.2 hbw13⟩
           | exact ⟨⟨((below_later hS.2 hbw12).cell (p := ⟨w.heap.size, 0, none⟩) lb1).trans qb10, ((below_later hS.2 hbw12).cell (p := ⟨w.heap.size, 1, none⟩) lb1).trans qb11, ((below_later hS.2 hbw12).cell (p := ⟨w.heap.size + 1, 0, none⟩) lb2).trans qb20, ((below_later hS.2 hbw12).cell (p := ⟨w.heap.size + 1, 1, none⟩) lb2).trans qb21, ((below_later hS.2 hbw12).cell (p := ⟨Bb3, 0, none⟩) lb3).trans qb30, ((below_later hS.2 hbw12).cell (p := ⟨Bb3, 1, none⟩) lb3).trans qb31, ((below_later hS.2 hbw12).cell (p := ⟨Bb4, 0, none⟩) lb4).trans qb40, ((below_later hS.2 hbw12).cell (p := ⟨Bb4, 1, none⟩) lb4).trans qb41, ((below_later hS.2 hbw12).cell (p := ⟨Bb7, 0, none⟩) lb7).trans qb70, ((below_later hS.2 hbw12).cell (p := ⟨Bb7, 1, none⟩) lb7).trans qb71, ((below_later hS.2 hbw12).cell (p := ⟨Bb8, 0, none⟩) lb8).trans qb80, ((below_later hS.2 hbw12).cell (p := ⟨Bb8, 1, none⟩) lb8).trans qb81, ((below_later hS.2 hbw12).cell (p := ⟨Bb9, 0, none⟩) lb9).trans qb90, ((below_later hS.2 hbw12).cell (p := ⟨Bb9, 1, none⟩) lb9).trans qb91, ((below_later hS.2 hbw12).cell (p := ⟨Bb10, 0, none⟩) lb10).trans qb100, ((below_later hS.2 hbw12).cell (p := ⟨Bb10, 1, none⟩) lb10).trans qb101⟩, below_later hS.2 hbw12⟩
           | exact ⟨⟨((below_later hS.2 hbw11).cell (p := ⟨w.heap.size, 0, none⟩) lb1).trans qb10, ((below_later hS.2 hbw11).cell (p := ⟨w.heap.size, 1, none⟩) lb1).trans qb11, ((below_later hS.2 hbw11).cell (p := ⟨w.heap.size + 1, 0, none⟩) lb2).trans qb20, ((below_later hS.2 hbw11).cell (p := ⟨w.heap.size + 1, 1, none⟩) lb2).trans qb21, ((below_later hS.2 hbw11).cell (p := ⟨Bb3, 0, none⟩) lb3).trans qb30, ((below_later hS.2 hbw11).cell (p := ⟨Bb3, 1, none⟩) lb3).trans qb31, ((below_later hS.2 hbw11).cell (p := ⟨Bb4, 0, none⟩) lb4).trans qb40, ((below_later hS.2 hbw11).cell (p := ⟨Bb4, 1, none⟩) lb4).trans qb41, ((below_later hS.2 hbw11).cell (p := ⟨Bb7, 0, none⟩) lb7).trans qb70, ((below_later hS.2 hbw11).cell (p := ⟨Bb7, 1, none⟩) lb7).trans qb71, ((below_later hS.2 hbw11).cell (p := ⟨Bb8, 0, none⟩) lb8).trans qb80, ((below_later hS.2 hbw11).cell (p := ⟨Bb8, 1, none⟩) lb8).trans qb81, ((below_later hS.2 hbw11).cell (p := ⟨Bb9, 0, none⟩) lb9).trans qb90, ((below_later hS.2 hbw11).cell (p := ⟨Bb9, 1, none⟩) lb9).trans qb91, ((below_later hS.2 hbw11).cell (p := ⟨Bb10, 0, none⟩) lb10).trans qb100, ((below_later hS.2 hbw11).cell (p := ⟨Bb10, 1, none⟩) lb10).trans qb101⟩, below_later hS.2 hbw11⟩
           | exact ⟨⟨((below_later hS.2 hbw10).cell (p := ⟨w.heap.size, 0, none⟩) lb1).trans qb10, ((below_later hS.2 hbw10).cell (p := ⟨w.heap.size, 1, none⟩) lb1).trans qb11, ((below_later hS.2 hbw10).cell (p := ⟨w.heap.size + 1, 0, none⟩) lb2).trans qb20, ((below_later hS.2 hbw10).cell (p := ⟨w.heap.size + 1, 1, none⟩) lb2).trans qb21, ((below_later hS.2 hbw10).cell (p := ⟨Bb3, 0, none⟩) lb3).trans qb30, ((below_later hS.2 hbw10).cell (p := ⟨Bb3, 1, none⟩) lb3).trans qb31, ((below_later hS.2 hbw10).cell (p := ⟨Bb4, 0, none⟩) lb4).trans qb40, ((below_later hS.2 hbw10).cell (p := ⟨Bb4, 1, none⟩) lb4).trans qb41, ((below_later hS.2 hbw10).cell (p := ⟨Bb7, 0, none⟩) lb7).trans qb70, ((below_later hS.2 hbw10).cell (p := ⟨Bb7, 1, none⟩) lb7).trans qb71, ((below_later hS.2 hbw10).cell (p := ⟨Bb8, 0, none⟩) lb8).trans qb80, ((below_later hS.2 hbw10).cell (p := ⟨Bb8, 1, none⟩) lb8).trans qb81, ((below_later hS.2 hbw10).cell (p := ⟨Bb9, 0, none⟩) lb9).trans qb90, ((below_later hS.2 hbw10).cell (p := ⟨Bb9, 1, none⟩) lb9).trans qb91, ((below_later hS.2 hbw10).cell (p := ⟨Bb10, 0, none⟩) lb10).trans qb100, ((below_later hS.2 hbw10).cell (p := ⟨Bb10, 1, none⟩) lb10).trans qb101⟩, below_later hS.2 hbw10⟩
           | exact ⟨⟨((below_later hS.2 hbw9).cell (p := ⟨w.heap.size, 0, none⟩) lb1).trans qb10, ((below_later hS.2 hbw9).cell (p := ⟨w.heap.size, 1, none⟩) lb1).trans qb11, ((below_later hS.2 hbw9).cell (p := ⟨w.heap.size + 1, 0, none⟩) lb2).trans qb20, ((below_later hS.2 hbw9).cell (p := ⟨w.heap.size + 1, 1, none⟩) lb2).trans qb21, ((below_later hS.2 hbw9).cell (p := ⟨Bb3, 0, none⟩) lb3).trans qb30, ((below_later hS.2 hbw9).cell (p := ⟨Bb3, 1, none⟩) lb3).trans qb31, ((below_later hS.2 hbw9).cell (p := ⟨Bb4, 0, none⟩) lb4).trans qb40, ((below_later hS.2 hbw9).cell (p := ⟨Bb4, 1, none⟩) lb4).trans qb41, ((below_later hS.2 hbw9).cell (p := ⟨Bb7, 0, none⟩) lb7).trans qb70, ((below_later hS.2 hbw9).cell (p := ⟨Bb7, 1, none⟩) lb7).trans qb71, ((below_later hS.2 hbw9).cell (p := ⟨Bb8, 0, none⟩) lb8).trans qb80, ((below_later hS.2 hbw9).cell (p := ⟨Bb8, 1, none⟩) lb8).trans qb81, ((below_later hS.2 hbw9).cell (p := ⟨Bb9, 0, none⟩) lb9).trans qb90, ((below_later hS.2 hbw9).cell (p := ⟨Bb9, 1, none⟩) lb9).trans qb91, ((below_later hS.2 hbw9).cell (p := ⟨Bb10, 0, none⟩) lb10).trans qb100, ((below_later hS.2 hbw9).cell (p := ⟨Bb10, 1, none⟩) lb10).trans qb101⟩, below_later hS.2 hbw9⟩
           | exact ⟨⟨((below_later hS.2 hbw8).cell (p := ⟨w.heap.size, 0, none⟩) lb1).trans qb10, ((below_later hS.2 hbw8).cell (p := ⟨w.heap.size, 1, none⟩) lb1).trans qb11, ((below_later hS.2 hbw8).cell (p := ⟨w.heap.size + 1, 0, none⟩) lb2).trans qb20, ((below_later hS.2 hbw8).cell (p := ⟨w.heap.size + 1, 1, none⟩) lb2).trans qb21, ((below_later hS.2 hbw8).cell (p := ⟨Bb3, 0, none⟩) lb3).trans qb30, ((below_later hS.2 hbw8).cell (p := ⟨Bb3, 1, none⟩) lb3).trans qb31, ((below_later hS.2 hbw8).cell (p := ⟨Bb4, 0, none⟩) lb4).trans qb40, ((below_later hS.2 hbw8).cell (p := ⟨Bb4, 1, none⟩) lb4).trans qb41, ((below_later hS.2 hbw8).cell (p := ⟨Bb7, 0, none⟩) lb7).trans qb70, ((below_later hS.2 hbw8).cell (p := ⟨Bb7, 1, none⟩) lb7).trans qb71, ((below_later hS.2 hbw8).cell (p := ⟨Bb8, 0, none⟩) lb8).trans qb80, ((below_later hS.2 hbw8).cell (p := ⟨Bb8, 1, none⟩) lb8).trans qb81, ((below_later hS.2 hbw8).cell (p := ⟨Bb9, 0, none⟩) lb9).trans qb90, ((below_later hS.2 hbw8).cell (p := ⟨Bb9, 1, none⟩) lb9).trans qb91, ((below_later hS.2 hbw8).cell (p := ⟨Bb10, 0, none⟩) lb10).trans qb100, ((below_later hS.2 hbw8).cell (p := ⟨Bb10, 1, none⟩) lb10).trans qb101⟩, below_later hS.2 hbw8⟩
           | exact ⟨⟨((below_later hS.2 hbw7).cell (p := ⟨w.heap.size, 0, none⟩) lb1).trans qb10, ((below_later hS.2 hbw7).cell (p := ⟨w.heap.size, 1, none⟩) lb1).trans qb11, ((below_later hS.2 hbw7).cell (p := ⟨w.heap.size + 1, 0, none⟩) lb2).trans qb20, ((below_later hS.2 hbw7).cell (p := ⟨w.heap.size + 1, 1, none⟩) lb2).trans qb21, ((below_later hS.2 hbw7).cell (p := ⟨Bb3, 0, none⟩) lb3).trans qb30, ((below_later hS.2 hbw7).cell (p := ⟨Bb3, 1, none⟩) lb3).trans qb31, ((below_later hS.2 hbw7).cell (p := ⟨Bb4, 0, none⟩) lb4).trans qb40, ((below_later hS.2 hbw7).cell (p := ⟨Bb4, 1, none⟩) lb4).trans qb41, ((below_later hS.2 hbw7).cell (p := ⟨Bb7, 0, none⟩) lb7).trans qb70, ((below_later hS.2 hbw7).cell (p := ⟨Bb7, 1, none⟩) lb7).trans qb71, ((below_later hS.2 hbw7).cell (p := ⟨Bb8, 0, none⟩) lb8).trans qb80, ((below_later hS.2 hbw7).cell (p := ⟨Bb8, 1, none⟩) lb8).trans qb81, ((below_later hS.2 hbw7).cell (p := ⟨Bb9, 0, none⟩) lb9).trans qb90, ((below_later hS.2 hbw7).cell (p := ⟨Bb9, 1, none⟩) lb9).trans qb91, ((below_later hS.2 hbw7).cell (p := ⟨Bb10, 0, none⟩) lb10).trans qb100, ((below_later hS.2 hbw7).cell (p := ⟨Bb10, 1, none⟩) lb10).trans qb101⟩, below_later hS.2 hbw7⟩
           | exact ⟨⟨((hS.2.drew).cell (p := ⟨w.heap.size, 0, none⟩) lb1).trans qb10, ((hS.2.drew).cell (p := ⟨w.heap.size, 1, none⟩) lb1).trans qb11, ((hS.2.drew).cell (p := ⟨w.heap.size + 1, 0, none⟩) lb2).trans qb20, ((hS.2.drew).cell (p := ⟨w.heap.size + 1, 1, none⟩) lb2).trans qb21, ((hS.2.drew).cell (p := ⟨Bb3, 0, none⟩) lb3).trans qb30, ((hS.2.drew).cell (p := ⟨Bb3, 1, none⟩) lb3).trans qb31, ((hS.2.drew).cell (p := ⟨Bb4, 0, none⟩) lb4).trans qb40, ((hS.2.drew).cell (p := ⟨Bb4, 1, none⟩) lb4).trans qb41, ((hS.2.drew).cell (p := ⟨Bb7, 0, none⟩) lb7).trans qb70, ((hS.2.drew).cell (p := ⟨Bb7, 1, none⟩) lb7).trans qb71, ((hS.2.drew).cell (p := ⟨Bb8, 0, none⟩) lb8).trans qb80, ((hS.2.drew).cell (p := ⟨Bb8, 1, none⟩) lb8).trans qb81, ((hS.2.drew).cell (p := ⟨Bb9, 0, none⟩) lb9).trans qb90, ((hS.2.drew).cell (p := ⟨Bb9, 1, none⟩) lb9).trans qb91, ((hS.2.drew).cell (p := ⟨Bb10, 0, none⟩) lb10).trans qb100, ((hS.2.drew).cell (p := ⟨Bb10, 1, none⟩) lb10).trans qb101⟩, hS.2.drew⟩)
      | assumption)
    (first
      | (go_at_call 51; rename _ ∧ Below w6.heap.size w6 _ => hS
         go_fit (rsadd_any _ _ _ _ l _ _ _ _ l2 _ (g1.past hS.2) (g2.past hS.2) (by omega) (by omega))
         rintro e w7 ⟨akS, nkS, ckS, rfl, kS, hbw7⟩
         have kS := kS.mono (Nat.le_trans hZ.size hS.2.size)
         rw [HX.out, HY.out] at kS ⊢)
      | (go_at_call 40; rename _ ∧ Below w6.heap.size w6 _ => hS
         go_fit (sameWhole_yes (hS1.past hS.2).toNatAt kS.toNatAt)
         rintro e w8 ⟨rfl, hbw8⟩
         have kS := kS.past hbw8)
      | (go_at_call 52; rename _ ∧ Below w6.heap.size w6 _ => hS
         go_fit (rssub_any _ _ _ _ l _ _ _ _ l2 _ (g1.past hS.2) (g2.past hS.2) (by omega) (by omega))
         rintro e w9 ⟨akD, nkD, ckD, rfl, kD, hbw9⟩
         have kS := kS.past hbw9
         have kD := kD.mono (Nat.le_trans hZ.size hS.2.size)
         rw [HX.out, HY.out] at kD ⊢)
      | (go_at_call 40; rename _ ∧ Below w6.heap.size w6 _ => hS
         go_fit (sameWhole_yes (hD.past hS.2).toNatAt kD.toNatAt)
         rintro e w10 ⟨rfl, hbw10⟩
         have kS := kS.past hbw10
         have kD := kD.past hbw10)
      | (go_at_call 53; rename _ ∧ Below w6.heap.size w6 _ => hS
         go_fit (rsmul_any _ _ _ _ l _ _ _ _ l2 _ (g1.past hS.2) (g2.past hS.2) (by omega) (by omega))
         rintro e w11 ⟨akP, nkP, ckP, rfl, kP, hbw11⟩
         have kS := kS.past hbw11
         have kD := kD.past hbw11
         have kP := kP.mono (Nat.le_trans hZ.size hS.2.size)
         rw [HX.out, HY.out] at kP ⊢)
      | (go_at_call 40; rename _ ∧ Below w6.heap.size w6 _ => hS
         go_fit (sameWhole_yes (hP.past hS.2).toNatAt kP.toNatAt)
         rintro e w12 ⟨rfl, hbw12⟩
         have kS := kS.past hbw12
         have kD := kD.past hbw12
         have kP := kP.past hbw12)
      | (go_at_call 54; rename _ ∧ Below w6.heap.size w6 _ => hS
         go_fit (rsneg_any _ _ _ _ l _ (g1.past hS.2) (by omega))
         rintro e w13 ⟨akN, nkN, ckN, rfl, kN, hbw13⟩
         have kS := kS.past hbw13
         have kD := kD.past hbw13
         have kP := kP.past hbw13
         have kN := kN.mono (Nat.le_trans hZ.size hS.2.size)
         rw [HX.out] at kN ⊢)
      | (go_at_call 40; rename _ ∧ Below w6.heap.size w6 _ => hS
         go_fit (sameWhole_yes (hN.past hS.2).toNatAt kN.toNatAt)
         rintro e w14 ⟨rfl, hbw14⟩
         have kS := kS.past hbw14
         have kD := kD.past hbw14
         have kP := kP.past hbw14
         have kN := kN.past hbw14)
      | (go_at_call 55; rename _ ∧ Below w6.heap.size w6 _ => hS
         go_fit (scmp_any _ _ _ _ l _ _ _ _ l2 _ (hI.past hS.2).toNatAt (hY.past hS.2).toNatAt (by omega) (by omega))
         rintro e w15 ⟨rfl, hbw15⟩
         have kS := kS.past hbw15
         have kD := kD.past hbw15
         have kP := kP.past hbw15
         have kN := kN.past hbw15
         rw [HX.out, HY.out])
      | (go_at_call 56; rename _ ∧ Below w6.heap.size w6 _ => hS
         go_fit (rscmp_any _ _ _ _ l _ _ _ _ l2 _ (g1.past hS.2) (g2.past hS.2) (by omega) (by omega))
         rintro e w16 ⟨rfl, hbw16⟩
         have kS := kS.past hbw16
         have kD := kD.past hbw16
         have kP := kP.past hbw16
         have kN := kN.past hbw16
         rw [HX.out, HY.out]))
  rename _ ∧ Below w6.heap.size w6 w16 => hS
  have hbR := hS.2
  have g1 := g1.past hbR
  have g2 := g2.past hbR
  have hI := hI.past hbR
  have hY := hY.past hbR
  have hS1 := hS1.past hbR
  have hD := hD.past hbR
  have hP := hP.past hbR
  have hN := hN.past hbR
  have qb10 := (hbR.cell (p := ⟨w.heap.size, 0, none⟩) lb1).trans qb10
  have qb11 := (hbR.cell (p := ⟨w.heap.size, 1, none⟩) lb1).trans qb11
  have lb1 := Nat.lt_of_lt_of_le lb1 hbR.size
  have qb20 := (hbR.cell (p := ⟨w.heap.size + 1, 0, none⟩) lb2).trans qb20
  have qb21 := (hbR.cell (p := ⟨w.heap.size + 1, 1, none⟩) lb2).trans qb21
  have lb2 := Nat.lt_of_lt_of_le lb2 hbR.size
  have qb30 := (hbR.cell (p := ⟨Bb3, 0, none⟩) lb3).trans qb30
  have qb31 := (hbR.cell (p := ⟨Bb3, 1, none⟩) lb3).trans qb31
  have lb3 := Nat.lt_of_lt_of_le lb3 hbR.size
  have qb40 := (hbR.cell (p := ⟨Bb4, 0, none⟩) lb4).trans qb40
  have qb41 := (hbR.cell (p := ⟨Bb4, 1, none⟩) lb4).trans qb41
  have lb4 := Nat.lt_of_lt_of_le lb4 hbR.size
  have qb70 := (hbR.cell (p := ⟨Bb7, 0, none⟩) lb7).trans qb70
  have qb71 := (hbR.cell (p := ⟨Bb7, 1, none⟩) lb7).trans qb71
  have lb7 := Nat.lt_of_lt_of_le lb7 hbR.size
  have qb80 := (hbR.cell (p := ⟨Bb8, 0, none⟩) lb8).trans qb80
  have qb81 := (hbR.cell (p := ⟨Bb8, 1, none⟩) lb8).trans qb81
  have lb8 := Nat.lt_of_lt_of_le lb8 hbR.size
  have qb90 := (hbR.cell (p := ⟨Bb9, 0, none⟩) lb9).trans qb90
  have qb91 := (hbR.cell (p := ⟨Bb9, 1, none⟩) lb9).trans qb91
  have lb9 := Nat.lt_of_lt_of_le lb9 hbR.size
  have qb100 := (hbR.cell (p := ⟨Bb10, 0, none⟩) lb10).trans qb100
  have qb101 := (hbR.cell (p := ⟨Bb10, 1, none⟩) lb10).trans qb101
  have lb10 := Nat.lt_of_lt_of_le lb10 hbR.size
  have hB := below_later hB hbR
  have hZ := below_later hZ hbR
  clear hS hbR
  have hS1 := hS1.writ
  have hD := hD.writ
  have hP := hP.writ
  have hN := hN.writ
  go_wp2_with fail
  with_reducible refine (overNat_any w5.heap.size _ _ _ _ hS1).mono ?_
  rintro e w17 ⟨rfl, hb, hg⟩
  have hD := hD.keep hg
  have hP := hP.keep hg
  have hN := hN.keep hg
  have qb10 := hg.2.2 _ _ qb10 (fun x e => by cases e)
  have qb11 := hg.2.2 _ _ qb11 (fun x e => by cases e)
  have lb1 := Nat.lt_of_lt_of_le lb1 hb.size
  have qb20 := hg.2.2 _ _ qb20 (fun x e => by cases e)
  have qb21 := hg.2.2 _ _ qb21 (fun x e => by cases e)
  have lb2 := Nat.lt_of_lt_of_le lb2 hb.size
  have qb30 := hg.2.2 _ _ qb30 (fun x e => by cases e)
  have qb31 := hg.2.2 _ _ qb31 (fun x e => by cases e)
  have lb3 := Nat.lt_of_lt_of_le lb3 hb.size
  have qb40 := hg.2.2 _ _ qb40 (fun x e => by cases e)
  have qb41 := hg.2.2 _ _ qb41 (fun x e => by cases e)
  have lb4 := Nat.lt_of_lt_of_le lb4 hb.size
  have qb70 := hg.2.2 _ _ qb70 (fun x e => by cases e)
  have qb71 := hg.2.2 _ _ qb71 (fun x e => by cases e)
  have lb7 := Nat.lt_of_lt_of_le lb7 hb.size
  have qb80 := hg.2.2 _ _ qb80 (fun x e => by cases e)
  have qb81 := hg.2.2 _ _ qb81 (fun x e => by cases e)
  have lb8 := Nat.lt_of_lt_of_le lb8 hb.size
  have qb90 := hg.2.2 _ _ qb90 (fun x e => by cases e)
  have qb91 := hg.2.2 _ _ qb91 (fun x e => by cases e)
  have lb9 := Nat.lt_of_lt_of_le lb9 hb.size
  have qb100 := hg.2.2 _ _ qb100 (fun x e => by cases e)
  have qb101 := hg.2.2 _ _ qb101 (fun x e => by cases e)
  have lb10 := Nat.lt_of_lt_of_le lb10 hb.size
  have hZ := hZ.trans hb
  clear hb hg
  go_wp2_with fail
  with_reducible refine (overNat_any w5.heap.size _ _ _ _ hD).mono ?_
  rintro e w18 ⟨rfl, hb, hg⟩
  have hP := hP.keep hg
  have hN := hN.keep hg
  have qb10 := hg.2.2 _ _ qb10 (fun x e => by cases e)
  have qb11 := hg.2.2 _ _ qb11 (fun x e => by cases e)
  have lb1 := Nat.lt_of_lt_of_le lb1 hb.size
  have qb20 := hg.2.2 _ _ qb20 (fun x e => by cases e)
  have qb21 := hg.2.2 _ _ qb21 (fun x e => by cases e)
  have lb2 := Nat.lt_of_lt_of_le lb2 hb.size
  have qb30 := hg.2.2 _ _ qb30 (fun x e => by cases e)
  have qb31 := hg.2.2 _ _ qb31 (fun x e => by cases e)
  have lb3 := Nat.lt_of_lt_of_le lb3 hb.size
  have qb40 := hg.2.2 _ _ qb40 (fun x e => by cases e)
  have qb41 := hg.2.2 _ _ qb41 (fun x e => by cases e)
  have lb4 := Nat.lt_of_lt_of_le lb4 hb.size
  have qb70 := hg.2.2 _ _ qb70 (fun x e => by cases e)
  have qb71 := hg.2.2 _ _ qb71 (fun x e => by cases e)
  have lb7 := Nat.lt_of_lt_of_le lb7 hb.size
  have qb80 := hg.2.2 _ _ qb80 (fun x e => by cases e)
  have qb81 := hg.2.2 _ _ qb81 (fun x e => by cases e)
  have lb8 := Nat.lt_of_lt_of_le lb8 hb.size
  have qb90 := hg.2.2 _ _ qb90 (fun x e => by cases e)
  have qb91 := hg.2.2 _ _ qb91 (fun x e => by cases e)
  have lb9 := Nat.lt_of_lt_of_le lb9 hb.size
  have qb100 := hg.2.2 _ _ qb100 (fun x e => by cases e)
  have qb101 := hg.2.2 _ _ qb101 (fun x e => by cases e)
  have lb10 := Nat.lt_of_lt_of_le lb10 hb.size
  have hZ := hZ.trans hb
  clear hb hg
  go_wp2_with fail
  with_reducible refine (overNat_any w5.heap.size _ _ _ _ hP).mono ?_
  rintro e w19 ⟨rfl, hb, hg⟩
  have hN := hN.keep hg
  have qb10 := hg.2.2 _ _ qb10 (fun x e => by cases e)
  have qb11 := hg.2.2 _ _ qb11 (fun x e => by cases e)
  have lb1 := Nat.lt_of_lt_of_le lb1 hb.size
  have qb20 := hg.2.2 _ _ qb20 (fun x e => by cases e)
  have qb21 := hg.2.2 _ _ qb21 (fun x e => by cases e)
  have lb2 := Nat.lt_of_lt_of_le lb2 hb.size
  have qb30 := hg.2.2 _ _ qb30 (fun x e => by cases e)
  have qb31 := hg.2.2 _ _ qb31 (fun x e => by cases e)
  have lb3 := Nat.lt_of_lt_of_le lb3 hb.size
  have qb40 := hg.2.2 _ _ qb40 (fun x e => by cases e)
  have qb41 := hg.2.2 _ _ qb41 (fun x e => by cases e)
  have lb4 := Nat.lt_of_lt_of_le lb4 hb.size
  have qb70 := hg.2.2 _ _ qb70 (fun x e => by cases e)
  have qb71 := hg.2.2 _ _ qb71 (fun x e => by cases e)
  have lb7 := Nat.lt_of_lt_of_le lb7 hb.size
  have qb80 := hg.2.2 _ _ qb80 (fun x e => by cases e)
  have qb81 := hg.2.2 _ _ qb81 (fun x e => by cases e)
  have lb8 := Nat.lt_of_lt_of_le lb8 hb.size
  have qb90 := hg.2.2 _ _ qb90 (fun x e => by cases e)
  have qb91 := hg.2.2 _ _ qb91 (fun x e => by cases e)
  have lb9 := Nat.lt_of_lt_of_le lb9 hb.size
  have qb100 := hg.2.2 _ _ qb100 (fun x e => by cases e)
  have qb101 := hg.2.2 _ _ qb101 (fun x e => by cases e)
  have lb10 := Nat.lt_of_lt_of_le lb10 hb.size
  have hZ := hZ.trans hb
  clear hb hg
  go_wp2_with fail
  with_reducible refine (overNat_any w5.heap.size _ _ _ _ hN).mono ?_
  rintro e w20 ⟨rfl, hb, hg⟩
  have qb10 := hg.2.2 _ _ qb10 (fun x e => by cases e)
  have qb11 := hg.2.2 _ _ qb11 (fun x e => by cases e)
  have lb1 := Nat.lt_of_lt_of_le lb1 hb.size
  have qb20 := hg.2.2 _ _ qb20 (fun x e => by cases e)
  have qb21 := hg.2.2 _ _ qb21 (fun x e => by cases e)
  have lb2 := Nat.lt_of_lt_of_le lb2 hb.size
  have qb30 := hg.2.2 _ _ qb30 (fun x e => by cases e)
  have qb31 := hg.2.2 _ _ qb31 (fun x e => by cases e)
  have lb3 := Nat.lt_of_lt_of_le lb3 hb.size
  have qb40 := hg.2.2 _ _ qb40 (fun x e => by cases e)
  have qb41 := hg.2.2 _ _ qb41 (fun x e => by cases e)
  have lb4 := Nat.lt_of_lt_of_le lb4 hb.size
  have qb70 := hg.2.2 _ _ qb70 (fun x e => by cases e)
  have qb71 := hg.2.2 _ _ qb71 (fun x e => by cases e)
  have lb7 := Nat.lt_of_lt_of_le lb7 hb.size
  have qb80 := hg.2.2 _ _ qb80 (fun x e => by cases e)
  have qb81 := hg.2.2 _ _ qb81 (fun x e => by cases e)
  have lb8 := Nat.lt_of_lt_of_le lb8 hb.size
  have qb90 := hg.2.2 _ _ qb90 (fun x e => by cases e)
  have qb91 := hg.2.2 _ _ qb91 (fun x e => by cases e)
  have lb9 := Nat.lt_of_lt_of_le lb9 hb.size
  have qb100 := hg.2.2 _ _ qb100 (fun x e => by cases e)
  have qb101 := hg.2.2 _ _ qb101 (fun x e => by cases e)
  have lb10 := Nat.lt_of_lt_of_le lb10 hb.size
  have hZ := hZ.trans hb
  clear hb hg
  have g1 := zg1.past hZ
  have g2 := zg2.past hZ
  have hI := zhI.past hZ
  have hY := zhY.past hZ
  have hB := below_later zB hZ
  go_wp2_with fail
  with_reducible refine (sameWhole_yes hI g1).mono ?_
  rintro e w21 ⟨rfl, hb⟩
  have g1 := g1.past hb
  have g2 := g2.past hb
  have hI := hI.past hb
  have hY := hY.past hb
  have qb10 := (hb.cell (p := ⟨w.heap.size, 0, none⟩) lb1).trans qb10
  have qb11 := (hb.cell (p := ⟨w.heap.size, 1, none⟩) lb1).trans qb11
  have lb1 := Nat.lt_of_lt_of_le lb1 hb.size
  have qb20 := (hb.cell (p := ⟨w.heap.size + 1, 0, none⟩) lb2).trans qb20
  have qb21 := (hb.cell (p := ⟨w.heap.size + 1, 1, none⟩) lb2).trans qb21
  have lb2 := Nat.lt_of_lt_of_le lb2 hb.size
  have qb30 := (hb.cell (p := ⟨Bb3, 0, none⟩) lb3).trans qb30
  have qb31 := (hb.cell (p := ⟨Bb3, 1, none⟩) lb3).trans qb31
  have lb3 := Nat.lt_of_lt_of_le lb3 hb.size
  have qb40 := (hb.cell (p := ⟨Bb4, 0, none⟩) lb4).trans qb40
  have qb41 := (hb.cell (p := ⟨Bb4, 1, none⟩) lb4).trans qb41
  have lb4 := Nat.lt_of_lt_of_le lb4 hb.size
  have qb70 := (hb.cell (p := ⟨Bb7, 0, none⟩) lb7).trans qb70
  have qb71 := (hb.cell (p := ⟨Bb7, 1, none⟩) lb7).trans qb71
  have lb7 := Nat.lt_of_lt_of_le lb7 hb.size
  have qb80 := (hb.cell (p := ⟨Bb8, 0, none⟩) lb8).trans qb80
  have qb81 := (hb.cell (p := ⟨Bb8, 1, none⟩) lb8).trans qb81
  have lb8 := Nat.lt_of_lt_of_le lb8 hb.size
  have qb90 := (hb.cell (p := ⟨Bb9, 0, none⟩) lb9).trans qb90
  have qb91 := (hb.cell (p := ⟨Bb9, 1, none⟩) lb9).trans qb91
  have lb9 := Nat.lt_of_lt_of_le lb9 hb.size
  have qb100 := (hb.cell (p := ⟨Bb10, 0, none⟩) lb10).trans qb100
  have qb101 := (hb.cell (p := ⟨Bb10, 1, none⟩) lb10).trans qb101
  have lb10 := Nat.lt_of_lt_of_le lb10 hb.size
  have hB := below_later hB hb
  clear hb
  go_wp2_with fail
  with_reducible refine (sameWhole_yes hY g2).mono ?_
  rintro e w22 ⟨rfl, hb⟩
  have g1 := g1.past hb
  have g2 := g2.past hb
  have hI := hI.past hb
  have hY := hY.past hb
  have qb10 := (hb.cell (p := ⟨w.heap.size, 0, none⟩) lb1).trans qb10
  have qb11 := (hb.cell (p := ⟨w.heap.size, 1, none⟩) lb1).trans qb11
  have lb1 := Nat.lt_of_lt_of_le lb1 hb.size
  have qb20 := (hb.cell (p := ⟨w.heap.size + 1, 0, none⟩) lb2).trans qb20
  have qb21 := (hb.cell (p := ⟨w.heap.size + 1, 1, none⟩) lb2).trans qb21
  have lb2 := Nat.lt_of_lt_of_le lb2 hb.size
  have qb30 := (hb.cell (p := ⟨Bb3, 0, none⟩) lb3).trans qb30
  have qb31 := (hb.cell (p := ⟨Bb3, 1, none⟩) lb3).trans qb31
  have lb3 := Nat.lt_of_lt_of_le lb3 hb.size
  have qb40 := (hb.cell (p := ⟨Bb4, 0, none⟩) lb4).trans qb40
  have qb41 := (hb.cell (p := ⟨Bb4, 1, none⟩) lb4).trans qb41
  have lb4 := Nat.lt_of_lt_of_le lb4 hb.size
  have qb70 := (hb.cell (p := ⟨Bb7, 0, none⟩) lb7).trans qb70
  have qb71 := (hb.cell (p := ⟨Bb7, 1, none⟩) lb7).trans qb71
  have lb7 := Nat.lt_of_lt_of_le lb7 hb.size
  have qb80 := (hb.cell (p := ⟨Bb8, 0, none⟩) lb8).trans qb80
  have qb81 := (hb.cell (p := ⟨Bb8, 1, none⟩) lb8).trans qb81
  have lb8 := Nat.lt_of_lt_of_le lb8 hb.size
  have qb90 := (hb.cell (p := ⟨Bb9, 0, none⟩) lb9).trans qb90
  have qb91 := (hb.cell (p := ⟨Bb9, 1, none⟩) lb9).trans qb91
  have lb9 := Nat.lt_of_lt_of_le lb9 hb.size
  have qb100 := (hb.cell (p := ⟨Bb10, 0, none⟩) lb10).trans qb100
  have qb101 := (hb.cell (p := ⟨Bb10, 1, none⟩) lb10).trans qb101
  have lb10 := Nat.lt_of_lt_of_le lb10 hb.size
  have hB := below_later hB hb
  clear hb
  go_wp2_with fail
  with_reducible refine (awake04 _).mono ?_
  rintro e w23 ⟨rfl, hb⟩
  have g1 := g1.past hb
  have g2 := g2.past hb
  have hI := hI.past hb
  have hY := hY.past hb
  have qb10 := (hb.cell (p := ⟨w.heap.size, 0, none⟩) lb1).trans qb10
  have qb11 := (hb.cell (p := ⟨w.heap.size, 1, none⟩) lb1).trans qb11
  have lb1 := Nat.lt_of_lt_of_le lb1 hb.size
  have qb20 := (hb.cell (p := ⟨w.heap.size + 1, 0, none⟩) lb2).trans qb20
  have qb21 := (hb.cell (p := ⟨w.heap.size + 1, 1, none⟩) lb2).trans qb21
  have lb2 := Nat.lt_of_lt_of_le lb2 hb.size
  have qb30 := (hb.cell (p := ⟨Bb3, 0, none⟩) lb3).trans qb30
  have qb31 := (hb.cell (p := ⟨Bb3, 1, none⟩) lb3).trans qb31
  have lb3 := Nat.lt_of_lt_of_le lb3 hb.size
  have qb40 := (hb.cell (p := ⟨Bb4, 0, none⟩) lb4).trans qb40
  have qb41 := (hb.cell (p := ⟨Bb4, 1, none⟩) lb4).trans qb41
  have lb4 := Nat.lt_of_lt_of_le lb4 hb.size
  have qb70 := (hb.cell (p := ⟨Bb7, 0, none⟩) lb7).trans qb70
  have qb71 := (hb.cell (p := ⟨Bb7, 1, none⟩) lb7).trans qb71
  have lb7 := Nat.lt_of_lt_of_le lb7 hb.size
  have qb80 := (hb.cell (p := ⟨Bb8, 0, none⟩) lb8).trans qb80
  have qb81 := (hb.cell (p := ⟨Bb8, 1, none⟩) lb8).trans qb81
  have lb8 := Nat.lt_of_lt_of_le lb8 hb.size
  have qb90 := (hb.cell (p := ⟨Bb9, 0, none⟩) lb9).trans qb90
  have qb91 := (hb.cell (p := ⟨Bb9, 1, none⟩) lb9).trans qb91
  have lb9 := Nat.lt_of_lt_of_le lb9 hb.size
  have qb100 := (hb.cell (p := ⟨Bb10, 0, none⟩) lb10).trans qb100
  have qb101 := (hb.cell (p := ⟨Bb10, 1, none⟩) lb10).trans qb101
  have lb10 := Nat.lt_of_lt_of_le lb10 hb.size
  have hB := below_later hB hb
  clear hb
  go_wp2
  go_ret
  exact ⟨rfl, hB⟩

end Go.Proofs.Ytlljljhiimeajaa
