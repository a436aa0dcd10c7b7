/- signed, third part: One; and the reference's One. -/
import Derived.Test.YtlljljhiimeajaaRefs10
set_option linter.unusedVariables false
set_option linter.unusedSimpArgs false
namespace Go.Proofs.Ytlljljhiimeajaa
open Go.RowKit

/-- a whole number as an int, if it is one -/
def isI (z : Int) : Bool := decide (-9223372036854775808 ≤ z ∧ z ≤ 9223372036854775807)
def oneI (z : Int) : Int := if -9223372036854775808 ≤ z ∧ z ≤ 9223372036854775807 then z else 0
theorem one_yes {z : Int} (h : -9223372036854775808 ≤ z ∧ z ≤ 9223372036854775807) : isI z = true ∧ oneI z = z := ⟨decide_eq_true h, if_pos h⟩
theorem one_no {z : Int} (h : ¬ (-9223372036854775808 ≤ z ∧ z ≤ 9223372036854775807)) : isI z = false ∧ oneI z = 0 := ⟨decide_eq_false h, if_neg h⟩
theorem oneN_yes {v : Nat} (h : v < 18446744073709551616) : oneN v = v ∧ oneB v = true := ⟨if_pos h, decide_eq_true h⟩
theorem oneN_no {v : Nat} (h : ¬ v < 18446744073709551616) : oneN v = 0 ∧ oneB v = false := ⟨if_neg h, decide_eq_false h⟩
theorem back_neg {v : Nat} (h : v ≤ 9223372036854775808) : IntKind.i64.wrap (IntKind.u64.wrap (-(v : Int))) = -(v : Int) := by
  rw [IntKind.wrap_u64, IntKind.wrap_i64]; omega
theorem back_pos {v : Nat} (h : v < 9223372036854775808) : IntKind.i64.wrap (v : Int) = (v : Int) := by
  rw [IntKind.wrap_i64]; omega

set_option maxRecDepth 100000 in
theorem sone_any (b : Bool) (a : Option Addr) (n c : Nat) (l : List Nat) (w : World) (h : NatAt w a n c l) :
    Calls Try.prog 38 #[.agg #[.bool b, .slice a n c]] w (RetVal w (.tuple #[.int .i64 (oneI (sg b (val l))), .bool (isI (sg b (val l)))])) := by
  have hcall := one_any a n c l (w.alloc (.cells #[.bool b, .slice a n c] 42)) (h.alloc _)
  have HC := Lib.hid hcall
  clear hcall h
  generalize val l = v at *
  by_cases hs' : ¬ v < 18446744073709551616
  · obtain ⟨r1, r2⟩ := one_no (z := sg b v) (by unfold sg; split <;> omega)
    obtain ⟨s1, s2⟩ := oneN_no hs'
    rw [r1, r2]
    have S1 := Lib.hid s1
    have S2 := Lib.hid s2
    clear r1 r2 s1 s2
    try clear hv
    try clear hs
    try clear hs'
    go_enter Try.func38, Try.ntmps38
    go_wp2_with fail
    refine HC.out.mono ?_
    rintro e w' ⟨rfl, rfl⟩
    rw [S1.out, S2.out]
    go_wp2
    go_ret2
    exact ⟨rfl, (Below.refl _ _).alloc (Nat.le_refl _) _⟩
  have hs : v < 18446744073709551616 := Decidable.byContradiction hs'
  clear hs'
  cases b
  · by_cases hv : v < 9223372036854775808
    · obtain ⟨r1, r2⟩ := one_yes (z := sg false v) (by unfold sg; simp; omega)
      obtain ⟨s1, s2⟩ := oneN_yes hs
      rw [r1, r2]
      rw [sg_false]
      have hbk := back_pos hv
      have hv2 : (v : Int) < 9223372036854775808 := by omega
      have S1 := Lib.hid s1
      have S2 := Lib.hid s2
      clear r1 r2 s1 s2
      try clear hv
      try clear hs
      try clear hs'
      go_enter Try.func38, Try.ntmps38
      go_wp2_with fail
      refine HC.out.mono ?_
      rintro e w' ⟨rfl, rfl⟩
      rw [S1.out, S2.out]
      go_wp2
      go_ret2
      exact ⟨rfl, (Below.refl _ _).alloc (Nat.le_refl _) _⟩
    · obtain ⟨r1, r2⟩ := one_no (z := sg false v) (by unfold sg; simp; omega)
      obtain ⟨s1, s2⟩ := oneN_yes hs
      rw [r1, r2]
      have hv2 : decide ((v : Int) < 9223372036854775808) = false := decide_eq_false (by omega)
      have S1 := Lib.hid s1
      have S2 := Lib.hid s2
      clear r1 r2 s1 s2
      try clear hv
      try clear hs
      try clear hs'
      go_enter Try.func38, Try.ntmps38
      go_wp2_with fail
      refine HC.out.mono ?_
      rintro e w' ⟨rfl, rfl⟩
      rw [S1.out, S2.out]
      go_wp2
      go_ret2
      exact ⟨rfl, (Below.refl _ _).alloc (Nat.le_refl _) _⟩
  · by_cases hv : v ≤ 9223372036854775808
    · obtain ⟨r1, r2⟩ := one_yes (z := sg true v) (by unfold sg; simp; omega)
      obtain ⟨s1, s2⟩ := oneN_yes hs
      rw [r1, r2]
      rw [sg_true]
      have hbk := back_neg hv
      have hv2 : (v : Int) ≤ 9223372036854775808 := by omega
      have S1 := Lib.hid s1
      have S2 := Lib.hid s2
      clear r1 r2 s1 s2
      try clear hv
      try clear hs
      try clear hs'
      go_enter Try.func38, Try.ntmps38
      go_wp2_with fail
      refine HC.out.mono ?_
      rintro e w' ⟨rfl, rfl⟩
      rw [S1.out, S2.out]
      go_wp2
      go_ret2
      exact ⟨rfl, (Below.refl _ _).alloc (Nat.le_refl _) _⟩
    · obtain ⟨r1, r2⟩ := one_no (z := sg true v) (by unfold sg; simp; omega)
      obtain ⟨s1, s2⟩ := oneN_yes hs
      rw [r1, r2]
      have hv2 : ¬ (v : Int) ≤ 9223372036854775808 := by omega
      have S1 := Lib.hid s1
      have S2 := Lib.hid s2
      clear r1 r2 s1 s2
      try clear hv
      try clear hs
      try clear hs'
      go_enter Try.func38, Try.ntmps38
      go_wp2_with fail
      refine HC.out.mono ?_
      rintro e w' ⟨rfl, rfl⟩
      rw [S1.out, S2.out]
      go_wp2
      go_ret2
      exact ⟨rfl, (Below.refl _ _).alloc (Nat.le_refl _) _⟩

set_option maxRecDepth 100000 in
theorem rsone_any (b : Bool) (a : Option Addr) (n c : Nat) (l : List Nat) (w : World) (h : NatAt w a n c l) (hs : n ≤ 1099511627776) :
    Calls Try.prog 39 #[.agg #[.bool b, .slice a n c]] w (RetVal w (.tuple #[.int .i64 (oneI (sg b (val l))), .bool (isI (sg b (val l)))])) := by
  have hcall := rsmake_any b a n c l (w.alloc (.cells #[.bool b, .slice a n c] 42)) (h.alloc _) hs
  have hlen : (digs (sg b (val l)).natAbs).length ≤ 1099511627776 := by rw [natAbs_sg]; have := h.short; omega
  have HL := Lib.hid hlen
  have HC := Lib.hid hcall
  clear hcall h hlen
  generalize sg b (val l) = z at *
  obtain ⟨v, hv⟩ : ∃ v, z.natAbs = v := ⟨_, rfl⟩
  have HV := Lib.hid hv
  by_cases hn : z < 0
  · have hn' : neg z = true := decide_eq_true hn
    have hzv : z = -(v : Int) := by omega
    by_cases h1 : v ≤ 9223372036854775808
    · obtain ⟨r1, r2⟩ := one_yes (z := z) (by omega)
      obtain ⟨s1, s2⟩ := oneN_yes (v := v) (by omega)
      rw [r1, r2]
      have hbk := back_neg (v := v) h1
      have hv3 : ¬ 9223372036854775808 < (v : Int) := by omega
      rw [hzv]
      have S1 := Lib.hid s1
      have S2 := Lib.hid s2
      have S3 := Lib.hid hn'
      clear r1 r2 s1 s2 hn' hn
      clear hzv hv
      try clear h1
      try clear h2
      go_enter Try.func39, Try.ntmps39
      go_wp2_with fail
      refine HC.out.mono ?_
      rintro e w1 ⟨a1, n1, c1, rfl, h1, hb⟩
      rw [S3.out]
      obtain ⟨hc, hf⟩ := bcell hb
      have hz : w.heap.size < w1.heap.size := by have := hb.size; simp at this; omega
      have hB : Below w.heap.size w ((w1.setCell ⟨w.heap.size, 0, none⟩ (.bool true)).setCell ⟨w.heap.size, 1, none⟩ (.slice a1 n1 c1)) := ((below_later ((Below.refl _ _).alloc (Nat.le_refl _) _) hb).setCell (p := ⟨w.heap.size, 0, none⟩) (Nat.le_refl _) _).setCell (p := ⟨w.heap.size, 1, none⟩) (Nat.le_refl _) _
      have h2 := (h1.setOff (b := w.heap.size) (o := 0) (by simp) (.bool true)).setOff (b := w.heap.size) (o := 1) (by simp) (.slice a1 n1 c1)
      go_wp2_with fail
      with_reducible refine (rone_any _ _ _ _ _ h2.toNatAt (h1.len ▸ HL.out)).mono ?_
      rintro e w2 ⟨rfl, hb2⟩
      rw [val_digs, HV.out, S1.out, S2.out]
      have hB2 := below_later hB hb2
      have q0 := hb2.cell (p := ⟨w.heap.size, 0, none⟩) (by simpa using hz)
      rw [World.cell?_setCell_other _ (a := ⟨w.heap.size, 1, none⟩) (b := ⟨w.heap.size, 0, none⟩) _ (fun e => by have := congrArg Addr.off e; simp at this), World.cell?_setCell_same _ ⟨w.heap.size, 0, none⟩ _ ((hc w.heap.size 0 (by simp)).trans (World.cell?_alloc_at _ _ _ _ rfl))] at q0
      clear hb hb2 hB h1 h2 hc hf hz HC HL S1 S2 S3
      go_wp2
      go_ret2
      exact ⟨rfl, hB2⟩
    by_cases h2 : v < 18446744073709551616
    · obtain ⟨r1, r2⟩ := one_no (z := z) (by omega)
      obtain ⟨s1, s2⟩ := oneN_yes h2
      rw [r1, r2]
      have hv3 : 9223372036854775808 < (v : Int) := by omega
      have S1 := Lib.hid s1
      have S2 := Lib.hid s2
      have S3 := Lib.hid hn'
      clear r1 r2 s1 s2 hn' hn
      clear hzv hv
      try clear h1
      try clear h2
      go_enter Try.func39, Try.ntmps39
      go_wp2_with fail
      refine HC.out.mono ?_
      rintro e w1 ⟨a1, n1, c1, rfl, h1, hb⟩
      rw [S3.out]
      obtain ⟨hc, hf⟩ := bcell hb
      have hz : w.heap.size < w1.heap.size := by have := hb.size; simp at this; omega
      have hB : Below w.heap.size w ((w1.setCell ⟨w.heap.size, 0, none⟩ (.bool true)).setCell ⟨w.heap.size, 1, none⟩ (.slice a1 n1 c1)) := ((below_later ((Below.refl _ _).alloc (Nat.le_refl _) _) hb).setCell (p := ⟨w.heap.size, 0, none⟩) (Nat.le_refl _) _).setCell (p := ⟨w.heap.size, 1, none⟩) (Nat.le_refl _) _
      have h2 := (h1.setOff (b := w.heap.size) (o := 0) (by simp) (.bool true)).setOff (b := w.heap.size) (o := 1) (by simp) (.slice a1 n1 c1)
      go_wp2_with fail
      with_reducible refine (rone_any _ _ _ _ _ h2.toNatAt (h1.len ▸ HL.out)).mono ?_
      rintro e w2 ⟨rfl, hb2⟩
      rw [val_digs, HV.out, S1.out, S2.out]
      have hB2 := below_later hB hb2
      have q0 := hb2.cell (p := ⟨w.heap.size, 0, none⟩) (by simpa using hz)
      rw [World.cell?_setCell_other _ (a := ⟨w.heap.size, 1, none⟩) (b := ⟨w.heap.size, 0, none⟩) _ (fun e => by have := congrArg Addr.off e; simp at this), World.cell?_setCell_same _ ⟨w.heap.size, 0, none⟩ _ ((hc w.heap.size 0 (by simp)).trans (World.cell?_alloc_at _ _ _ _ rfl))] at q0
      clear hb hb2 hB h1 h2 hc hf hz HC HL S1 S2 S3
      go_wp2
      go_ret2
      exact ⟨rfl, hB2⟩
    · obtain ⟨r1, r2⟩ := one_no (z := z) (by omega)
      obtain ⟨s1, s2⟩ := oneN_no h2
      rw [r1, r2]
      have S1 := Lib.hid s1
      have S2 := Lib.hid s2
      have S3 := Lib.hid hn'
      clear r1 r2 s1 s2 hn' hn
      clear hzv hv
      try clear h1
      try clear h2
      go_enter Try.func39, Try.ntmps39
      go_wp2_with fail
      refine HC.out.mono ?_
      rintro e w1 ⟨a1, n1, c1, rfl, h1, hb⟩
      rw [S3.out]
      obtain ⟨hc, hf⟩ := bcell hb
      have hz : w.heap.size < w1.heap.size := by have := hb.size; simp at this; omega
      have hB : Below w.heap.size w ((w1.setCell ⟨w.heap.size, 0, none⟩ (.bool true)).setCell ⟨w.heap.size, 1, none⟩ (.slice a1 n1 c1)) := ((below_later ((Below.refl _ _).alloc (Nat.le_refl _) _) hb).setCell (p := ⟨w.heap.size, 0, none⟩) (Nat.le_refl _) _).setCell (p := ⟨w.heap.size, 1, none⟩) (Nat.le_refl _) _
      have h2 := (h1.setOff (b := w.heap.size) (o := 0) (by simp) (.bool true)).setOff (b := w.heap.size) (o := 1) (by simp) (.slice a1 n1 c1)
      go_wp2_with fail
      with_reducible refine (rone_any _ _ _ _ _ h2.toNatAt (h1.len ▸ HL.out)).mono ?_
      rintro e w2 ⟨rfl, hb2⟩
      rw [val_digs, HV.out, S1.out, S2.out]
      have hB2 := below_later hB hb2
      have q0 := hb2.cell (p := ⟨w.heap.size, 0, none⟩) (by simpa using hz)
      rw [World.cell?_setCell_other _ (a := ⟨w.heap.size, 1, none⟩) (b := ⟨w.heap.size, 0, none⟩) _ (fun e => by have := congrArg Addr.off e; simp at this), World.cell?_setCell_same _ ⟨w.heap.size, 0, none⟩ _ ((hc w.heap.size 0 (by simp)).trans (World.cell?_alloc_at _ _ _ _ rfl))] at q0
      clear hb hb2 hB h1 h2 hc hf hz HC HL S1 S2 S3
      go_wp2
      go_ret2
      exact ⟨rfl, hB2⟩
  · have hn' : neg z = false := decide_eq_false hn
    have hzv : z = (v : Int) := by omega
    by_cases h1 : v < 9223372036854775808
    · obtain ⟨r1, r2⟩ := one_yes (z := z) (by omega)
      obtain ⟨s1, s2⟩ := oneN_yes (v := v) (by omega)
      rw [r1, r2]
      have hbk := back_pos (v := v) h1
      have hv3 : decide (9223372036854775808 ≤ (v : Int)) = false := decide_eq_false (by omega)
      have hv4 : ¬ 9223372036854775808 < (v : Int) := by omega
      rw [hzv]
      have S1 := Lib.hid s1
      have S2 := Lib.hid s2
      have S3 := Lib.hid hn'
      clear r1 r2 s1 s2 hn' hn
      clear hzv hv
      try clear h1
      try clear h2
      go_enter Try.func39, Try.ntmps39
      go_wp2_with fail
      refine HC.out.mono ?_
      rintro e w1 ⟨a1, n1, c1, rfl, h1, hb⟩
      rw [S3.out]
      obtain ⟨hc, hf⟩ := bcell hb
      have hz : w.heap.size < w1.heap.size := by have := hb.size; simp at this; omega
      have hB : Below w.heap.size w ((w1.setCell ⟨w.heap.size, 0, none⟩ (.bool false)).setCell ⟨w.heap.size, 1, none⟩ (.slice a1 n1 c1)) := ((below_later ((Below.refl _ _).alloc (Nat.le_refl _) _) hb).setCell (p := ⟨w.heap.size, 0, none⟩) (Nat.le_refl _) _).setCell (p := ⟨w.heap.size, 1, none⟩) (Nat.le_refl _) _
      have h2 := (h1.setOff (b := w.heap.size) (o := 0) (by simp) (.bool false)).setOff (b := w.heap.size) (o := 1) (by simp) (.slice a1 n1 c1)
      go_wp2_with fail
      with_reducible refine (rone_any _ _ _ _ _ h2.toNatAt (h1.len ▸ HL.out)).mono ?_
      rintro e w2 ⟨rfl, hb2⟩
      rw [val_digs, HV.out, S1.out, S2.out]
      have hB2 := below_later hB hb2
      have q0 := hb2.cell (p := ⟨w.heap.size, 0, none⟩) (by simpa using hz)
      rw [World.cell?_setCell_other _ (a := ⟨w.heap.size, 1, none⟩) (b := ⟨w.heap.size, 0, none⟩) _ (fun e => by have := congrArg Addr.off e; simp at this), World.cell?_setCell_same _ ⟨w.heap.size, 0, none⟩ _ ((hc w.heap.size 0 (by simp)).trans (World.cell?_alloc_at _ _ _ _ rfl))] at q0
      clear hb hb2 hB h1 h2 hc hf hz HC HL S1 S2 S3
      go_wp2
      go_ret2
      exact ⟨rfl, hB2⟩
    by_cases h2 : v < 18446744073709551616
    · obtain ⟨r1, r2⟩ := one_no (z := z) (by omega)
      obtain ⟨s1, s2⟩ := oneN_yes h2
      rw [r1, r2]
      have hv3 : 9223372036854775808 ≤ (v : Int) := by omega
      have S1 := Lib.hid s1
      have S2 := Lib.hid s2
      have S3 := Lib.hid hn'
      clear r1 r2 s1 s2 hn' hn
      clear hzv hv
      try clear h1
      try clear h2
      go_enter Try.func39, Try.ntmps39
      go_wp2_with fail
      refine HC.out.mono ?_
      rintro e w1 ⟨a1, n1, c1, rfl, h1, hb⟩
      rw [S3.out]
      obtain ⟨hc, hf⟩ := bcell hb
      have hz : w.heap.size < w1.heap.size := by have := hb.size; simp at this; omega
      have hB : Below w.heap.size w ((w1.setCell ⟨w.heap.size, 0, none⟩ (.bool false)).setCell ⟨w.heap.size, 1, none⟩ (.slice a1 n1 c1)) := ((below_later ((Below.refl _ _).alloc (Nat.le_refl _) _) hb).setCell (p := ⟨w.heap.size, 0, none⟩) (Nat.le_refl _) _).setCell (p := ⟨w.heap.size, 1, none⟩) (Nat.le_refl _) _
      have h2 := (h1.setOff (b := w.heap.size) (o := 0) (by simp) (.bool false)).setOff (b := w.heap.size) (o := 1) (by simp) (.slice a1 n1 c1)
      go_wp2_with fail
      with_reducible refine (rone_any _ _ _ _ _ h2.toNatAt (h1.len ▸ HL.out)).mono ?_
      rintro e w2 ⟨rfl, hb2⟩
      rw [val_digs, HV.out, S1.out, S2.out]
      generalize ((v : Nat) : Int) = y at hv3 ⊢
      have hB2 := below_later hB hb2
      have q0 := hb2.cell (p := ⟨w.heap.size, 0, none⟩) (by simpa using hz)
      rw [World.cell?_setCell_other _ (a := ⟨w.heap.size, 1, none⟩) (b := ⟨w.heap.size, 0, none⟩) _ (fun e => by have := congrArg Addr.off e; simp at this), World.cell?_setCell_same _ ⟨w.heap.size, 0, none⟩ _ ((hc w.heap.size 0 (by simp)).trans (World.cell?_alloc_at _ _ _ _ rfl))] at q0
      clear hb hb2 hB h1 h2 hc hf hz HC HL S1 S2 S3
      go_wp2
      go_ret2
      exact ⟨rfl, hB2⟩
    · obtain ⟨r1, r2⟩ := one_no (z := z) (by omega)
      obtain ⟨s1, s2⟩ := oneN_no h2
      rw [r1, r2]
      have S1 := Lib.hid s1
      have S2 := Lib.hid s2
      have S3 := Lib.hid hn'
      clear r1 r2 s1 s2 hn' hn
      clear hzv hv
      try clear h1
      try clear h2
      go_enter Try.func39, Try.ntmps39
      go_wp2_with fail
      refine HC.out.mono ?_
      rintro e w1 ⟨a1, n1, c1, rfl, h1, hb⟩
      rw [S3.out]
      obtain ⟨hc, hf⟩ := bcell hb
      have hz : w.heap.size < w1.heap.size := by have := hb.size; simp at this; omega
      have hB : Below w.heap.size w ((w1.setCell ⟨w.heap.size, 0, none⟩ (.bool false)).setCell ⟨w.heap.size, 1, none⟩ (.slice a1 n1 c1)) := ((below_later ((Below.refl _ _).alloc (Nat.le_refl _) _) hb).setCell (p := ⟨w.heap.size, 0, none⟩) (Nat.le_refl _) _).setCell (p := ⟨w.heap.size, 1, none⟩) (Nat.le_refl _) _
      have h2 := (h1.setOff (b := w.heap.size) (o := 0) (by simp) (.bool false)).setOff (b := w.heap.size) (o := 1) (by simp) (.slice a1 n1 c1)
      go_wp2_with fail
      with_reducible refine (rone_any _ _ _ _ _ h2.toNatAt (h1.len ▸ HL.out)).mono ?_
      rintro e w2 ⟨rfl, hb2⟩
      rw [val_digs, HV.out, S1.out, S2.out]
      have hB2 := below_later hB hb2
      have q0 := hb2.cell (p := ⟨w.heap.size, 0, none⟩) (by simpa using hz)
      rw [World.cell?_setCell_other _ (a := ⟨w.heap.size, 1, none⟩) (b := ⟨w.heap.size, 0, none⟩) _ (fun e => by have := congrArg Addr.off e; simp at this), World.cell?_setCell_same _ ⟨w.heap.size, 0, none⟩ _ ((hc w.heap.size 0 (by simp)).trans (World.cell?_alloc_at _ _ _ _ rfl))] at q0
      clear hb hb2 hB h1 h2 hc hf hz HC HL S1 S2 S3
      go_wp2
      go_ret2
      exact ⟨rfl, hB2⟩

end Go.Proofs.Ytlljljhiimeajaa
