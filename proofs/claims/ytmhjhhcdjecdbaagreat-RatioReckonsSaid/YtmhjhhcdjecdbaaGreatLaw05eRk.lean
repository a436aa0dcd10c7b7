import Derived.Test.YtmhjhhcdjecdbaaGreatS0Rk
import Derived.Test.YtmhjhhcdjecdbaaGreatLaw05bRk
import Derived.Test.YtmhjhhcdjecdbaaGreatRatio10Rk
import Derived.Test.YtmhjhhcdjecdbaaGreatRawRk
set_option linter.unusedVariables false
set_option linter.unusedSimpArgs false
namespace Go.Proofs.YtmhjhhcdjecdbaaGreat
open Go.RowKit
def longP (x : Bool × List Nat × List Nat) : Bool := decide ((5 : Int) < (x.2.1.length : Int)) || decide ((5 : Int) < (x.2.2.length : Int))
theorem longP_no {x : Bool × List Nat × List Nat} : longP x = false ↔ x.2.1.length ≤ 5 ∧ x.2.2.length ≤ 5 := by
 unfold longP
 rw [Bool.or_eq_false_iff, decide_eq_false_iff_not, decide_eq_false_iff_not]
 omega
def longB (f : Nat → Bool × List Nat × List Nat) (n : Nat) : Bool := (List.range (min n 7)).any (fun i => longP (f i)) || decide ((6 : Int) < (n : Int))
theorem longB_yes {f : Nat → Bool × List Nat × List Nat} {n k : Nat} (h : k < n) (h7 : k < 7) (hl : longP (f k) = true) : longB f n = true := by
 unfold longB
 rw [Bool.or_eq_true]
 refine .inl (List.any_eq_true.2 ⟨k, ?_, hl⟩)
 rw [List.mem_range]; omega
theorem longB_no {f : Nat → Bool × List Nat × List Nat} {n : Nat} (h : ∀ i, i < min n 7 → longP (f i) = false) : longB f n = decide ((6 : Int) < (n : Int)) := by
 unfold longB
 rw [List.any_eq_false.2 fun i hi => by rw [List.mem_range] at hi; simp [h i hi], Bool.false_or]
set_option maxRecDepth 100000 in
set_option maxHeartbeats 4000000 in
theorem long05_any (ar : Option Addr) (nr cr : Nat) (f : Nat → Bool × List Nat × List Nat) (w : World) (gr : RatsAt w ar nr cr f)  :
 Calls Tryz.prog 5 #[.slice ar nr cr] w (RetVal w (.bool (longB f nr))) := by
 have hcr := gr.cle
 have hnr := gr.le
 have hm : nr ≤ 9223372036854775807 := by unfold maxLen at hcr; omega
 go_enter Tryz.func5, Tryz.ntmps5
 have hB := Below.refl w.heap.size w
 go_wp2_with fail
 go_loopw [3] (fun i wr => ∃ (k : Nat), k ≤ nr ∧ k ≤ 7 ∧ i = .int .i64 ((k : Nat) : Int) ∧ Hid (∀ j, j < k → longP (f j) = false) ∧ Below w.heap.size w wr) (fun i _ => nr - (intOf i).toNat)
 case atStart => exact ⟨0, Nat.zero_le _, (Nat.zero_le _), rfl, Lib.hid (fun j hj => by omega), hB⟩
 case round =>
  obtain ⟨k, hk, hk7, rfl, HK, hB⟩ := hrel
  by_cases hlt : k < nr ∧ k < 7
  · rcases gr.cell with h0 | ⟨b, o, rfl, hbl, hc⟩
    · omega
    obtain ⟨a5, n5, c5, a6, n6, c6, q1, q2, q3, h5, h6⟩ := hc k (by omega)
    have q1 := (hB.cell (p := ⟨b, _, none⟩) hbl).trans q1
    have q2 := (hB.cell (p := ⟨b, _, none⟩) hbl).trans q2
    have q3 := (hB.cell (p := ⟨b, _, none⟩) hbl).trans q3
    have h5 := h5.past hB
    have h6 := h6.past hB
    clear hc gr
    obtain ⟨hlt, hlt7⟩ := hlt
    have hc5 := Nat.le_trans h5.le h5.cle
    have hc6 := Nat.le_trans h6.le h6.cle
    have hlp : longP (f k) = (decide ((5 : Int) < (n5 : Int)) || decide ((5 : Int) < (n6 : Int))) := by unfold longP; rw [h5.len, h6.len]
    by_cases hL : longP (f k) = true
    · have EE := Lib.hid (longB_yes hlt hlt7 hL)
      rw [hlp] at hL
      have HL := Lib.hid hL
      clear hL hlp
      go_wp2_with fail
      with_reducible refine (longRatio_any _ _ _ _ _ _ _ 5 _ hc5 hc6).mono ?_
      rintro e w1 ⟨rfl, hb⟩
      have h5 := h5.past hb
      have h6 := h6.past hb
      have hB := below_later hB hb
      clear hb
      rw [HL.out]
      go_wp2
      go_ret
      exact ⟨by rw [EE.out]; rfl, hB⟩
    · have hL := Bool.eq_false_iff.2 hL
      have hL2 := hL
      rw [hlp] at hL
      have HL := Lib.hid hL
      have HL2 := Lib.hid hL2
      clear hL hL2 hlp
      go_wp2_with fail
      with_reducible refine (longRatio_any _ _ _ _ _ _ _ 5 _ hc5 hc6).mono ?_
      rintro e w1 ⟨rfl, hb⟩
      have h5 := h5.past hb
      have h6 := h6.past hb
      have hB := below_later hB hb
      clear hb
      rw [HL.out]
      go_wp2
      go_roundw
      case rel => exact ⟨k + 1, by omega, by omega, by go_num, Lib.hid (fun j hj => by
       by_cases hjk : j = k
       · subst hjk; exact HL2.out
       · exact HK.out j (by omega)), hB⟩
      case measure => simp [intOf]; omega
  · have e : longB f nr = decide ((6 : Int) < (nr : Int)) := longB_no fun i hi => HK.out i (by omega)
    have EE := Lib.hid e
    clear e gr
    by_cases h6 : k < nr
    · obtain rfl : k = 7 := by omega
      go_wp2
      go_ret
      exact ⟨by rw [EE.out]; rfl, hB⟩
    · obtain rfl : k = nr := by omega
      go_wp2
      go_ret
      exact ⟨by rw [EE.out]; rfl, hB⟩
end Go.Proofs.YtmhjhhcdjecdbaaGreat
