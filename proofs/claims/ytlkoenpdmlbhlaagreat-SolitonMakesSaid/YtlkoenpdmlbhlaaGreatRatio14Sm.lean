import Derived.Test.YtlkoenpdmlbhlaaGreatS0Sm
import Derived.Test.YtlkoenpdmlbhlaaGreatRatio13Sm
import Derived.Test.YtlkoenpdmlbhlaaGreatRawSm
import Derived.Test.YtlkoenpdmlbhlaaGreatA9Sm
set_option linter.unusedVariables false
set_option linter.unusedSimpArgs false
namespace Go.Proofs.YtlkoenpdmlbhlaaGreat
open Go.RowKit
set_option maxRecDepth 100000 in
set_option maxHeartbeats 4000000 in
theorem rfine05_any (ar : Option Addr) (nr cr : Nat) (f : Nat → Bool × List Nat × List Nat) (w : World) (gr : RatsAt w ar nr cr f) (hk : ∀ i, i < nr → (f i).2.1.length ≤ 200000 ∧ (f i).2.2.length ≤ 200000) :
 Calls Tryz.prog 92 #[.slice ar nr cr] w (RetVal w (.bool (allR f nr))) := by
 have hcr := gr.cle
 have hnr := gr.le
 have hm : nr ≤ 9223372036854775807 := by unfold maxLen at hcr; omega
 go_enter Tryz.func92, Tryz.ntmps92
 have hB := Below.refl w.heap.size w
 go_wp2_with fail
 go_loopw [3] (fun i wr => ∃ (k : Nat), k ≤ nr ∧ i = .int .i64 ((k : Nat) : Int) ∧ Hid (∀ j, j < k → chk3 (f j) = 0) ∧ Below w.heap.size w wr) (fun i _ => nr - (intOf i).toNat)
 case atStart => exact ⟨0, Nat.zero_le _, rfl, Lib.hid (fun j hj => by omega), hB⟩
 case round =>
  obtain ⟨k, hkk, rfl, HK, hB⟩ := hrel
  by_cases hlt : k < nr
  · rcases gr.cell with h0 | ⟨b, o, rfl, hbl, hc⟩
    · omega
    obtain ⟨a5, n5, c5, a6, n6, c6, q1, q2, q3, h5, h6⟩ := hc k (by omega)
    have q1 := (hB.cell (p := ⟨b, _, none⟩) hbl).trans q1
    have q2 := (hB.cell (p := ⟨b, _, none⟩) hbl).trans q2
    have q3 := (hB.cell (p := ⟨b, _, none⟩) hbl).trans q3
    have h5 := h5.past hB
    have h6 := h6.past hB
    clear hc gr
    have b5 : n5 ≤ 200000 := by have := (hk k hlt).1; have := h5.len; omega
    have b6 : n6 ≤ 200000 := by have := (hk k hlt).2; have := h6.len; omega
    clear hk
    by_cases hz : chk3 (f k) = 0
    · have HZ := Lib.hid (show chkR (f k).1 (f k).2.1 (f k).2.2 = 0 from hz)
      clear hz
      go_wp2_with fail
      with_reducible refine (rcheck05_any (f k).1 _ _ _ (f k).2.1 _ _ _ (f k).2.2 _ h5 h6 b5 b6).mono ?_
      rintro e w1 ⟨rfl, hb⟩
      have h5 := h5.past hb
      have h6 := h6.past hb
      have hB := below_later hB hb
      clear hb
      rw [HZ.out]
      go_wp2
      go_roundw
      case rel => exact ⟨k + 1, by omega, by go_num, Lib.hid (fun j hj => by
       by_cases hjk : j = k
       · subst hjk; exact HZ.out
       · exact HK.out j (by omega)), hB⟩
      case measure => simp [intOf]; omega
    · have HZ := Lib.hid (show chkR (f k).1 (f k).2.1 (f k).2.2 = 6 from chkR_no hz)
      have EE := Lib.hid (allR_not hlt hz)
      clear hz
      go_wp2_with fail
      with_reducible refine (rcheck05_any (f k).1 _ _ _ (f k).2.1 _ _ _ (f k).2.2 _ h5 h6 b5 b6).mono ?_
      rintro e w1 ⟨rfl, hb⟩
      have h5 := h5.past hb
      have h6 := h6.past hb
      have hB := below_later hB hb
      clear hb
      rw [HZ.out]
      go_wp2
      go_ret
      exact ⟨by rw [EE.out]; rfl, hB⟩
  · obtain rfl : k = nr := by omega
    have EE := Lib.hid (allR_iff.2 HK.out)
    clear gr
    go_wp2
    go_ret
    exact ⟨by rw [EE.out]; rfl, hB⟩
end Go.Proofs.YtlkoenpdmlbhlaaGreat
