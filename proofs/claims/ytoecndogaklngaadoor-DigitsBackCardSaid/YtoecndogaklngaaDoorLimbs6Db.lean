import Derived.Deep.RegionWith
import Derived.BigRegion
import Derived.Test.YtoecndogaklngaaDoorS0Db
import Derived.Test.YtoecndogaklngaaDoorLimbs3Db
import Derived.Test.YtoecndogaklngaaDoorLimbs5Db
set_option linter.unusedVariables false
set_option linter.unusedSimpArgs false
namespace Go.Proofs.YtoecndogaklngaaDoor
open Go.RowKit
set_option maxHeartbeats 1000000 in
set_option maxRecDepth 100000 in
theorem sub_yes (a : Option Addr) (n c : Nat) (l : List Nat) (a2 : Option Addr) (n2 c2 : Nat) (l2 : List Nat) (w : World) (h : NatAt w a n c l) (h2 : NatAt w a2 n2 c2 l2) (hs : n ≤ 549755813888) (hv : val l2 ≤ val l) :
 Calls Tryd.prog 83 #[.slice a n c, .slice a2 n2 c2] w (RetNatOk w (val l - val l2) 0) := by
 have ht : 0 ≤ cmpI (val l) (val l2) := by
  rcases Int.lt_or_le (cmpI (val l) (val l2)) 0 with h' | h'
  · have := cmpI_neg.1 h'; omega
  · exact h'
 have HV := Lib.hid hv
 clear hv
 go_enter Tryd.func83, Tryd.ntmps83
 go_wp2_with fail
 refine (cmp_any _ _ _ l _ _ _ l2 _ h h2).mono ?_
 rintro e w0 ⟨rfl, hb0⟩
 go_wp2_with fail
 refine (room_any _ _ (by omega) (by omega)).mono ?_
 rintro e w1 ⟨a1, c1, rfl, h3, hb1⟩
 rw [Int.toNat_natCast] at h3 ⊢
 have hb := below_later hb0 hb1
 have hcle := h3.cle
 have hle := h3.le
 have h3 := h3.mono hb0.size
 by_cases hn0 : n = 0
 · subst hn0
   have hl0 : l = [] := List.eq_nil_of_length_eq_zero h.len
   have hz : val l - val l2 = 0 := by rw [hl0]; simp [val]
   have HZ := Lib.hid hz
   clear hz hl0
   go_wp2_with fail
   refine wp_loop_rounds 1 ?_
   rw [rounds_succ]
   go_wp2_with fail
   refine (trimmed_any _ _ _ _ _ h3.toNatAt).mono ?_
   rintro e w' ⟨rfl, rfl⟩
   rw [show (digs (val (List.replicate 0 0))).length = 0 from rfl]
   go_wp2_with fail
   refine (clip_any _ _ _ _ (by omega) hcle).mono ?_
   rintro e w' ⟨rfl, rfl⟩
   go_wp2
   go_ret2
   refine ⟨_, _, _, rfl, ?_, hb⟩
   rw [HZ.out]
   exact h3.recap (Nat.le_refl _) (by omega)
 rcases h3.own with h3' | ⟨b, o, rfl, hB, hf⟩
 · omega
 clear hf
 go_wp2_with fail
 go_loopw [7, 8] (fun i cy wr => ∃ (k x : Nat) (os : List Nat), k ≤ n ∧ x ≤ 1 ∧ i = .int .i64 k ∧ cy = .int .u64 x ∧ OwnAt wr w.heap.size (some ⟨b, o, none⟩) n c1 os ∧ lo os k + lo l2 k = lo l k + 18446744073709551616 ^ k * x ∧ Below w.heap.size w wr) (fun i _ _ => n - (intOf i).toNat)
 case atStart => exact ⟨0, 0, _, Nat.zero_le _, Nat.zero_le _, rfl, rfl, h3, by simp [lo_zero], hb⟩
 case round =>
  obtain ⟨k, x, os, hk, hx, rfl, rfl, h4, h5, h6⟩ := hrel
  by_cases hlt : k < n
  · have e1 := h.later h6 (Nat.le_refl _)
    have e2 := (h2.later h6 (Nat.le_refl _)).drew
    have H5 := Lib.hid h5
    clear h5
    have d1 := h.dig.at_ k
    have d2 := h2.dig.at_ k
    have hcell : ∃ v, wr.cell? ⟨b, o + k, none⟩ = some v := by
     rcases h4.cell with h' | ⟨b', o', he, hc⟩
     · omega
     · cases he; exact ⟨_, hc k hlt⟩
    obtain ⟨v, hcell⟩ := hcell
    have hfro : wr.frozen? ⟨b, o + k, none⟩ = false := by
     rcases h4.own with h' | ⟨b', o', he, _, hf⟩
     · omega
     · cases he; exact hf k hlt
    obtain ⟨d, cy, hd, hcy, hsum, hsub⟩ := sub64_call (D l k) (D l2 k) x d1 d2 hx
    have HS := Lib.hid hsum
    clear hsum
    rcases e1.parts with h' | ⟨ba, oa, rfl, _, hca⟩
    · omega
    have hca' := hca k hlt
    clear hca
    go_wp2_with fail
    have hfo : Tryd.prog.follows .mixedOrders = true := by kernel_rfl
    go_region_with (first | (go_at_call 58; refine (digit_any _ _ _ l2 _ _ e2 (by omega)).mono ?_; rintro e w' ⟨rfl, rfl⟩; rw [Int.toNat_natCast]))
    all_goals
     have h7 := h4.drew.set hlt hd
     have h8 := h6.drew.setCell (p := ⟨b, o + k, none⟩) hB (.int .u64 (d : Int))
     have h9 := sub_step H5.out (by rw [h4.len]; exact hlt) HS.out
     go_wp2
     go_roundw
     case rel => exact ⟨k + 1, cy, _, by omega, hcy, by go_num, rfl, h7, h9, h8⟩
     case measure => simp [intOf]; omega
  · obtain rfl : k = n := by omega
    have h7 := sub_end h.dig h4.dig h4.len (by rw [h.len]; exact Nat.le_refl _) HV.out h5
    have h8 := h4.digs
    rw [h7] at h8
    have h9 := h8.le
    clear h5
    go_wp2_with fail
    refine (trimmed_any _ _ _ _ _ h4.toNatAt).mono ?_
    rintro e w' ⟨rfl, rfl⟩
    rw [h7]
    go_wp2_with fail
    refine (clip_any _ _ _ _ h9 hcle).mono ?_
    rintro e w' ⟨rfl, rfl⟩
    go_wp2
    go_ret2
    exact ⟨_, _, _, rfl, h8.recap (Nat.le_refl _) h9, h6⟩
end Go.Proofs.YtoecndogaklngaaDoor
