import Derived.Lib.MinMax
import Derived.Test.YtoecndogaklngaaS0Do
import Derived.Test.YtoecndogaklngaaLimbs2Do
set_option linter.unusedVariables false
set_option linter.unusedSimpArgs false
namespace Go.Proofs.Ytoecndogaklngaa
open Go.RowKit
set_option maxRecDepth 100000 in
theorem add_any (a : Option Addr) (n c : Nat) (l : List Nat) (a2 : Option Addr) (n2 c2 : Nat) (l2 : List Nat) (w : World) (h : NatAt w a n c l) (h2 : NatAt w a2 n2 c2 l2) (hs : n ≤ 549755813888) (hs2 : n2 ≤ 549755813888) :
 Calls Try.prog 18 #[.slice a n c, .slice a2 n2 c2] w (RetNat w (val l + val l2)) := by
 go_enter Try.func18, Try.ntmps18
 go_wp2_with fail
 refine (room_any _ _ (by omega) (by omega)).mono ?_
 rintro e w1 ⟨a1, c1, rfl, h3, hb⟩
 obtain ⟨M, hM1, hM2, hM⟩ : ∃ M : Nat, n ≤ M ∧ n2 ≤ M ∧ (max (n : Int) (n2 : Int) + 1).toNat = M + 1 ∧ M ≤ 549755813888 := ⟨max n n2, by omega, by omega, by omega, by omega⟩
 obtain ⟨hM, hM3⟩ := hM
 rw [hM] at h3 ⊢
 have HM := Lib.hid hM
 clear hM
 have hcle := h3.cle
 have hle := h3.le
 rcases h3.own with h3' | ⟨b, o, rfl, hB, hf⟩
 · omega
 clear hf
 go_wp2_with fail
 go_loopw [6, 7] (fun i cy wr => ∃ (k x : Nat) (os : List Nat), k ≤ M + 1 ∧ x ≤ 1 ∧ i = .int .i64 k ∧ cy = .int .u64 x ∧ OwnAt wr w.heap.size (some ⟨b, o, none⟩) (M + 1) c1 os ∧ lo os k + 18446744073709551616 ^ k * x = lo l k + lo l2 k ∧ Below w.heap.size w wr) (fun i _ _ => M + 1 - (intOf i).toNat)
 case atStart => exact ⟨0, 0, _, Nat.zero_le _, Nat.zero_le _, rfl, rfl, h3, by simp [lo_zero], hb⟩
 case round =>
  obtain ⟨k, x, os, hk, hx, rfl, rfl, h4, h5, h6⟩ := hrel
  by_cases hlt : k < M + 1
  · have e1 := h.later h6 (Nat.le_refl _)
    have e2 := h2.later h6 (Nat.le_refl _)
    have H5 := Lib.hid h5
    clear h5
    have d1 := h.dig.at_ k
    have d2 := h2.dig.at_ k
    have hcell : ∃ v, wr.cell? ⟨b, o + k, none⟩ = some v := by
     rcases h4.cell with h' | ⟨b', o', he, hc⟩
     · omega
     · cases he; exact ⟨_, hc k hlt⟩
    obtain ⟨v, hcell⟩ := hcell
    obtain ⟨d, cy, hd, hcy, hsum, hadd⟩ := add64_call (D l k) (D l2 k) x d1 d2 hx
    have HS := Lib.hid hsum
    clear hsum
    have hfro : wr.frozen? ⟨b, o + k, none⟩ = false := by
     rcases h4.own with h' | ⟨b', o', he, _, hf⟩
     · omega
     · cases he; exact hf k hlt
    go_wp2_with fail
    refine (digit_any _ _ _ l _ _ e1 (by omega)).mono ?_
    rintro e w' ⟨rfl, rfl⟩
    rw [Int.toNat_natCast]
    go_wp2_with fail
    refine (digit_any _ _ _ l2 _ _ e2 (by omega)).mono ?_
    rintro e w' ⟨rfl, rfl⟩
    rw [Int.toNat_natCast]
    go_wp2_with fail
    have h7 := h4.set hlt hd
    have h8 := h6.setCell (p := ⟨b, o + k, none⟩) hB (.int .u64 (d : Int))
    have h9 := add_step H5.out (by rw [h4.len]; exact hlt) HS.out
    go_wp2
    go_roundw
    case rel => exact ⟨k + 1, cy, _, by omega, hcy, by go_num, rfl, h7, h9, h8⟩
    case measure => simp [intOf]; omega
  · obtain rfl : k = M + 1 := by omega
    have h7 := add_end h.dig h2.dig h4.len (by rw [h.len]; exact hM1) (by rw [h2.len]; exact hM2) h5
    have h8 := h4.digs
    rw [h7] at h8
    have h9 := h8.le
    go_wp2_with fail
    refine (trimmed_any _ _ _ _ _ h4.toNatAt).mono ?_
    rintro e w' ⟨rfl, rfl⟩
    rw [h7]
    go_wp2_with fail
    refine (clip_any _ _ _ _ h9 hcle).mono ?_
    rintro e w' ⟨rfl, rfl⟩
    go_wp2
    go_ret
    exact ⟨_, _, _, rfl, h8.recap (Nat.le_refl _) h9, h6⟩
end Go.Proofs.Ytoecndogaklngaa
