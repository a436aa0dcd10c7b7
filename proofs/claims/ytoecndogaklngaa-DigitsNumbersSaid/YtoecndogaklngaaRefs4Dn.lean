import Derived.Test.YtoecndogaklngaaS0Dn
import Derived.Test.YtoecndogaklngaaNum5Dn
import Derived.Test.YtoecndogaklngaaNum2Dn
set_option linter.unusedVariables false
set_option linter.unusedSimpArgs false
namespace Go.Proofs.Ytoecndogaklngaa
open Go.RowKit
set_option maxRecDepth 100000 in
theorem rlen_any (a : Option Addr) (n c : Nat) (l : List Nat) (w : World) (h : NatAt w a n c l) (hs : n ≤ 549755813888) :
 Calls Try.prog 56 #[.slice a n c] w (RetVal w (.int .i64 ((nbits (val l) : Nat) : Int))) := by
 have hle := digs_length_val h.dig
 rw [h.len] at hle
 by_cases h0 : val l = 0
 · have hl : (digs (val l)).length = 0 := digs_len0.2 h0
   have HL := Lib.hid hl
   have e1 : nbits (val l) = 0 := by rw [h0]; rfl
   have E1 := Lib.hid e1
   clear hl h0 e1
   go_enter Try.func56, Try.ntmps56
   go_wp2_with fail
   refine (rtrim_any _ _ _ _ _ h (by omega)).mono ?_
   rintro e w1 ⟨a1, n1, c1, rfl, h1, hb⟩
   obtain rfl : n1 = 0 := by have := h1.len; rw [HL.out] at this; omega
   go_wp2
   go_ret
   exact ⟨by rw [E1.out]; rfl, hb⟩
 · have hm0 : (digs (val l)).length ≠ 0 := fun e => h0 (digs_len0.1 e)
   obtain ⟨m, hm⟩ : ∃ m, (digs (val l)).length = m + 1 := ⟨(digs (val l)).length - 1, by omega⟩
   have ht := D_digs_last h0
   rw [hm] at ht hle
   rw [show m + 1 - 1 = m by omega] at ht
   have hv := nbits_top (dig_digs (val l)) hm ht
   rw [val_digs] at hv
   have hD := (dig_digs (val l)).at_ m
   have HV := Lib.hid hv
   have HM := Lib.hid hm
   clear hv hm ht hm0 h0
   have t1 : (((m + 1 : Nat) : Int) == 0) = false := by simp only [beq_eq_false_iff_ne]; omega
   have hrt := rtrim_any _ _ _ _ _ h (show n ≤ 1099511627776 by omega)
   obtain ⟨L, hL⟩ : ∃ L, digs (val l) = L := ⟨_, rfl⟩
   have hrt : Calls Try.prog 29 #[.slice a n c] w fun e w' => ∃ b o c', e = .returned (.slice (some ⟨b, o, none⟩) (m + 1) c') ∧ w'.cell? ⟨b, o + m, none⟩ = some (.int .u64 ((D L m : Nat) : Int)) ∧ m + 1 ≤ c' ∧ c' ≤ 9223372036854775807 ∧ Below w.heap.size w w' := by
    refine hrt.mono ?_
    rintro e w1 ⟨a1, n1, c1, rfl, h1, hb⟩
    obtain rfl : n1 = m + 1 := by have := h1.len; rw [HM.out] at this; omega
    rcases h1.toNatAt.parts with h2 | ⟨b, o, rfl, hlt, hc⟩
    · omega
    · have := hc m (by omega)
      rw [hL] at this
      exact ⟨b, o, c1, rfl, this, h1.le, h1.cle, hb⟩
   rw [hL] at hD
   have HL := Lib.hid hL
   have HRT := Lib.hid hrt
   clear hrt hL
   go_enter Try.func56, Try.ntmps56
   go_wp2_with fail
   refine HRT.out.mono ?_
   rintro e w1 ⟨b, o, c1, rfl, hc, hc1, hc2, hb⟩
   go_wp2
   go_loop [3, 4] (fun bs x => ∃ y k : Nat, bs = .int .i64 k ∧ x = .int .u64 y ∧ k + nbits y = 64 * m + nbits (D L m) ∧ k ≤ 64 * m + 64 ∧ y < 18446744073709551616) (fun _ x => (intOf x).toNat)
   case atStart => exact ⟨D L m, 64 * m, by go_num, rfl, rfl, by omega, hD⟩
   case round =>
    obtain ⟨y, k, rfl, rfl, hk, hk2, hy⟩ := hrel
    by_cases hy0 : 0 < y
    · have e := nbits_pos (n := y) (by omega)
      have hb64 : nbits (D L m) ≤ 64 := nbits_le hD
      have hk3 : k + 1 ≤ 64 * m + 64 := by omega
      have ek : k + 1 + nbits (y / 2) = 64 * m + nbits (D L m) := by omega
      have EK := Lib.hid ek
      clear e hk ek
      go_wp2
      go_round
      case rel => exact ⟨y / 2, k + 1, by go_num, by go_num, EK.out, hk3, by omega⟩
      case measure => simp [intOf]; omega
    · obtain rfl : y = 0 := by omega
      have ek : k = nbits (val l) := by rw [HV.out, HL.out]; simpa [nbits_zero] using hk
      have EK := Lib.hid ek
      clear ek hk
      go_wp2
      go_ret
      exact ⟨by rw [← EK.out]; rfl, hb⟩
end Go.Proofs.Ytoecndogaklngaa
