/- the reference of limbs, sixth part: Up. -/
import Derived.Test.YtlnijohobnjlfaaRefs2
import Derived.Test.YtlnijohobnjlfaaNum2
set_option linter.unusedVariables false
set_option linter.unusedSimpArgs false
namespace Go.Proofs.Ytlnijohobnjlfaa
open Go.RowKit

theorem rup_bits {x z r : Nat} (hz : z < 18446744073709551616) (hr : r ≤ 63) :
    bits .or .u64 (IntKind.u64.wrap ((x : Int) * 2 ^ r)) ((z : Int) / 2 ^ (64 - r)) = ((z / 2 ^ (64 - r) + x * 2 ^ r % 18446744073709551616 : Nat) : Int) := by
  have e1 : (z : Int) / 2 ^ (64 - r) = ((z / 2 ^ (64 - r) : Nat) : Int) := by rw [Int.natCast_ediv, Int.natCast_pow]; rfl
  have e2 : IntKind.u64.wrap ((x : Int) * 2 ^ r) = ((x * 2 ^ r % 18446744073709551616 : Nat) : Int) := by
    rw [IntKind.wrap_u64]
    simp only [Int.natCast_emod, Int.natCast_mul, Int.natCast_pow]
    rfl
  rw [e1, e2, u64_or_nat _ _ (Nat.mod_lt _ (by decide)) (Nat.lt_of_le_of_lt (Nat.div_le_self _ _) hz), rup_or hr hz]

theorem rshiftUp_no (a : Option Addr) (n c : Nat) (by_ : Int) (w : World) (hv : by_ < 0 ∨ 16777216 < by_) :
    Calls Try.prog 29 #[.slice a n c, .int .i64 by_] w (RetVal w (.tuple #[.slice none 0 0, .int .i64 3])) := by
  go_enter Try.func29, Try.ntmps29
  go_wp2_with fail
  refine (moved_no _ _ hv).mono ?_
  rintro e w' ⟨rfl, rfl⟩
  go_wp2_with fail
  go_ret2
  exact ⟨rfl, Below.refl _ _⟩

set_option maxHeartbeats 1000000 in
theorem rshiftUp_any (a : Option Addr) (n c : Nat) (l : List Nat) (s : Int) (w : World) (h : NatAt w a n c l) (hs : n ≤ 549755813888) (h0 : 0 ≤ s) (h1 : s ≤ 16777216) :
    Calls Try.prog 29 #[.slice a n c, .int .i64 s] w (RetNatOk w (val l * 2 ^ s.toNat) 0) := by
  obtain ⟨i0, hi, hz0, hz1, hz2⟩ := info_parts info39
  obtain ⟨q, r, rfl, hr⟩ : ∃ q r : Nat, s = 64 * q + r ∧ r ≤ 63 := ⟨(s / 64).toNat, (s % 64).toNat, by omega, by omega⟩
  have es : (64 * (q : Int) + r).toNat = 64 * q + r := by omega
  rw [es]
  have hq : (64 * (q : Int) + r) / 64 = q := by omega
  have hm : (64 * (q : Int) + r) % 64 = r := by omega
  have ES := Lib.hid es
  clear es
  have hn1 := h.le
  have hn2 := h.cle
  have HL := Lib.hid h.len
  by_cases hv : val l = 0
  · have hl : (digs (val l)).length = 0 := digs_len0.2 hv
    have HD := Lib.hid hl
    have HV := Lib.hid hv
    clear hl hv
    go_enter Try.func29, Try.ntmps29
    go_wp2_with fail
    refine (moved_yes _ _ h0 h1).mono ?_
    rintro e w' ⟨rfl, rfl⟩
    go_wp2_with fail
    refine (rtrim_any _ _ _ _ _ h (by omega)).mono ?_
    rintro e w1 ⟨a1, n1, c1, rfl, h2, hb⟩
    obtain rfl : n1 = 0 := by have := h2.len; rw [HD.out] at this; omega
    go_wp2
    go_ret2
    exact ⟨_, _, _, rfl, by rw [HV.out, Nat.zero_mul]; exact OwnAt.nil _ _, hb⟩
  have hl : (digs (val l)).length ≠ 0 := fun e => hv (digs_len0.1 e)
  clear hv
  go_enter Try.func29, Try.ntmps29
  go_wp2_with fail
  refine (moved_yes _ _ h0 h1).mono ?_
  rintro e w' ⟨rfl, rfl⟩
  go_wp2_with fail
  refine (rtrim_any _ _ _ _ _ h (by omega)).mono ?_
  rintro e w1 ⟨a1, n1, c1, rfl, h2, hb1⟩
  have t1 : ((n1 : Int) == 0) = false := by have := h2.len; simp only [beq_eq_false_iff_ne]; omega
  clear hl
  go_wp2_with (at_make; refine wpList_make_full _ rfl _ _ 23 rfl w.heap.size 39 i0 (.int .u64 0) 1 Try.underlying23 hi hz0 hz1 .i64 .i64 _ _ q rfl rfl hq hq (by rw [hz2]; omega) (by simp only [maxLen]; omega) hb1.size ?_; intro w2 hr2 hg2)
  have hb2 : Below w.heap.size w w2 := hb1.grown hg2 hb1.size (fun k e => by cases e)
  have hrow0 : w2.ownsRow w.heap.size 39 1 (.slice (some ⟨w1.heap.size, 0, none⟩) q q) q (dv (List.replicate q 0)) := by
    rw [dv_replicate, ← toList_madeCells_one]; rw [Nat.mul_one] at hr2; exact hr2
  rw [hm]
  clear hm hq hr2 hg2
  go_loopw [6, 7, 9] (fun v zz i wr => ∃ (k z : Nat) (os : List Nat) (b : Option Addr) (cc : Nat), k ≤ n + 1 ∧ i = .int .i64 ((k : Nat) : Int) ∧ zz = .int .u64 ((z : Nat) : Int) ∧ z < 18446744073709551616 ∧ (k = n + 1 → z = 0) ∧ v = .slice b (q + k) cc ∧ Dig os ∧ os.length = q + k ∧ wr.ownsRow w.heap.size 39 1 (.slice b (q + k) cc) (q + k) (dv os) ∧ lo os (q + k) + 18446744073709551616 ^ (q + k) * (z / 2 ^ (64 - r)) = lo l k * 2 ^ (64 * q + r) ∧ Below w.heap.size w wr) (fun _ _ i _ => n + 1 - (intOf i).toNat)
  case atStart => exact ⟨0, 0, _, _, _, Nat.zero_le _, rfl, rfl, by decide, fun _ => rfl, rfl, dig_replicate q, by simp, hrow0, by rw [lo_replicate, lo_zero, Nat.zero_div, Nat.mul_zero, Nat.zero_mul], hb2⟩
  case round =>
    obtain ⟨k, z, os, b, cc, hk, rfl, rfl, hz, hzl, rfl, hdo, hlo, hrow, h5, h6⟩ := hrel
    have H5 := Lib.hid h5
    have HLO := Lib.hid hlo
    have HZL := Lib.hid hzl
    clear h5 hlo hzl
    by_cases hlt : k ≤ n
    · have e1 := h.later h6 (Nat.le_refl _)
      have d1 := h.dig.at_ k
      obtain ⟨d, hd1, hd2⟩ : ∃ d, d = z / 2 ^ (64 - r) + D l k * 2 ^ r % 18446744073709551616 ∧ d < 18446744073709551616 := ⟨_, rfl, rup_lt hr hz⟩
      have hstep := rup_snoc h.dig hr HLO.out H5.out
      rw [← hd1] at hstep
      have HS := Lib.hid hstep
      have hlast : k + 1 = n + 1 → D l k = 0 := fun e => D_out (by rw [HL.out]; omega)
      have HLA := Lib.hid hlast
      have hbits : bits .or .u64 (IntKind.u64.wrap ((D l k : Int) * 2 ^ r)) ((z : Int) / 2 ^ (64 - r)) = (d : Int) := by rw [rup_bits hz hr, hd1]
      have hr0 : r = 0 → d = D l k := by
        intro e; rw [hd1, e, Nat.pow_zero, Nat.mul_one, Nat.mod_eq_of_lt d1, Nat.div_eq_of_lt (Nat.lt_of_lt_of_le hz (by decide)), Nat.zero_add]
      have HR := Lib.hid hr0
      clear hstep hlast hd1 hr0
      by_cases c0 : r = 0
      · have t2 : ((r : Int) == 0) = true := by simp [c0]
        obtain rfl : d = D l k := HR.out c0
        clear hbits c0
        go_wp2_with fail
        refine (rdigit_any _ _ _ l _ _ e1 (by omega)).mono ?_
        rintro e w' ⟨rfl, rfl⟩
        rw [Int.toNat_natCast]
        go_wp2_with (at_builtin; refine wpList_append_nat rfl _ _ 23 rfl w.heap.size 39 i0 Try.underlying23 hi hz0 hz1 hz2 _ (q + k) (dv os) rfl (hrow.alloc _) _ 1 1 [D l k] rfl (lit1 wr _ (D l k) rfl hd2).toNatAt (by omega) (by have := h6.size; simp; omega) ?_; intro b2 cc2 w2 hown2 hgrow2)
        obtain ⟨hr2, hb2⟩ := grown_row _ h6 h6.size hrow hown2 hgrow2
        go_roundw
        case rel => exact ⟨k + 1, D l k, os ++ [D l k], b2, cc2, by omega, by go_num, rfl, d1, HLA.out, rfl, dig_snoc hdo hd2, by rw [List.length_append, HLO.out]; rfl, hr2, HS.out, hb2⟩
        case measure => simp [intOf]; omega
      · have t2 : ((r : Int) == 0) = false := by simp only [beq_eq_false_iff_ne]; omega
        have v12 : (64 - (r : Int)).toNat = 64 - r := by omega
        go_wp2_with fail
        refine (rdigit_any _ _ _ l _ _ e1 (by omega)).mono ?_
        rintro e w' ⟨rfl, rfl⟩
        rw [Int.toNat_natCast]
        go_wp2_with (at_builtin; refine wpList_append_nat rfl _ _ 23 rfl w.heap.size 39 i0 Try.underlying23 hi hz0 hz1 hz2 _ (q + k) (dv os) rfl (hrow.alloc _) _ 1 1 [d] rfl (lit1 wr _ d rfl hd2).toNatAt (by omega) (by have := h6.size; simp; omega) ?_; intro b2 cc2 w2 hown2 hgrow2)
        obtain ⟨hr2, hb2⟩ := grown_row _ h6 h6.size hrow hown2 hgrow2
        go_roundw
        case rel => exact ⟨k + 1, D l k, os ++ [d], b2, cc2, by omega, by go_num, rfl, d1, HLA.out, rfl, dig_snoc hdo hd2, by rw [List.length_append, HLO.out]; rfl, hr2, HS.out, hb2⟩
        case measure => simp [intOf]; omega
    · obtain rfl : k = n + 1 := by omega
      have h7 := H5.out
      rw [HZL.out rfl, Nat.zero_div, Nat.mul_zero, Nat.add_zero, lo_all (by rw [HLO.out]; exact Nat.le_refl _), lo_all (by rw [HL.out]; omega)] at h7
      obtain ⟨a5, c5, e5, h8⟩ := OwnAt.ofRow hrow hdo
      cases e5
      have H7 := Lib.hid h7
      clear h7
      go_wp2_with fail
      refine (rtrim_any _ _ _ os _ h8.toNatAt (by omega)).mono ?_
      rintro e w3 ⟨a3, n3, c3, rfl, h9, hb3⟩
      go_wp2
      go_ret2
      rw [H7.out] at h9
      exact ⟨_, _, _, rfl, h9.mono h6.size, below_later h6 hb3⟩

end Go.Proofs.Ytlnijohobnjlfaa
