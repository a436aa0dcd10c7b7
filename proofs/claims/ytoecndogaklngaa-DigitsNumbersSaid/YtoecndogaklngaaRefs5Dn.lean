import Derived.Test.YtoecndogaklngaaS0Dn
import Derived.Test.YtoecndogaklngaaRefs1mDn
import Derived.Test.YtoecndogaklngaaNum5Dn
import Derived.Test.YtoecndogaklngaaNum2Dn
set_option linter.unusedVariables false
set_option linter.unusedSimpArgs false
namespace Go.Proofs.Ytoecndogaklngaa
open Go.RowKit
theorem rdown_bits {x y r : Nat} (hx : x < 18446744073709551616) (hr : r ≤ 63) :
 bits .or .u64 ((x : Int) / 2 ^ r) (IntKind.u64.wrap ((y : Int) * 2 ^ (64 - r))) = (((x + 18446744073709551616 * y) / 2 ^ r % 18446744073709551616 : Nat) : Int) := by
 have e1 : (x : Int) / 2 ^ r = ((x / 2 ^ r : Nat) : Int) := by rw [Int.natCast_ediv, Int.natCast_pow]; rfl
 have e2 : IntKind.u64.wrap ((y : Int) * 2 ^ (64 - r)) = ((y * 2 ^ (64 - r) % 18446744073709551616 : Nat) : Int) := by
  rw [IntKind.wrap_u64]
  simp only [Int.natCast_emod, Int.natCast_mul, Int.natCast_pow]
  rfl
 rw [e1, e2, u64_or_nat _ _ (Nat.lt_of_le_of_lt (Nat.div_le_self _ _) hx) (Nat.mod_lt _ (by decide)), rshr_or hx hr]
set_option maxHeartbeats 1000000 in
set_option maxRecDepth 100000 in
theorem rshiftDown_any (a : Option Addr) (n c : Nat) (l : List Nat) (s : Int) (w : World) (h : NatAt w a n c l) (hs : n ≤ 549755813888) (h0 : 0 ≤ s) (h1 : s ≤ 16777216) :
 Calls Try.prog 57 #[.slice a n c, .int .i64 s] w (RetNatOk w (val l / 2 ^ s.toNat) 0) := by
 obtain ⟨i0, hi, hz0, hz1, hz2⟩ := info_parts info39
 obtain ⟨q, r, rfl, hr⟩ : ∃ q r : Nat, s = 64 * q + r ∧ r ≤ 63 := ⟨(s / 64).toNat, (s % 64).toNat, by omega, by omega⟩
 have es : (64 * (q : Int) + r).toNat = 64 * q + r := by omega
 rw [es]
 have hq : (64 * (q : Int) + r) / 64 = q := by omega
 have hm : (64 * (q : Int) + r) % 64 = r := by omega
 have ES := Lib.hid es
 clear es
 have hn1 := h.le
 have hn2 := h.cle
 have HL := Lib.hid h.len
 go_enter Try.func57, Try.ntmps57
 go_wp2_with fail
 refine (moved_yes _ _ h0 h1).mono ?_
 rintro e w' ⟨rfl, rfl⟩
 go_wp2_with fail
 rw [hm, hq]
 clear hq hm
 go_loopw [6, 8] (fun v i wr => ∃ (k : Nat) (os : List Nat) (b : Option Addr) (cc : Nat), (k = 0 ∨ q + k ≤ n) ∧ i = .int .i64 ((q + k : Nat) : Int) ∧ v = .slice b k cc ∧ Dig os ∧ os.length = k ∧ wr.ownsRow w.heap.size 39 1 (.slice b k cc) k (dv os) ∧ (∀ j, j < k → D os j = (val l / 2 ^ (64 * q + r)) / 18446744073709551616 ^ j % 18446744073709551616) ∧ Below w.heap.size w wr) (fun _ i _ => n - (intOf i).toNat)
 case atStart => exact ⟨0, [], none, 0, .inl rfl, by go_num, rfl, dig_nil, rfl, World.ownsRow_nil _ _ _ _, fun j hj => by omega, Below.refl _ _⟩
 case round =>
  obtain ⟨k, os, b, cc, hk, rfl, rfl, hdo, hlo, hrow, h5, h6⟩ := hrel
  have H5 := Lib.hid h5
  have HLO := Lib.hid hlo
  clear h5 hlo
  by_cases hlt : q + k < n
  · have e1 := h.later h6 (Nat.le_refl _)
    have d1 := h.dig.at_ (q + k)
    have d2 := h.dig.at_ (q + k + 1)
    rcases e1.parts with h' | ⟨ba, oa, rfl, _, hca⟩
    · omega
    have hca' := hca (q + k) hlt
    clear hca
    obtain ⟨d, hd1, hd2⟩ : ∃ d, d = (D l (q + k) + 18446744073709551616 * D l (q + k + 1)) / 2 ^ r % 18446744073709551616 ∧ d < 18446744073709551616 := ⟨_, rfl, Nat.mod_lt _ (by decide)⟩
    have hstep : ∀ j, j < k + 1 → D (os ++ [d]) j = (val l / 2 ^ (64 * q + r)) / 18446744073709551616 ^ j % 18446744073709551616 := by
     intro j hj
     by_cases hjk : j = k
     · subst hjk
       rw [D_snoc_new HLO.out, hd1]
       exact down_digit h.dig hr
     · rw [D_snoc_old (by rw [HLO.out]; omega)]
       exact H5.out j (by omega)
    have HS := Lib.hid hstep
    have hbits : bits .or .u64 ((D l (q + k) : Int) / 2 ^ r) (IntKind.u64.wrap ((D l (q + k + 1) : Int) * 2 ^ (64 - r))) = (d : Int) := by rw [rdown_bits d1 hr, hd1]
    have hz0' : r = 0 → (d : Nat) = D l (q + k) := by
     intro h0; subst h0; rw [hd1, rshr_none d1]
    have HZ := Lib.hid hz0'
    clear hstep hz0' hd1
    have ek : ((q + k : Nat) : Int) = (q : Int) + k := by omega
    rw [ek]
    by_cases hr0 : 0 < r
    · have v12 : (64 - (r : Int)).toNat = 64 - r := by omega
      go_wp2_with fail
      refine (rdigit_any _ _ _ l _ _ e1 (by omega)).mono ?_
      rintro e w' ⟨rfl, rfl⟩
      rw [show ((q : Int) + k + 1).toNat = q + k + 1 by omega]
      go_wp2_with (at_builtin; refine wpList_append_nat rfl _ _ 23 rfl w.heap.size 39 i0 Try.underlying23 hi hz0 hz1 hz2 _ k (dv os) rfl (hrow.alloc _) _ 1 1 [d] rfl (lit1 wr d d rfl hd2).toNatAt (by omega) (by have := h6.size; simp; omega) ?_; intro b2 cc2 w2 hown2 hgrow2)
      obtain ⟨hr2, hb2⟩ := grown_row _ h6 h6.size hrow hown2 hgrow2
      go_roundw
      case rel => exact ⟨k + 1, os ++ [d], b2, cc2, .inr (by omega), by go_num, rfl, dig_snoc hdo hd2, by rw [List.length_append, HLO.out]; rfl, hr2, HS.out, hb2⟩
      case measure => simp [intOf]; omega
    · obtain rfl : d = D l (q + k) := HZ.out (by omega)
      clear hbits
      have hx0 : (D l (q + k) : Int) / 2 ^ r = (D l (q + k) : Int) := by
       have e : r = 0 := by omega
       rw [e]; simp
      go_wp2_with (at_builtin; refine wpList_append_nat rfl _ _ 23 rfl w.heap.size 39 i0 Try.underlying23 hi hz0 hz1 hz2 _ k (dv os) rfl (hrow.alloc _) _ 1 1 [D l (q + k)] rfl (lit1 wr _ (D l (q + k)) rfl hd2).toNatAt (by omega) (by have := h6.size; simp; omega) ?_; intro b2 cc2 w2 hown2 hgrow2)
      obtain ⟨hr2, hb2⟩ := grown_row _ h6 h6.size hrow hown2 hgrow2
      go_roundw
      case rel => exact ⟨k + 1, os ++ [D l (q + k)], b2, cc2, .inr (by omega), by go_num, rfl, dig_snoc hdo hd2, by rw [List.length_append, HLO.out]; rfl, hr2, HS.out, hb2⟩
      case measure => simp [intOf]; omega
  · have h7 := down_end (q := q) (r := r) h.dig hdo (by rw [HLO.out, HL.out]; omega) (fun i hi => H5.out i (by rw [HLO.out] at hi; exact hi))
    obtain ⟨a5, c5, e5, h8⟩ := OwnAt.ofRow hrow hdo
    cases e5
    have H7 := Lib.hid h7
    clear h7
    have ek : ((q + k : Nat) : Int) = (q : Int) + k := by omega
    rw [ek]
    go_wp2_with fail
    refine (rtrim_any _ _ _ os _ h8.toNatAt (by omega)).mono ?_
    rintro e w3 ⟨a3, n3, c3, rfl, h9, hb3⟩
    go_wp2
    go_ret2
    rw [H7.out] at h9
    exact ⟨_, _, _, rfl, h9.mono h6.size, below_later h6 hb3⟩
end Go.Proofs.Ytoecndogaklngaa
