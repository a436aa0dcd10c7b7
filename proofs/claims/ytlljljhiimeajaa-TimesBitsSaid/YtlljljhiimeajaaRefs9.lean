/- the reference of times: Power. -/
import Derived.Test.YtlljljhiimeajaaRefs8
import Derived.Test.YtlljljhiimeajaaRefs4
import Derived.Test.YtlljljhiimeajaaTimes6
set_option linter.unusedVariables false
set_option linter.unusedSimpArgs false
namespace Go.Proofs.Ytlljljhiimeajaa
open Go.RowKit

theorem rpower_no (a : Option Addr) (n c : Nat) (e : Int) (w : World) (hv : e < 0 ∨ 65536 < e) :
    Calls Try.prog 28 #[.slice a n c, .int .i64 e] w (RetVal w (.tuple #[.slice none 0 0, .int .i64 3])) := by
  rcases hv with hv | hv
  · go_enter Try.func28, Try.ntmps28
    go_wp2_with fail
    go_ret2
    exact ⟨rfl, Below.refl _ _⟩
  · have hv' : ¬ e < 0 := by omega
    go_enter Try.func28, Try.ntmps28
    go_wp2_with fail
    go_ret2
    exact ⟨rfl, Below.refl _ _⟩

theorem rpower_long (a : Option Addr) (n c : Nat) (l : List Nat) (e : Nat) (w : World) (h : NatAt w a n c l) (hs : n ≤ 68719476736) (he : e ≤ 65536) (hv : 16777216 < e * nbits (val l)) :
    Calls Try.prog 28 #[.slice a n c, .int .i64 (e : Int)] w (RetVal w (.tuple #[.slice none 0 0, .int .i64 4])) := by
  obtain ⟨x, hx⟩ : ∃ x, nbits (val l) = x := ⟨_, rfl⟩
  have hb : x ≤ 64 * n := by rw [← hx, ← h.len]; exact nbits_le_len h.dig
  have hmul : e * x ≤ 65536 * x := Nat.mul_le_mul_right _ he
  rw [hx] at hv
  obtain ⟨y, hy⟩ : ∃ y, e * x = y := ⟨_, rfl⟩
  rw [hy] at hv hmul
  have v1 : IntKind.i64.wrap ((e : Int) * (x : Int)) = (y : Int) := by
    rw [show (e : Int) * (x : Int) = ((e * x : Nat) : Int) by simp, hy]; exact IntWalk.i64_in _ (by omega)
  have HX := Lib.hid hx
  clear hx hy hmul
  go_enter Try.func28, Try.ntmps28
  go_wp2_with fail
  refine (rlen_any _ _ _ l _ h (by omega)).mono ?_
  rintro e2 w' ⟨rfl, hb2⟩
  rw [HX.out]
  go_wp2
  go_ret2
  exact ⟨rfl, hb2⟩

theorem and_pow (e j : Nat) (he : e ≤ 65536) (hj : j ≤ 16) : bits .and .i64 (e : Int) ((2 ^ j : Nat) : Int) = ((e / 2 ^ j % 2 * 2 ^ j : Nat) : Int) := by
  have hp : 2 ^ j ≤ 65536 := Nat.pow_le_pow_right (n := 2) (by decide) hj
  have h1 : (BitVec.ofInt 64 ((2 ^ j : Nat) : Int)).toNat = 2 ^ j := by
    rw [BitVec.ofInt_natCast, BitVec.toNat_ofNat]; exact Nat.mod_eq_of_lt (by omega)
  have h2 : (BitVec.ofInt 64 (e : Int)).toNat = e := by
    rw [BitVec.ofInt_natCast, BitVec.toNat_ofNat]; exact Nat.mod_eq_of_lt (by omega)
  have h3 : e &&& 2 ^ j = e / 2 ^ j % 2 * 2 ^ j := by
    by_cases h : e / 2 ^ j % 2 = 1
    · have hb : e.testBit j = true := by rw [Nat.testBit_eq_decide_div_mod_eq]; simp [h]
      rw [h, Nat.one_mul]
      refine Nat.eq_of_testBit_eq fun i => ?_
      rw [Nat.testBit_and, Nat.testBit_two_pow]
      by_cases hi : j = i
      · subst hi; simp [hb]
      · simp [hi]
    · have h0 : e / 2 ^ j % 2 = 0 := by omega
      have hb : e.testBit j = false := by rw [Nat.testBit_eq_decide_div_mod_eq]; simp [h0]
      rw [h0, Nat.zero_mul]
      refine Nat.eq_of_testBit_eq fun i => ?_
      rw [Nat.testBit_and, Nat.testBit_two_pow, Nat.zero_testBit]
      by_cases hi : j = i
      · subst hi; simp [hb]
      · simp [hi]
  have h4 : e / 2 ^ j % 2 * 2 ^ j ≤ 65536 := by
    have : e / 2 ^ j % 2 * 2 ^ j ≤ 1 * 2 ^ j := Nat.mul_le_mul_right _ (by omega)
    omega
  show IntKind.i64.wrap ((BitVec.ofInt 64 (e : Int) &&& BitVec.ofInt 64 ((2 ^ j : Nat) : Int)).toNat : Nat) = _
  rw [BitVec.toNat_and, h1, h2, h3, IntKind.wrap_i64]
  omega

set_option maxHeartbeats 2000000 in
theorem rpower_yes (a : Option Addr) (n c : Nat) (l : List Nat) (e : Nat) (w : World) (h : NatAt w a n c l) (hs : n ≤ 68719476736) (he : e ≤ 65536) (hv : e * nbits (val l) ≤ 16777216) :
    Calls Try.prog 28 #[.slice a n c, .int .i64 (e : Int)] w (RetNatOk w (val l ^ e) 0) := by
  obtain ⟨x', hx⟩ : ∃ x, nbits (val l) = x := ⟨_, rfl⟩
  obtain ⟨y, hy⟩ : ∃ y, e * x' = y := ⟨_, rfl⟩
  have hy2 : y ≤ 16777216 := by rw [← hy, ← hx]; exact hv
  have v1 : IntKind.i64.wrap ((e : Int) * (x' : Int)) = (y : Int) := by
    rw [show (e : Int) * (x' : Int) = ((e * x' : Nat) : Int) by simp, hy]; exact IntWalk.i64_in _ (by omega)
  have hlen := fun k (hk : k ≤ e) => pow_len (x := val l) (e := e) (N := 16777216) hv k hk
  have HX := Lib.hid hx
  have HLEN := Lib.hid hlen
  clear hx hy hlen hv
  go_enter Try.func28, Try.ntmps28
  go_wp2_with fail
  refine (rlen_any _ _ _ l _ h (by omega)).mono ?_
  rintro e2 w1 ⟨rfl, hb1⟩
  rw [HX.out]
  go_wp2_with fail
  refine (rof_any 1 _ (by decide)).mono ?_
  rintro e2 w2 ⟨a2, n2, c2, rfl, h2, hb2⟩
  have hb := below_later hb1 hb2
  go_wp2_with fail
  go_loopw [6, 7] (fun v bt wr => ∃ (j b m cc : Nat) (a' : Option Addr), j ≤ 17 ∧ b = 2 ^ j / 2 ∧ bt = .int .i64 (b : Int) ∧ v = .slice a' m cc ∧ OwnAt wr w.heap.size a' m cc (digs (val l ^ (e / 2 ^ j))) ∧ Below w.heap.size w wr) (fun _ bt _ => (intOf bt).toNat)
  case atStart => exact ⟨17, 65536, _, _, _, Nat.le_refl _, by decide, rfl, rfl, by
    rw [show e / 2 ^ 17 = 0 from Nat.div_eq_of_lt (Nat.lt_of_le_of_lt he (by decide)), Nat.pow_zero]; exact h2.mono hb1.size, hb⟩
  case round =>
    obtain ⟨j, b, m, cc, a', hj, hbj, rfl, rfl, h3, h6⟩ := hrel
    by_cases hj0 : j = 0
    · subst hj0
      obtain rfl : b = 0 := by rw [hbj]
      rw [Nat.pow_zero, Nat.div_one] at h3
      clear hbj
      go_wp2
      go_ret2
      exact ⟨_, _, _, rfl, h3, h6⟩
    · obtain ⟨i, rfl⟩ : ∃ i, j = i + 1 := ⟨j - 1, by omega⟩
      have hb2 : b = 2 ^ i := by rw [hbj, Nat.pow_succ, Nat.mul_div_cancel _ (by decide)]
      have hbb : 2 ^ i ≤ 65536 := Nat.pow_le_pow_right (n := 2) (by decide) (show i ≤ 16 by omega)
      have hb0 : 0 < 2 ^ i := Nat.pow_pos (by decide)
      have hq : e / 2 ^ (i + 1) = e / 2 ^ i / 2 := by rw [Nat.pow_succ, Nat.div_div_eq_div_mul]
      have hn1 := HLEN.out (e / 2 ^ (i + 1)) (Nat.div_le_self _ _)
      have hle2 : 2 * (e / 2 ^ (i + 1)) ≤ e := by rw [hq]; have := Nat.div_le_self e (2 ^ i); omega
      have hn2 := HLEN.out (2 * (e / 2 ^ (i + 1))) hle2
      have hm : m ≤ 68719476736 := by have := h3.len; omega
      have esq : val l ^ (e / 2 ^ (i + 1)) * val l ^ (e / 2 ^ (i + 1)) = val l ^ (2 * (e / 2 ^ (i + 1))) := by rw [← Nat.pow_add, show e / 2 ^ (i + 1) + e / 2 ^ (i + 1) = 2 * (e / 2 ^ (i + 1)) by omega]
      have va := and_pow e i he (by omega)
      rw [← hb2] at va hbb hb0
      have hnext : b / 2 = 2 ^ i / 2 := by rw [hb2]
      have ESQ := Lib.hid esq
      have HNX := Lib.hid hnext
      have HN2 := Lib.hid hn2
      have hmul := rmul_any a' m cc _ a' m cc _ wr h3.toNatAt h3.toNatAt hm hm
      rw [val_digs, esq] at hmul
      have HM := Lib.hid hmul
      by_cases hbit : e / 2 ^ i % 2 = 1
      · have va2 : bits .and .i64 (e : Int) (b : Int) = (b : Int) := by rw [va, hb2, hbit, Nat.one_mul]
        have hexp : 2 * (e / 2 ^ (i + 1)) + 1 = e / 2 ^ i := by rw [hq]; omega
        have HX2 := Lib.hid hexp
        have hj' : i ≤ 17 := by omega
        clear va hbit hexp hq hn1 hle2 hn2 esq hnext hmul hbj hb2 hj hj0
        go_wp2_with fail
        refine HM.out.mono ?_
        rintro e3 w4 ⟨a4, n4, c4, rfl, h4, hb4⟩
        have hA := (h.past h6).past hb4
        have hn4 : n4 ≤ 68719476736 := by have e5 := h4.len; have e6 := HN2.out; omega
        go_wp2_with fail
        refine (rmul_any _ _ _ _ _ _ _ l _ h4.toNatAt hA hn4 hs).mono ?_
        rintro e3 w5 ⟨a5, n5, c5, rfl, h5, hb5⟩
        rw [val_digs, ← Nat.pow_succ, Nat.succ_eq_add_one, HX2.out] at h5
        go_wp2_with fail
        have hbF := below_later (below_later h6 hb4) hb5
        exact ⟨⟨i, b / 2, _, _, _, by omega, HNX.out, by go_num, rfl, h5.mono (below_later h6 hb4).size, hbF⟩, by simp [intOf]; omega⟩
      · have hbit0 : e / 2 ^ i % 2 = 0 := by omega
        have va2 : bits .and .i64 (e : Int) (b : Int) = 0 := by rw [va, hb2, hbit0, Nat.zero_mul]; rfl
        have hexp : 2 * (e / 2 ^ (i + 1)) = e / 2 ^ i := by rw [hq]; omega
        have HX2 := Lib.hid hexp
        have hj' : i ≤ 17 := by omega
        clear va hbit hbit0 hexp hq hn1 hle2 hn2 esq hnext hmul hbj hb2 hj hj0
        go_wp2_with fail
        refine HM.out.mono ?_
        rintro e3 w4 ⟨a4, n4, c4, rfl, h4, hb4⟩
        rw [HX2.out] at h4
        go_wp2_with fail
        have hbF := below_later h6 hb4
        exact ⟨⟨i, b / 2, _, _, _, by omega, HNX.out, by go_num, rfl, h4.mono h6.size, hbF⟩, by simp [intOf]; omega⟩

end Go.Proofs.Ytlljljhiimeajaa
