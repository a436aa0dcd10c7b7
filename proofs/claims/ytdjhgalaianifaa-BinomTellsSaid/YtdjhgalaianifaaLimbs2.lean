/- limbs, second part: Trim, Of, One, Check, both texts'. -/
import Derived.Test.YtdjhgalaianifaaLimbs1
set_option linter.unusedVariables false
set_option linter.unusedSimpArgs false
namespace Go.Proofs.Ytdjhgalaianifaa
open Go.RowKit

set_option maxRecDepth 100000 in
theorem trim_any (a : Option Addr) (n c : Nat) (l : List Nat) (w : World) (h : NatAt w a n c l) (hs : n ≤ 1099511627776) :
    Calls Try.prog 35 #[.slice a n c] w (RetNat w (val l)) := by
  have h1 := h.digs
  have h2 : (digs (val l)).length ≤ n := by have := digs_length_val h.dig; rw [h.len] at this; exact this
  go_enter Try.func35, Try.ntmps35
  go_wp2_with fail
  refine (trimmed_any _ _ _ _ _ h).mono ?_
  rintro e w1 ⟨rfl, rfl⟩
  go_wp2_with fail
  refine (clone_any _ _ _ _ _ h1 (by omega)).mono ?_
  rintro e w1 ⟨a1, n1, c1, rfl, h3, hb⟩
  go_wp2
  go_ret
  exact ⟨_, _, _, rfl, h3, hb⟩

theorem RetNat.of {w w1 : World} {N : Nat} (h : Below w.heap.size w w1) {e : Ending} {w' : World} (h1 : RetNat w1 N e w') : RetNat w N e w' := by
  obtain ⟨a, n, c, he, ho, hb⟩ := h1
  exact ⟨a, n, c, he, ho.mono h.size, below_later h hb⟩

set_option maxRecDepth 100000 in
theorem of_any (x : Nat) (w : World) (hx : x < 18446744073709551616) :
    Calls Try.prog 39 #[.int .u64 x] w (RetNat w x) := by
  go_enter Try.func39, Try.ntmps39
  go_wp2_with fail
  refine (trim_any _ _ _ [x] _ (lit1 w x x rfl hx).toNatAt (by decide)).mono ?_
  rintro e w1 ⟨a1, n1, c1, rfl, h3, hb⟩
  go_wp2
  go_ret
  exact RetNat.of ((Below.refl _ _).alloc (Nat.le_refl _) _) ⟨_, _, _, rfl, by simpa [val] using h3, hb⟩

set_option maxRecDepth 100000 in
theorem one_any (a : Option Addr) (n c : Nat) (l : List Nat) (w : World) (h : NatAt w a n c l) :
    Calls Try.prog 40 #[.slice a n c] w fun e w' => e = .returned (.tuple #[.int .u64 ((oneN (val l) : Nat) : Int), .bool (oneB (val l))]) ∧ w = w' := by
  have h1 := h.digs
  by_cases h0 : val l = 0
  · have hl : (digs (val l)).length = 0 := digs_len0.2 h0
    have HL := Lib.hid hl
    have e1 : oneN (val l) = 0 := by rw [h0]; rfl
    have e2 : oneB (val l) = true := by rw [h0]; rfl
    have E1 := Lib.hid e1
    have E2 := Lib.hid e2
    clear hl h0 e1 e2
    go_enter Try.func40, Try.ntmps40
    go_wp2_with fail
    refine (trimmed_any _ _ _ _ _ h).mono ?_
    rintro e w1 ⟨rfl, rfl⟩
    rw [HL.out]
    go_wp2
    go_ret2
    exact ⟨by rw [E1.out, E2.out]; rfl, rfl⟩
  · by_cases h2 : val l < 18446744073709551616
    · have hl : (digs (val l)).length = 1 := (digs_len1 h0).2 h2
      have hd : digs (val l) = [val l] := digs_small h0 h2
      rw [hl, hd] at h1
      have HL := Lib.hid hl
      have e1 : oneN (val l) = val l := if_pos h2
      have e2 : oneB (val l) = true := decide_eq_true h2
      have E1 := Lib.hid e1
      have E2 := Lib.hid e2
      rcases h1.parts with h3 | ⟨b, o, rfl, hlt, hc⟩
      · omega
      have hc' := hc 0 (by omega)
      rw [D_one, Nat.add_zero] at hc'
      clear hl h0 e1 e2 hd hc h2
      go_enter Try.func40, Try.ntmps40
      go_wp2_with fail
      refine (trimmed_any _ _ _ _ _ h).mono ?_
      rintro e w1 ⟨rfl, rfl⟩
      rw [HL.out]
      go_wp2
      go_ret2
      exact ⟨by rw [E1.out, E2.out]; rfl, rfl⟩
    · have hl1 : ((((digs (val l)).length : Nat) : Int) == 0) = false := by
        have : (digs (val l)).length ≠ 0 := fun e => h0 (digs_len0.1 e)
        simp only [beq_eq_false_iff_ne]; omega
      have hl2 : ((((digs (val l)).length : Nat) : Int) == 1) = false := by
        have : (digs (val l)).length ≠ 1 := fun e => h2 ((digs_len1 h0).1 e)
        simp only [beq_eq_false_iff_ne]; omega
      have e1 : oneN (val l) = 0 := if_neg h2
      have e2 : oneB (val l) = false := decide_eq_false h2
      have E1 := Lib.hid e1
      have E2 := Lib.hid e2
      clear e1 e2 h0 h2
      go_enter Try.func40, Try.ntmps40
      go_wp2_with fail
      refine (trimmed_any _ _ _ _ _ h).mono ?_
      rintro e w1 ⟨rfl, rfl⟩
      go_wp2
      go_ret2
      exact ⟨by rw [E1.out, E2.out]; rfl, rfl⟩
end Go.Proofs.Ytdjhgalaianifaa
