/- the laws of binom: is, chosen, awake. -/
import Derived.Test.YtdjhgalaianifaaBinom3
import Derived.Test.YtdjhgalaianifaaBinom4
import Derived.Test.YtdjhgalaianifaaKit3
set_option linter.unusedVariables false
set_option linter.unusedSimpArgs false
namespace Go.Proofs.Ytdjhgalaianifaa
open Go.RowKit

theorem is07_yes {N : Nat} {a : Option Addr} {n c : Nat} {w : World} (h : NatAt w a n c (digs N)) (hN : N < 18446744073709551616) :
    Calls Try.prog 48 #[.slice a n c, .int .i64 0, .int .u64 (N : Int)] w (RetVal w (.bool true)) := by
  have hcl : c ≤ 9223372036854775807 := h.cle
  by_cases h0 : N = 0
  · subst h0
    obtain rfl : n = 0 := h.len.symm
    clear h
    go_enter Try.func48, Try.ntmps48
    go_wp2
    go_ret
    exact ⟨rfl, Below.refl _ _⟩
  · have hd : digs N = [N] := digs_small (by omega) hN
    rw [hd] at h
    obtain rfl : n = 1 := h.len.symm
    rcases h.cell with h' | ⟨b, o, rfl, hc⟩
    · omega
    have hc0 := hc 0 (by decide)
    rw [Nat.add_zero] at hc0
    have hc1 : w.cell? ⟨b, o, none⟩ = some (.int .u64 (N : Int)) := hc0
    clear hc0
    have t0 : ((N : Int) == 0) = false := beq_pos (by omega)
    clear hc h hd
    go_enter Try.func48, Try.ntmps48
    go_wp2
    go_ret
    exact ⟨by simp, Below.refl _ _⟩
theorem is07_nil (w : World) : Calls Try.prog 48 #[.slice none 0 0, .int .i64 0, .int .u64 0] w (RetVal w (.bool true)) :=
  is07_yes (N := 0) (NatAt.nil w) (by decide)

theorem chosen07_in (n k N : Nat) (w : World) (hn : n ≤ 65536) (hk : k ≤ n) (hN : ch n k = N) (hl : N < 18446744073709551616) :
    Calls Try.prog 49 #[.int .i64 (n : Int), .int .i64 (k : Int), .int .u64 (N : Int)] w (RetVal w (.bool true)) := by
  have HN := Lib.hid hN
  clear hN
  go_enter Try.func49, Try.ntmps49
  have hB := Below.refl w.heap.size w
  go_wp2_with fail
  with_reducible refine (choose_in n k _ hn hk).mono ?_
  rintro e w1 ⟨ah1, nh1, ch1, rfl, h1, hb⟩
  have hB := below_later hB hb
  clear hb
  rw [HN.out] at h1
  go_wp2_with fail
  with_reducible refine (is07_yes h1.toNatAt hl).mono ?_
  rintro e w2 ⟨rfl, hb⟩
  have h1 := h1.past hb
  have hB := below_later hB hb
  clear hb
  go_wp2
  go_ret
  exact ⟨rfl, hB⟩
theorem chosen07_out (n : Nat) (k : Int) (w : World) (hn : n ≤ 65536) (hk : k < 0 ∨ (n : Int) < k) :
    Calls Try.prog 49 #[.int .i64 (n : Int), .int .i64 k, .int .u64 0] w (RetVal w (.bool true)) := by
  go_enter Try.func49, Try.ntmps49
  have hB := Below.refl w.heap.size w
  go_wp2_with fail
  with_reducible refine (choose_out n k _ hn hk).mono ?_
  rintro e w1 ⟨rfl, hb⟩
  have hB := below_later hB hb
  clear hb
  go_wp2_with fail
  with_reducible refine (is07_nil _).mono ?_
  rintro e w2 ⟨rfl, hb⟩
  have hB := below_later hB hb
  clear hb
  go_wp2
  go_ret
  exact ⟨rfl, hB⟩
set_option maxRecDepth 100000 in
theorem awake07 (w : World) : Calls Try.prog 22 #[] w (RetVal w (.bool true)) := by
  have e1 : digs (fall 5 3) = digs 60 := by rw [show fall 5 3 = 60 by decide]
  have e2 : digs (multi ([2, 1, 1] : List Nat).sum [2, 1, 1]) = digs 12 := by rw [show multi ([2, 1, 1] : List Nat).sum [2, 1, 1] = 12 by decide]
  have E1 := Lib.hid e1
  have E2 := Lib.hid e2
  clear e1 e2
  go_enter Try.func22, Try.ntmps22
  have hB := Below.refl w.heap.size w
  go_wp2_with fail
  refine (falling_yes 5 3 _ (by decide) (by decide)).mono ?_
  rintro e w1 ⟨ahX, nhX, chX, rfl, hX, hb⟩
  have hB := below_later hB hb
  clear hb
  rw [E1.out] at hX
  go_wp2_with fail
  have h0z := litI (E := 3) w1 #[.int .i64 2, .int .i64 1, .int .i64 1] [2, 1, 1] 3 rfl rfl (by decide) (by decide)
  obtain ⟨w2, hW⟩ : ∃ W, w1.alloc (.cells #[.int .i64 2, .int .i64 1, .int .i64 1] 3) = W := ⟨_, rfl⟩
  have hb : Below w1.heap.size w1 w2 := by rw [← hW]; exact (Below.refl _ _).alloc (Nat.le_refl _) _
  rw [hW] at h0z ⊢
  clear hW
  have hX := hX.past hb
  have hB := below_later hB hb
  clear hb
  go_wp2_with fail
  refine (count_yes [2, 1, 1] _ _ _ _ h0z (by decide)).mono ?_
  rintro e w3 ⟨ahY, nhY, chY, rfl, hY, hb⟩
  have hX := hX.past hb
  have hB := below_later hB hb
  clear hb
  rw [E2.out] at hY
  go_wp2_with fail
  refine (chosen07_in 5 2 10 _ (by decide) (by decide) (by decide) (by decide)).mono ?_
  rintro e w4 ⟨rfl, hb⟩
  have hX := hX.past hb
  have hY := hY.past hb
  have hB := below_later hB hb
  clear hb
  go_wp2_with fail
  refine (chosen07_in 0 0 1 _ (by decide) (by decide) (by decide) (by decide)).mono ?_
  rintro e w5 ⟨rfl, hb⟩
  have hX := hX.past hb
  have hY := hY.past hb
  have hB := below_later hB hb
  clear hb
  go_wp2_with fail
  refine (is07_yes (N := 60) hX.toNatAt (by decide)).mono ?_
  rintro e w6 ⟨rfl, hb⟩
  have hX := hX.past hb
  have hY := hY.past hb
  have hB := below_later hB hb
  clear hb
  go_wp2_with fail
  refine (is07_yes (N := 12) hY.toNatAt (by decide)).mono ?_
  rintro e w7 ⟨rfl, hb⟩
  have hX := hX.past hb
  have hY := hY.past hb
  have hB := below_later hB hb
  clear hb
  go_wp2
  go_ret
  exact ⟨rfl, hB⟩

end Go.Proofs.Ytdjhgalaianifaa
