/- the laws of limbs: long, is, fine, awake. -/
import Derived.Test.YtlnijohobnjlfaaKit1
import Derived.Test.YtlnijohobnjlfaaLimbs3
import Derived.Test.YtlnijohobnjlfaaLimbs6
import Derived.Test.YtlnijohobnjlfaaLimbs8
import Derived.Test.YtlnijohobnjlfaaLimbs9
set_option linter.unusedVariables false
set_option linter.unusedSimpArgs false
namespace Go.Proofs.Ytlnijohobnjlfaa
open Go.RowKit

theorem digs_two {x y : Nat} (hx : x < 18446744073709551616) (hy : y < 18446744073709551616) (h0 : y ≠ 0) : digs (x + 18446744073709551616 * y) = [x, y] := by
  have e : val [x, y] = x + 18446744073709551616 * y := by simp [val]
  rw [← e]
  exact digs_val (dig_cons.2 ⟨hx, dig_cons.2 ⟨hy, dig_nil⟩⟩) ((top_cons (by simp)).2 (top_one.2 h0))

theorem long01_any (a : Option Addr) (n c : Nat) (a2 : Option Addr) (n2 c2 : Nat) (w : World) (hc : n ≤ 9223372036854775807) (hc2 : n2 ≤ 9223372036854775807) :
    Calls Try.prog 9 #[.slice a n c, .slice a2 n2 c2] w fun e w' => e = .returned (.bool (decide (60 < n ∨ 60 < n2))) ∧ w = w' := by
  by_cases h1 : 60 < n
  · have t1 : decide ((60 : Int) < (n : Int)) = true := by simp; omega
    have e : decide (60 < n ∨ 60 < n2) = true := by simp [h1]
    have E := Lib.hid e
    clear e
    go_enter Try.func9, Try.ntmps9
    go_wp2_with (go_at_call 37; refine (longNat_any _ _ _ _ _ hc).mono ?_; rintro e w' ⟨rfl, rfl⟩)
    go_ret
    exact ⟨ret_bool E.out.symm, rfl⟩
  · have t1 : decide ((60 : Int) < (n : Int)) = false := by simp; omega
    have e : decide (60 < n ∨ 60 < n2) = decide ((60 : Int) < (n2 : Int)) := by
      apply decide_eq_decide.2; omega
    have E := Lib.hid e
    clear e
    go_enter Try.func9, Try.ntmps9
    go_wp2_with fail
    refine (longNat_any _ _ _ _ _ hc).mono ?_
    rintro e w' ⟨rfl, rfl⟩
    go_wp2_with fail
    refine (longNat_any _ _ _ _ _ hc2).mono ?_
    rintro e w' ⟨rfl, rfl⟩
    go_wp2
    go_ret
    exact ⟨ret_bool E.out.symm, rfl⟩

theorem is01_yes {a : Option Addr} {n c : Nat} {l : List Nat} {a2 : Option Addr} {n2 c2 : Nat} {w : World} (h : NatAt w a n c l) (h2 : NatAt w a2 n2 c2 l) :
    Calls Try.prog 28 #[.slice a n c, .int .i64 0, .slice a2 n2 c2] w (RetVal w (.bool true)) := by
  go_enter Try.func28, Try.ntmps28
  go_wp2_with fail
  refine (sameNat_yes h h2).mono ?_
  rintro e w' ⟨rfl, hb⟩
  go_wp2
  go_ret
  exact ⟨rfl, hb⟩

theorem NatAt.past {w w' : World} {a : Option Addr} {n c : Nat} {l : List Nat} (h : NatAt w a n c l) (hb : Below w.heap.size w w') : NatAt w' a n c l := h.later hb (Nat.le_refl _)
theorem below_alloc {w w1 : World} (hb : Below w.heap.size w w1) (o : Obj) : Below w.heap.size w (w1.alloc o) := hb.alloc hb.size o

set_option maxHeartbeats 2000000 in
theorem awake01 (w : World) : Calls Try.prog 10 #[] w (RetVal w (.bool true)) := by
  have e1 : digs (val [0, 1] - val [1]) = [18446744073709551615] := by
    rw [show val [0, 1] - val [1] = 18446744073709551615 by decide]; exact digs_small (by decide) (by decide)
  have e2 : digs (val [1] * 2 ^ (65 : Int).toNat) = [0, 2] := by
    rw [show val [1] * 2 ^ (65 : Int).toNat = 0 + 18446744073709551616 * 2 by decide]; exact digs_two (by decide) (by decide) (by decide)
  have e3 : digs (val [18446744073709551615] + val [1]) = [0, 1] := by
    rw [show val [18446744073709551615] + val [1] = 0 + 18446744073709551616 * 1 by decide]; exact digs_two (by decide) (by decide) (by decide)
  have e4 : nbits (val [0, 1]) = 65 := by
    rw [show val [0, 1] = 2 ^ 64 by decide]; exact nbits_eq (Nat.le_refl _) (by decide)
  have E1 := Lib.hid e1
  have E2 := Lib.hid e2
  have E3 := Lib.hid e3
  have E4 := Lib.hid e4
  clear e1 e2 e3 e4
  go_enter Try.func10, Try.ntmps10
  go_wp2_with fail
  refine (sub_yes _ _ _ [0, 1] _ _ _ [1] _ ((lit2g w _ 0 1 0 1 (by simp) rfl (by decide) rfl (by decide)).toNatAt.alloc _) (lit1g _ _ 1 1 (by simp) rfl (by decide)).toNatAt (by decide) (by decide)).mono ?_
  rintro e w1 ⟨a1, n1, c1, rfl, h1, hb1⟩
  have hb1 := below_later (below_alloc (below_alloc (Below.refl _ w) (.cells #[.int .u64 0, .int .u64 1] 39)) (.cells #[.int .u64 1] 39)) hb1
  rw [E1.out] at h1
  go_wp2_with fail
  refine (shiftUp_any _ _ _ [1] _ _ (lit1g w1 _ 1 1 (by simp) rfl (by decide)).toNatAt (by decide) (by decide) (by decide)).mono ?_
  rintro e w2 ⟨a2, n2, c2, rfl, h2, hb2⟩
  have h1 := (h1.toNatAt.alloc (.cells #[.int .u64 1] 39)).past hb2
  have hb2 := below_later (below_alloc hb1 _) hb2
  rw [E2.out] at h2
  go_wp2_with fail
  refine (add_any _ _ _ [18446744073709551615] _ _ _ [1] _ ((lit1g w2 _ 18446744073709551615 18446744073709551615 (by simp) rfl (by decide)).toNatAt.alloc _) (lit1g _ _ 1 1 (by simp) rfl (by decide)).toNatAt (by decide) (by decide)).mono ?_
  rintro e w3 ⟨a3, n3, c3, rfl, h3, hb3⟩
  have h1 := ((h1.alloc (.cells #[.int .u64 18446744073709551615] 39)).alloc (.cells #[.int .u64 1] 39)).past hb3
  have h2 := ((h2.toNatAt.alloc (.cells #[.int .u64 18446744073709551615] 39)).alloc (.cells #[.int .u64 1] 39)).past hb3
  have hb3 := below_later (below_alloc (below_alloc hb2 _) _) hb3
  rw [E3.out] at h3
  go_wp2_with fail
  refine (is01_yes (h3.toNatAt.alloc _) (lit2g w3 _ 0 1 0 1 (by simp) rfl (by decide) rfl (by decide)).toNatAt).mono ?_
  rintro e w4 ⟨rfl, hb4⟩
  have h1 := (h1.alloc (.cells #[.int .u64 0, .int .u64 1] 39)).past hb4
  have h2 := (h2.alloc (.cells #[.int .u64 0, .int .u64 1] 39)).past hb4
  have hb4 := below_later (below_alloc hb3 _) hb4
  go_wp2_with fail
  refine (is01_yes (h1.alloc _) (lit1g w4 _ 18446744073709551615 18446744073709551615 (by simp) rfl (by decide)).toNatAt).mono ?_
  rintro e w5 ⟨rfl, hb5⟩
  have h2 := (h2.alloc (.cells #[.int .u64 18446744073709551615] 39)).past hb5
  have hb5 := below_later (below_alloc hb4 _) hb5
  go_wp2_with fail
  refine (is01_yes (h2.alloc _) (lit2g w5 _ 0 2 0 2 (by simp) rfl (by decide) rfl (by decide)).toNatAt).mono ?_
  rintro e w6 ⟨rfl, hb6⟩
  have hb6 := below_later (below_alloc hb5 _) hb6
  clear h1 h2 h3 hb1 hb2 hb3 hb4 hb5
  go_wp2_with fail
  refine (len_any _ _ _ [0, 1] _ (lit2g w6 _ 0 1 0 1 (by simp) rfl (by decide) rfl (by decide)).toNatAt (by decide)).mono ?_
  rintro e w7 ⟨rfl, rfl⟩
  rw [E4.out]
  go_wp2_with fail
  refine (check_any _ _ _ [1, 0] _ (lit2g _ _ 1 0 1 0 (by simp) rfl (by decide) rfl (by decide)).toNatAt).mono ?_
  rintro e w7 ⟨rfl, rfl⟩
  rw [show chk [1, 0] = 6 from rfl]
  go_wp2
  go_ret
  exact ⟨rfl, below_alloc (below_alloc hb6 _) _⟩

end Go.Proofs.Ytlnijohobnjlfaa
