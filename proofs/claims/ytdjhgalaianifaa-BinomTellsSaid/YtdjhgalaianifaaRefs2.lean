/- the reference of limbs, second part: Add. -/
import Derived.Test.YtdjhgalaianifaaRefs1
set_option linter.unusedVariables false
set_option linter.unusedSimpArgs false
namespace Go.Proofs.Ytdjhgalaianifaa
open Go.RowKit

/-- 'append(out, x)': the row is one longer -/
theorem grown_row {E : Nat} {w w1 : World} {B n : Nat} {a a' : Option Addr} {c c' : Nat} {l : List Nat} {x : Nat} (o : Obj) (hB : Below B w w1) (hle : B ≤ w1.heap.size) (hrow : w1.ownsRow B E 1 (.slice a n c) n (dv l)) {w2 : World}
    (hown : w2.ownsRow B E 1 (.slice a' (n + 1) c') (n + 1) (dv l ++ dv [x])) (hgrow : (w1.alloc o).grownBy w2 (Value.slice a n c).ownBlock) :
    w2.ownsRow B E 1 (.slice a' (n + 1) c') (n + 1) (dv (l ++ [x])) ∧ Below B w w2 :=
  ⟨by rw [dv_append]; exact hown, (hB.alloc hle o).grown hgrow (by simp; omega) (fun k hk => (hrow.lt k hk).1)⟩

set_option maxHeartbeats 1000000 in
set_option maxRecDepth 100000 in
theorem radd_any (a : Option Addr) (n c : Nat) (l : List Nat) (a2 : Option Addr) (n2 c2 : Nat) (l2 : List Nat) (w : World) (h : NatAt w a n c l) (h2 : NatAt w a2 n2 c2 l2) (hs : n ≤ 549755813888) (hs2 : n2 ≤ 549755813888) :
    Calls Try.prog 94 #[.slice a n c, .slice a2 n2 c2] w (RetNat w (val l + val l2)) := by
  obtain ⟨i0, hi, hz0, hz1, hz2⟩ := info_parts info37
  obtain ⟨M, hM⟩ : ∃ M : Nat, max (n : Int) (n2 : Int) = M := ⟨max n n2, by omega⟩
  have hM1 : n ≤ M := by omega
  have hM2 : n2 ≤ M := by omega
  have hM3 : M ≤ 549755813888 := by omega
  go_enter Try.func94, Try.ntmps94
  go_wp2_with fail
  go_loopw [5, 6, 7] (fun v cy i wr => ∃ (k x : Nat) (os : List Nat) (b : Option Addr) (cc : Nat), k ≤ M + 1 ∧ x ≤ 1 ∧ i = .int .i64 k ∧ cy = .int .u64 x ∧ v = .slice b k cc ∧ Dig os ∧ os.length = k ∧ wr.ownsRow w.heap.size 37 1 (.slice b k cc) k (dv os) ∧ lo os k + 18446744073709551616 ^ k * x = lo l k + lo l2 k ∧ Below w.heap.size w wr) (fun _ _ i _ => M + 1 - (intOf i).toNat)
  case atStart => exact ⟨0, 0, [], none, 0, Nat.zero_le _, Nat.zero_le _, rfl, rfl, rfl, dig_nil, rfl, World.ownsRow_nil _ _ _ _, by simp [lo_zero], Below.refl _ _⟩
  case round =>
    obtain ⟨k, x, os, b, cc, hk, hx, rfl, rfl, rfl, hdo, hlo, hrow, h5, h6⟩ := hrel
    have H5 := Lib.hid h5
    have HLO := Lib.hid hlo
    clear h5 hlo
    by_cases hlt : k ≤ M
    · have e1 := h.later h6 (Nat.le_refl _)
      have e2 := h2.later h6 (Nat.le_refl _)
      have d1 := h.dig.at_ k
      have d2 := h2.dig.at_ k
      obtain ⟨s, hs1, hs2⟩ : ∃ s : Nat, IntKind.u64.wrap ((D l k : Int) + (D l2 k : Int)) = (s : Int) ∧ s = (D l k + D l2 k) % 18446744073709551616 := ⟨_, by rw [IntKind.wrap_u64]; omega, rfl⟩
      obtain ⟨t, ht1, ht2⟩ : ∃ t : Nat, IntKind.u64.wrap ((s : Int) + (x : Int)) = (t : Int) ∧ t = (s + x) % 18446744073709551616 := ⟨_, by rw [IntKind.wrap_u64]; omega, rfl⟩
      have hsB : s < 18446744073709551616 := by omega
      have htB : t < 18446744073709551616 := by omega
      have key1 : s < D l k ∨ t < s → t + 18446744073709551616 * 1 = D l k + D l2 k + x := by omega
      have key0 : ¬ s < D l k → ¬ t < s → t + 18446744073709551616 * 0 = D l k + D l2 k + x := by omega
      have K1 := Lib.hid key1
      have K0 := Lib.hid key0
      clear key1 key0 hs2 ht2
      by_cases t1 : s < D l k <;> by_cases t2 : t < s
      all_goals
        go_wp2_with fail
        refine (rdigit_any _ _ _ l _ _ e1 (by omega)).mono ?_
        rintro e w' ⟨rfl, rfl⟩
        rw [Int.toNat_natCast]
        go_wp2_with fail
        refine (rdigit_any _ _ _ l2 _ _ e2 (by omega)).mono ?_
        rintro e w' ⟨rfl, rfl⟩
        rw [Int.toNat_natCast]
        go_wp2_with (at_builtin; refine wpList_append_nat rfl _ _ 23 rfl w.heap.size 37 i0 Try.underlying23 hi hz0 hz1 hz2 _ k (dv os) rfl (hrow.alloc _) _ 1 1 [t] rfl (lit1 wr t t rfl htB).toNatAt (by omega) (by have := h6.size; simp; omega) ?_; intro b2 cc2 w2 hown2 hgrow2)
        obtain ⟨hr2, hb2⟩ := grown_row _ h6 h6.size hrow hown2 hgrow2
        go_roundw
        case measure => simp [intOf]; omega
        case rel => first
          | exact ⟨k + 1, 1, os ++ [t], b2, cc2, by omega, by omega, by go_num, rfl, rfl, dig_snoc hdo htB, by rw [List.length_append, HLO.out]; rfl, hr2, add_snoc HLO.out H5.out (K1.out (by first | exact .inl t1 | exact .inr t2)), hb2⟩
          | exact ⟨k + 1, 0, os ++ [t], b2, cc2, by omega, by omega, by go_num, rfl, rfl, dig_snoc hdo htB, by rw [List.length_append, HLO.out]; rfl, hr2, add_snoc HLO.out H5.out (K0.out t1 t2), hb2⟩
    · obtain rfl : k = M + 1 := by omega
      have h7 := add_end h.dig h2.dig HLO.out (by rw [h.len]; exact hM1) (by rw [h2.len]; exact hM2) H5.out
      obtain ⟨a5, c5, e5, h8⟩ := OwnAt.ofRow hrow hdo
      cases e5
      have H7 := Lib.hid h7
      clear h7
      go_wp2_with fail
      refine (rtrim_any _ _ _ os _ h8.toNatAt (by omega)).mono ?_
      rintro e w3 ⟨a3, n3, c3, rfl, h9, hb3⟩
      go_wp2
      go_ret
      rw [H7.out] at h9
      exact RetNat.of h6 ⟨_, _, _, rfl, h9, hb3⟩

end Go.Proofs.Ytdjhgalaianifaa
