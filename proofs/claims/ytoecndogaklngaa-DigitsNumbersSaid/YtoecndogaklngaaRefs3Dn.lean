import Derived.BigQuiet
import Derived.Test.YtoecndogaklngaaS0Dn
import Derived.Test.YtoecndogaklngaaNum5Dn
set_option linter.unusedVariables false
set_option linter.unusedSimpArgs false
namespace Go.Proofs.Ytoecndogaklngaa
open Go.RowKit
set_option maxHeartbeats 1000000 in
set_option maxRecDepth 100000 in
theorem rsub_yes (a : Option Addr) (n c : Nat) (l : List Nat) (a2 : Option Addr) (n2 c2 : Nat) (l2 : List Nat) (w : World) (h : NatAt w a n c l) (h2 : NatAt w a2 n2 c2 l2) (hs : n ≤ 549755813888) (hv : val l2 ≤ val l) :
 Calls Try.prog 68 #[.slice a n c, .slice a2 n2 c2] w (RetNatOk w (val l - val l2) 0) := by
 obtain ⟨i0, hi, hz0, hz1, hz2⟩ := info_parts info39
 have ht : 0 ≤ cmpI (val l) (val l2) := by
  rcases Int.lt_or_le (cmpI (val l) (val l2)) 0 with h' | h'
  · have := cmpI_neg.1 h'; omega
  · exact h'
 have HV := Lib.hid hv
 clear hv
 go_enter Try.func68, Try.ntmps68
 go_wp2_with fail
 refine (rcmp_any _ _ _ l _ _ _ l2 _ h h2).mono ?_
 rintro e w0 ⟨rfl, rfl⟩
 go_wp2_with fail
 go_loopw [6, 7, 8] (fun v cy i wr => ∃ (k x : Nat) (os : List Nat) (b : Option Addr) (cc : Nat), k ≤ n ∧ x ≤ 1 ∧ i = .int .i64 k ∧ cy = .int .u64 x ∧ v = .slice b k cc ∧ Dig os ∧ os.length = k ∧ wr.ownsRow w.heap.size 39 1 (.slice b k cc) k (dv os) ∧ lo os k + lo l2 k = lo l k + 18446744073709551616 ^ k * x ∧ Below w.heap.size w wr) (fun _ _ i _ => n - (intOf i).toNat)
 case atStart => exact ⟨0, 0, [], none, 0, Nat.zero_le _, Nat.zero_le _, rfl, rfl, rfl, dig_nil, rfl, World.ownsRow_nil _ _ _ _, by simp [lo_zero], Below.refl _ _⟩
 case round =>
  obtain ⟨k, x, os, b, cc, hk, hx, rfl, rfl, rfl, hdo, hlo, hrow, h5, h6⟩ := hrel
  have H5 := Lib.hid h5
  have HLO := Lib.hid hlo
  clear h5 hlo
  by_cases hlt : k < n
  · have e1 := h.later h6 (Nat.le_refl _)
    have e2 := h2.later h6 (Nat.le_refl _)
    have d1 := h.dig.at_ k
    have d2 := h2.dig.at_ k
    rcases e1.parts with h' | ⟨ba, oa, rfl, _, hca⟩
    · omega
    have hca' := hca k hlt
    clear hca
    obtain ⟨s, hs1, hs2⟩ : ∃ s : Nat, IntKind.u64.wrap ((D l k : Int) - (D l2 k : Int)) = (s : Int) ∧ s = (D l k + 18446744073709551616 - D l2 k) % 18446744073709551616 := ⟨_, by rw [IntKind.wrap_u64]; omega, rfl⟩
    obtain ⟨t, ht1, ht2⟩ : ∃ t : Nat, IntKind.u64.wrap ((s : Int) - (x : Int)) = (t : Int) ∧ t = (s + 18446744073709551616 - x) % 18446744073709551616 := ⟨_, by rw [IntKind.wrap_u64]; omega, rfl⟩
    have hsB : s < 18446744073709551616 := by omega
    have htB : t < 18446744073709551616 := by omega
    have key1 : D l k < D l2 k ∨ s < x → t + D l2 k + x = D l k + 18446744073709551616 * 1 := by omega
    have key0 : ¬ D l k < D l2 k → ¬ s < x → t + D l2 k + x = D l k + 18446744073709551616 * 0 := by omega
    have K1 := Lib.hid key1
    have K0 := Lib.hid key0
    clear key1 key0 hs2 ht2
    have hdg : ∀ N, Calls Try.prog 67 #[.slice a2 n2 c2, .int .i64 (k : Int)] (wr.drewN N) fun e w'' => e = .returned (.int .u64 ((D l2 k : Nat) : Int)) ∧ ∃ m, w'' = wr.drewN m := fun N => by
     have H := rdigit_any _ _ _ l2 k _ (e2.draws N) (by omega)
     rw [Int.toNat_natCast] at H
     exact H.mono fun _ _ ⟨x1, x2⟩ => ⟨x1, N, x2.symm⟩
    have HDG := Lib.hid hdg
    clear hdg
    by_cases t1 : D l k < D l2 k <;> by_cases t2 : s < x
    all_goals
     go_wp2_with fail
     go_quiet ((go_at_call 67; exact HDG.out _))
     have h6 := Below.draws h6 nq
     have hrow := hrow.kept (w' := wr.drewN nq) (row := none) ⟨rfl, rfl, rfl, Nat.le_refl _, fun _ _ _ => rfl⟩ (by cases b <;> simp [Value.ownBlock])
     generalize wr.drewN nq = W at h6 hrow ⊢
     go_wp2_with (at_builtin; refine wpList_append_nat rfl _ _ 23 rfl w.heap.size 39 i0 Try.underlying23 hi hz0 hz1 hz2 _ k (dv os) rfl (hrow.alloc _) _ 1 1 [t] rfl (lit1 W t t rfl htB).toNatAt (by omega) (by have := h6.size; simp; omega) ?_; intro b2 cc2 w2 hown2 hgrow2)
     obtain ⟨hr2, hb2⟩ := grown_row _ h6 h6.size hrow hown2 hgrow2
     go_roundw
     case measure => simp [intOf]; omega
     case rel => first
      | exact ⟨k + 1, 1, os ++ [t], b2, cc2, by omega, by omega, by go_num, rfl, rfl, dig_snoc hdo htB, by rw [List.length_append, HLO.out]; rfl, hr2, sub_snoc HLO.out H5.out (K1.out (by first | exact .inl t1 | exact .inr t2)), hb2⟩
      | exact ⟨k + 1, 0, os ++ [t], b2, cc2, by omega, by omega, by go_num, rfl, rfl, dig_snoc hdo htB, by rw [List.length_append, HLO.out]; rfl, hr2, sub_snoc HLO.out H5.out (K0.out t1 t2), hb2⟩
  · obtain rfl : k = n := by omega
    have h7 := sub_end h.dig hdo HLO.out (by rw [h.len]; exact Nat.le_refl _) HV.out H5.out
    obtain ⟨a5, c5, e5, h8⟩ := OwnAt.ofRow hrow hdo
    cases e5
    have H7 := Lib.hid h7
    clear h7
    go_wp2_with fail
    refine (rtrim_any _ _ _ os _ h8.toNatAt (by omega)).mono ?_
    rintro e w3 ⟨a3, n3, c3, rfl, h9, hb3⟩
    go_wp2
    go_ret2
    rw [H7.out] at h9
    exact ⟨_, _, _, rfl, h9.mono h6.size, below_later h6 hb3⟩
end Go.Proofs.Ytoecndogaklngaa
