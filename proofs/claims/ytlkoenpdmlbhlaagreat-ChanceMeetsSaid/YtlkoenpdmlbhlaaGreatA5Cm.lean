import Derived.Lib.MinMax
import Derived.BigQuiet
import Derived.Deep.RegionHeld3
import Derived.Deep.DeepFit
import Derived.Test.YtlkoenpdmlbhlaaGreatS0Cm
import Derived.Test.YtlkoenpdmlbhlaaGreatA2Cm
import Derived.Test.YtlkoenpdmlbhlaaGreatA1Cm
import Derived.Test.YtlkoenpdmlbhlaaGreatA3Cm
import Derived.Test.YtlkoenpdmlbhlaaGreatLen64Cm
set_option linter.unusedVariables false
set_option linter.unusedSimpArgs false
namespace Go.Proofs.YtlkoenpdmlbhlaaGreat
open Go.RowKit
set_option maxRecDepth 100000 in
theorem rtrim_any (a : Option Addr) (n c : Nat) (l : List Nat) (w : World) (h : NatAt w a n c l) (hs : n ≤ 1099511627776) :
 Calls Tryz.prog 126 #[.slice a n c] w (RetNat w (val l)) := by
 obtain ⟨i0, hi, hz0, hz1, hz2⟩ := info_parts info99
 have hd := h.digs
 have hdn := digs_length_val h.dig
 rw [h.len] at hdn
 have hl := h.cle
 have hl' := h.le
 have HD := Lib.hid hd
 clear hd
 go_enter Tryz.func126, Tryz.ntmps126
 go_wp2
 go_loop [0] (fun v => ∃ m : Nat, m ≤ n ∧ Go.Proofs.YtlkoenpdmlbhlaaGreat.hi l m = 0 ∧ v = .slice a m c) (fun v => match v with | .slice _ m _ => m | _ => 0)
 case atStart => exact ⟨n, Nat.le_refl _, hi_all (by rw [h.len]; omega), rfl⟩
 case round =>
  obtain ⟨m, hm, h0, rfl⟩ := hrel
  have H0 := Lib.hid h0
  clear h0
  by_cases hm0 : 0 < m
  · rcases h.parts with h1 | ⟨b, o, rfl, hlt, hc⟩
    · omega
    have hc' := hc (m - 1) (by omega)
    clear hc
    by_cases hz : D l (m - 1) = 0
    · have hz' : (((D l (m - 1) : Nat) : Int) == 0) = true := by rw [hz]; rfl
      have HZ := Lib.hid hz
      clear hz
      go_wp2
      go_round
      case rel => exact ⟨m - 1, by omega, by rw [hi_step, HZ.out, show m - 1 + 1 = m by omega, H0.out], rfl⟩
      case measure => simp; omega
    · have hz' : (((D l (m - 1) : Nat) : Int) == 0) = false := by simpa using hz
      have e := take_digs_length h.dig (by rw [h.len]; exact hm) H0.out (.inr hz)
      have HN := HD.out
      rw [← e] at HN hdn
      clear hz e HD
      go_wp2_with (at_builtin; refine wpList_append_nat rfl _ _ 23 rfl w.heap.size 99 i0 Tryz.underlying23 hi hz0 hz1 hz2 _ 0 [] rfl (World.ownsRow_lit w #[] 0 (Nat.le_refl _) (by simp) rfl) _ m c _ rfl (HN.alloc _) (by omega) (by simp) ?_; intro a' c' w1 hown hgrow)
      go_ret
      exact copied w a' m c' _ w1 _ (dig_digs _) hown hgrow rfl
  · have hmz : m = 0 := by omega
    subst hmz
    have e := take_digs_length h.dig (Nat.zero_le _) H0.out (.inl rfl)
    have HN := HD.out
    rw [← e] at HN hdn
    clear hm0 e HD
    go_wp2_with (at_builtin; refine wpList_append_nat rfl _ _ 23 rfl w.heap.size 99 i0 Tryz.underlying23 hi hz0 hz1 hz2 _ 0 [] rfl (World.ownsRow_lit w #[] 0 (Nat.le_refl _) (by simp) rfl) _ 0 c _ rfl (HN.alloc _) (by omega) (by simp) ?_; intro a' c' w1 hown hgrow)
    go_ret
    exact copied w a' 0 c' _ w1 _ (dig_digs _) hown hgrow rfl
set_option maxRecDepth 100000 in
theorem rof_any (x : Nat) (w : World) (hx : x < 18446744073709551616) :
 Calls Tryz.prog 133 #[.int .u64 x] w (RetNat w x) := by
 go_enter Tryz.func133, Tryz.ntmps133
 go_wp2_with fail
 refine (rtrim_any _ _ _ [x] _ (lit1 w x x rfl hx).toNatAt (by decide)).mono ?_
 rintro e w1 ⟨a1, n1, c1, rfl, h3, hb⟩
 go_wp2
 go_ret
 exact RetNat.of ((Below.refl _ _).alloc (Nat.le_refl _) _) ⟨_, _, _, rfl, by simpa [val] using h3, hb⟩
set_option maxRecDepth 100000 in
theorem rcheck_any (a : Option Addr) (n c : Nat) (l : List Nat) (w : World) (h : NatAt w a n c l) :
 Calls Tryz.prog 88 #[.slice a n c] w fun e w' => e = .returned (.int .i64 (chk l)) ∧ w = w' := by
 have hl := h.cle
 have hl' := h.le
 have hlen := h.len
 by_cases hn : n = 0
 · subst hn
   have hnil : l = [] := List.eq_nil_of_length_eq_zero hlen
   subst hnil
   clear hlen
   go_enter Tryz.func88, Tryz.ntmps88
   go_wp2
   go_ret
   exact ⟨rfl, rfl⟩
 · rcases h.parts with h1 | ⟨b, o, rfl, hlt, hc⟩
   · omega
   have hc' := hc (n - 1) (by omega)
   clear hc
   have hne : l ≠ [] := fun e => hn (by rw [← hlen, e]; rfl)
   by_cases hz : D l (n - 1) = 0
   · have hv := chk_zero hne (by rw [hlen]; exact hz)
     have hz' : (((D l (n - 1) : Nat) : Int) == 0) = true := by rw [hz]; rfl
     have HV := Lib.hid hv
     clear hv hz hlen
     go_enter Tryz.func88, Tryz.ntmps88
     go_wp2
     go_ret
     exact ⟨ret_int HV.out.symm, rfl⟩
   · have hv := chk_pos hne (by rw [hlen]; exact hz)
     have hz' : (((D l (n - 1) : Nat) : Int) == 0) = false := by simpa using hz
     have HV := Lib.hid hv
     clear hv hz hlen
     go_enter Tryz.func88, Tryz.ntmps88
     go_wp2
     go_ret
     exact ⟨ret_int HV.out.symm, rfl⟩
set_option maxRecDepth 100000 in
theorem rcmp_any (a : Option Addr) (n c : Nat) (l : List Nat) (a2 : Option Addr) (n2 c2 : Nat) (l2 : List Nat) (w : World) (h : NatAt w a n c l) (h2 : NatAt w a2 n2 c2 l2) :
 Calls Tryz.prog 89 #[.slice a n c, .slice a2 n2 c2] w fun e w' => e = .returned (.int .i64 (cmpI (val l) (val l2))) ∧ w = w' := by
 have hm := h.cle
 have hm' := h.le
 have hm2 := h2.cle
 have hm2' := h2.le
 obtain ⟨M, hM⟩ : ∃ M : Nat, max (n : Int) (n2 : Int) = M := ⟨max n n2, by omega⟩
 have hMn : l.length ≤ M := by rw [h.len]; omega
 have hMn2 : l2.length ≤ M := by rw [h2.len]; omega
 have hMb : M ≤ 9223372036854775807 := by omega
 go_enter Tryz.func89, Tryz.ntmps89
 go_wp2
 go_loop [5] (fun i => ∃ k : Nat, k ≤ M ∧ i = .int .i64 ((M : Int) - 1 - k) ∧ lexP (upto l l2 M k) = 0) (fun i => (intOf i + 1).toNat)
 case atStart => exact ⟨0, Nat.zero_le _, by go_num, rfl⟩
 case round =>
  obtain ⟨k, hk, rfl, h0⟩ := hrel
  by_cases hlt : k < M
  · have hk' : 0 ≤ (M : Int) - 1 - k := by omega
    have ek : ((M : Int) - 1 - k).toNat = M - 1 - k := by omega
    have EK := Lib.hid ek
    have hx : lexP (upto l l2 M (k + 1)) = cmpI (D l (M - 1 - k)) (D l2 (M - 1 - k)) := by rw [upto_succ, lexP_append, if_pos h0, lexP_one]
    have hp := lexP_part (k := k + 1) h.dig h2.dig hMn hMn2 (by omega)
    have HX := Lib.hid hx
    have HP := Lib.hid hp
    clear ek h0 hx hp
    rcases Nat.lt_trichotomy (D l (M - 1 - k)) (D l2 (M - 1 - k)) with hlg | hlg | hlg
    · have e : -1 = cmpI (val l) (val l2) := by
       have h1 := HX.out
       rw [cmpI_lt hlg] at h1
       rw [← HP.out (by rw [h1]; decide), h1]
      have E := Lib.hid e
      clear e
      go_wp2_with fail
      refine (rdigit_any _ _ _ l _ _ h hk').mono ?_
      rintro e w' ⟨rfl, rfl⟩
      rw [EK.out]
      go_wp2_with fail
      refine (rdigit_any _ _ _ l2 _ _ h2 hk').mono ?_
      rintro e w' ⟨rfl, rfl⟩
      rw [EK.out]
      go_wp2
      go_ret
      exact ⟨ret_int E.out, rfl⟩
    · have h0 : lexP (upto l l2 M (k + 1)) = 0 := by rw [HX.out, hlg, cmpI_eq]
      have t1 : ¬ D l (M - 1 - k) < D l2 (M - 1 - k) := by omega
      have t2 : ¬ D l2 (M - 1 - k) < D l (M - 1 - k) := by omega
      have H0 := Lib.hid h0
      clear hlg h0
      go_wp2_with fail
      refine (rdigit_any _ _ _ l _ _ h hk').mono ?_
      rintro e w' ⟨rfl, rfl⟩
      rw [EK.out]
      go_wp2_with fail
      refine (rdigit_any _ _ _ l2 _ _ h2 hk').mono ?_
      rintro e w' ⟨rfl, rfl⟩
      rw [EK.out]
      go_wp2
      go_round
      case rel => exact ⟨k + 1, by omega, by go_num, H0.out⟩
      case measure => simp [intOf]; omega
    · have e : 1 = cmpI (val l) (val l2) := by
       have h1 := HX.out
       rw [cmpI_gt hlg] at h1
       rw [← HP.out (by rw [h1]; decide), h1]
      have E := Lib.hid e
      clear e
      go_wp2_with fail
      refine (rdigit_any _ _ _ l _ _ h hk').mono ?_
      rintro e w' ⟨rfl, rfl⟩
      rw [EK.out]
      go_wp2_with fail
      refine (rdigit_any _ _ _ l2 _ _ h2 hk').mono ?_
      rintro e w' ⟨rfl, rfl⟩
      rw [EK.out]
      go_wp2
      go_ret
      exact ⟨ret_int E.out, rfl⟩
  · obtain rfl : k = M := by omega
    have e := lexP_all h.dig h2.dig hMn hMn2
    rw [h0] at e
    have E := Lib.hid e
    clear e h0
    go_wp2
    go_ret
    exact ⟨ret_int E.out, rfl⟩
end Go.Proofs.YtlkoenpdmlbhlaaGreat
set_option linter.unusedVariables false
set_option linter.unusedSimpArgs false
namespace Go.Proofs.YtlkoenpdmlbhlaaGreat
open Go.RowKit
set_option maxRecDepth 100000 in
theorem moved_yes (s : Int) (w : World) (h0 : 0 ≤ s) (h1 : s ≤ 16777216) :
 Calls Tryz.prog 170 #[.int .i64 s] w fun e w' => e = .returned (.bool true) ∧ w = w' := by
 go_enter Tryz.func170, Tryz.ntmps170
 go_wp2
 go_ret
 exact ⟨rfl, rfl⟩
end Go.Proofs.YtlkoenpdmlbhlaaGreat
set_option linter.unusedVariables false
set_option linter.unusedSimpArgs false
namespace Go.Proofs.YtlkoenpdmlbhlaaGreat
open Go.RowKit
theorem grown_row {E : Nat} {w w1 : World} {B n : Nat} {a a' : Option Addr} {c c' : Nat} {l : List Nat} {x : Nat} (o : Obj) (hB : Below B w w1) (hle : B ≤ w1.heap.size) (hrow : w1.ownsRow B E 1 (.slice a n c) n (dv l)) {w2 : World}
 (hown : w2.ownsRow B E 1 (.slice a' (n + 1) c') (n + 1) (dv l ++ dv [x])) (hgrow : (w1.alloc o).grownBy w2 (Value.slice a n c).ownBlock) :
 w2.ownsRow B E 1 (.slice a' (n + 1) c') (n + 1) (dv (l ++ [x])) ∧ Below B w w2 :=
 ⟨by rw [dv_append]; exact hown, (hB.alloc hle o).grown hgrow (by simp; omega) (fun k hk => (hrow.lt k hk).1)⟩
set_option maxHeartbeats 1000000 in
set_option maxRecDepth 100000 in
theorem radd_any (a : Option Addr) (n c : Nat) (l : List Nat) (a2 : Option Addr) (n2 c2 : Nat) (l2 : List Nat) (w : World) (h : NatAt w a n c l) (h2 : NatAt w a2 n2 c2 l2) (hs : n ≤ 549755813888) (hs2 : n2 ≤ 549755813888) :
 Calls Tryz.prog 121 #[.slice a n c, .slice a2 n2 c2] w (RetNat w (val l + val l2)) := by
 obtain ⟨i0, hi, hz0, hz1, hz2⟩ := info_parts info99
 obtain ⟨M, hM⟩ : ∃ M : Nat, max (n : Int) (n2 : Int) = M := ⟨max n n2, by omega⟩
 have hM1 : n ≤ M := by omega
 have hM2 : n2 ≤ M := by omega
 have hM3 : M ≤ 549755813888 := by omega
 go_enter Tryz.func121, Tryz.ntmps121
 go_wp2_with fail
 go_loopw [5, 6, 7] (fun v cy i wr => ∃ (k x : Nat) (os : List Nat) (b : Option Addr) (cc : Nat), k ≤ M + 1 ∧ x ≤ 1 ∧ i = .int .i64 k ∧ cy = .int .u64 x ∧ v = .slice b k cc ∧ Dig os ∧ os.length = k ∧ wr.ownsRow w.heap.size 99 1 (.slice b k cc) k (dv os) ∧ lo os k + 18446744073709551616 ^ k * x = lo l k + lo l2 k ∧ Below w.heap.size w wr) (fun _ _ i _ => M + 1 - (intOf i).toNat)
 case atStart => exact ⟨0, 0, [], none, 0, Nat.zero_le _, Nat.zero_le _, rfl, rfl, rfl, dig_nil, rfl, World.ownsRow_nil _ _ _ _, by simp [lo_zero], Below.refl _ _⟩
 case round =>
  obtain ⟨k, x, os, b, cc, hk, hx, rfl, rfl, rfl, hdo, hlo, hrow, h5, h6⟩ := hrel
  have H5 := Lib.hid h5
  have HLO := Lib.hid hlo
  clear h5 hlo
  by_cases hlt : k ≤ M
  · have e1 := h.later h6 (Nat.le_refl _)
    have e2 := h2.later h6 (Nat.le_refl _)
    have d1 := h.dig.at_ k
    have d2 := h2.dig.at_ k
    obtain ⟨s, hs1, hs2⟩ : ∃ s : Nat, IntKind.u64.wrap ((D l k : Int) + (D l2 k : Int)) = (s : Int) ∧ s = (D l k + D l2 k) % 18446744073709551616 := ⟨_, by rw [IntKind.wrap_u64]; omega, rfl⟩
    obtain ⟨t, ht1, ht2⟩ : ∃ t : Nat, IntKind.u64.wrap ((s : Int) + (x : Int)) = (t : Int) ∧ t = (s + x) % 18446744073709551616 := ⟨_, by rw [IntKind.wrap_u64]; omega, rfl⟩
    have hsB : s < 18446744073709551616 := by omega
    have htB : t < 18446744073709551616 := by omega
    have key1 : s < D l k ∨ t < s → t + 18446744073709551616 * 1 = D l k + D l2 k + x := by omega
    have key0 : ¬ s < D l k → ¬ t < s → t + 18446744073709551616 * 0 = D l k + D l2 k + x := by omega
    have K1 := Lib.hid key1
    have K0 := Lib.hid key0
    clear key1 key0 hs2 ht2
    by_cases t1 : s < D l k <;> by_cases t2 : t < s
    all_goals
     go_wp2_with fail
     refine (rdigit_any _ _ _ l _ _ e1 (by omega)).mono ?_
     rintro e w' ⟨rfl, rfl⟩
     rw [Int.toNat_natCast]
     go_wp2_with fail
     refine (rdigit_any _ _ _ l2 _ _ e2 (by omega)).mono ?_
     rintro e w' ⟨rfl, rfl⟩
     rw [Int.toNat_natCast]
     go_wp2_with (at_builtin; refine wpList_append_nat rfl _ _ 23 rfl w.heap.size 99 i0 Tryz.underlying23 hi hz0 hz1 hz2 _ k (dv os) rfl (hrow.alloc _) _ 1 1 [t] rfl (lit1 wr t t rfl htB).toNatAt (by omega) (by have := h6.size; simp; omega) ?_; intro b2 cc2 w2 hown2 hgrow2)
     obtain ⟨hr2, hb2⟩ := grown_row _ h6 h6.size hrow hown2 hgrow2
     go_roundw
     case measure => simp [intOf]; omega
     case rel => first
      | exact ⟨k + 1, 1, os ++ [t], b2, cc2, by omega, by omega, by go_num, rfl, rfl, dig_snoc hdo htB, by rw [List.length_append, HLO.out]; rfl, hr2, add_snoc HLO.out H5.out (K1.out (by first | exact .inl t1 | exact .inr t2)), hb2⟩
      | exact ⟨k + 1, 0, os ++ [t], b2, cc2, by omega, by omega, by go_num, rfl, rfl, dig_snoc hdo htB, by rw [List.length_append, HLO.out]; rfl, hr2, add_snoc HLO.out H5.out (K0.out t1 t2), hb2⟩
  · obtain rfl : k = M + 1 := by omega
    have h7 := add_end h.dig h2.dig HLO.out (by rw [h.len]; exact hM1) (by rw [h2.len]; exact hM2) H5.out
    obtain ⟨a5, c5, e5, h8⟩ := OwnAt.ofRow hrow hdo
    cases e5
    have H7 := Lib.hid h7
    clear h7
    go_wp2_with fail
    refine (rtrim_any _ _ _ os _ h8.toNatAt (by omega)).mono ?_
    rintro e w3 ⟨a3, n3, c3, rfl, h9, hb3⟩
    go_wp2
    go_ret
    rw [H7.out] at h9
    exact RetNat.of h6 ⟨_, _, _, rfl, h9, hb3⟩
end Go.Proofs.YtlkoenpdmlbhlaaGreat
set_option linter.unusedVariables false
set_option linter.unusedSimpArgs false
namespace Go.Proofs.YtlkoenpdmlbhlaaGreat
open Go.RowKit
set_option maxHeartbeats 1000000 in
set_option maxRecDepth 100000 in
theorem rsub_yes (a : Option Addr) (n c : Nat) (l : List Nat) (a2 : Option Addr) (n2 c2 : Nat) (l2 : List Nat) (w : World) (h : NatAt w a n c l) (h2 : NatAt w a2 n2 c2 l2) (hs : n ≤ 549755813888) (hv : val l2 ≤ val l) :
 Calls Tryz.prog 160 #[.slice a n c, .slice a2 n2 c2] w (RetNatOk w (val l - val l2) 0) := by
 obtain ⟨i0, hi, hz0, hz1, hz2⟩ := info_parts info99
 have ht : 0 ≤ cmpI (val l) (val l2) := by
  rcases Int.lt_or_le (cmpI (val l) (val l2)) 0 with h' | h'
  · have := cmpI_neg.1 h'; omega
  · exact h'
 have HV := Lib.hid hv
 clear hv
 go_enter Tryz.func160, Tryz.ntmps160
 go_wp2_with fail
 refine (rcmp_any _ _ _ l _ _ _ l2 _ h h2).mono ?_
 rintro e w0 ⟨rfl, rfl⟩
 go_wp2_with fail
 go_loopw [6, 7, 8] (fun v cy i wr => ∃ (k x : Nat) (os : List Nat) (b : Option Addr) (cc : Nat), k ≤ n ∧ x ≤ 1 ∧ i = .int .i64 k ∧ cy = .int .u64 x ∧ v = .slice b k cc ∧ Dig os ∧ os.length = k ∧ wr.ownsRow w.heap.size 99 1 (.slice b k cc) k (dv os) ∧ lo os k + lo l2 k = lo l k + 18446744073709551616 ^ k * x ∧ Below w.heap.size w wr) (fun _ _ i _ => n - (intOf i).toNat)
 case atStart => exact ⟨0, 0, [], none, 0, Nat.zero_le _, Nat.zero_le _, rfl, rfl, rfl, dig_nil, rfl, World.ownsRow_nil _ _ _ _, by simp [lo_zero], Below.refl _ _⟩
 case round =>
  obtain ⟨k, x, os, b, cc, hk, hx, rfl, rfl, rfl, hdo, hlo, hrow, h5, h6⟩ := hrel
  have H5 := Lib.hid h5
  have HLO := Lib.hid hlo
  clear h5 hlo
  by_cases hlt : k < n
  · have e1 := h.later h6 (Nat.le_refl _)
    have e2 := h2.later h6 (Nat.le_refl _)
    have d1 := h.dig.at_ k
    have d2 := h2.dig.at_ k
    rcases e1.parts with h' | ⟨ba, oa, rfl, _, hca⟩
    · omega
    have hca' := hca k hlt
    clear hca
    obtain ⟨s, hs1, hs2⟩ : ∃ s : Nat, IntKind.u64.wrap ((D l k : Int) - (D l2 k : Int)) = (s : Int) ∧ s = (D l k + 18446744073709551616 - D l2 k) % 18446744073709551616 := ⟨_, by rw [IntKind.wrap_u64]; omega, rfl⟩
    obtain ⟨t, ht1, ht2⟩ : ∃ t : Nat, IntKind.u64.wrap ((s : Int) - (x : Int)) = (t : Int) ∧ t = (s + 18446744073709551616 - x) % 18446744073709551616 := ⟨_, by rw [IntKind.wrap_u64]; omega, rfl⟩
    have hsB : s < 18446744073709551616 := by omega
    have htB : t < 18446744073709551616 := by omega
    have key1 : D l k < D l2 k ∨ s < x → t + D l2 k + x = D l k + 18446744073709551616 * 1 := by omega
    have key0 : ¬ D l k < D l2 k → ¬ s < x → t + D l2 k + x = D l k + 18446744073709551616 * 0 := by omega
    have K1 := Lib.hid key1
    have K0 := Lib.hid key0
    clear key1 key0 hs2 ht2
    have hdg : ∀ N, Calls Tryz.prog 125 #[.slice a2 n2 c2, .int .i64 (k : Int)] (wr.drewN N) fun e w'' => e = .returned (.int .u64 ((D l2 k : Nat) : Int)) ∧ ∃ m, w'' = wr.drewN m := fun N => by
     have H := rdigit_any _ _ _ l2 k _ (e2.draws N) (by omega)
     rw [Int.toNat_natCast] at H
     exact H.mono fun _ _ ⟨x1, x2⟩ => ⟨x1, N, x2.symm⟩
    have HDG := Lib.hid hdg
    clear hdg
    by_cases t1 : D l k < D l2 k <;> by_cases t2 : s < x
    all_goals
     go_wp2_with fail
     go_quiet ((go_at_call 125; exact HDG.out _))
     have h6 := Below.draws h6 nq
     have hrow := hrow.kept (w' := wr.drewN nq) (row := none) ⟨rfl, rfl, rfl, Nat.le_refl _, fun _ _ _ => rfl⟩ (by cases b <;> simp [Value.ownBlock])
     generalize wr.drewN nq = W at h6 hrow ⊢
     go_wp2_with (at_builtin; refine wpList_append_nat rfl _ _ 23 rfl w.heap.size 99 i0 Tryz.underlying23 hi hz0 hz1 hz2 _ k (dv os) rfl (hrow.alloc _) _ 1 1 [t] rfl (lit1 W t t rfl htB).toNatAt (by omega) (by have := h6.size; simp; omega) ?_; intro b2 cc2 w2 hown2 hgrow2)
     obtain ⟨hr2, hb2⟩ := grown_row _ h6 h6.size hrow hown2 hgrow2
     go_roundw
     case measure => simp [intOf]; omega
     case rel => first
      | exact ⟨k + 1, 1, os ++ [t], b2, cc2, by omega, by omega, by go_num, rfl, rfl, dig_snoc hdo htB, by rw [List.length_append, HLO.out]; rfl, hr2, sub_snoc HLO.out H5.out (K1.out (by first | exact .inl t1 | exact .inr t2)), hb2⟩
      | exact ⟨k + 1, 0, os ++ [t], b2, cc2, by omega, by omega, by go_num, rfl, rfl, dig_snoc hdo htB, by rw [List.length_append, HLO.out]; rfl, hr2, sub_snoc HLO.out H5.out (K0.out t1 t2), hb2⟩
  · obtain rfl : k = n := by omega
    have h7 := sub_end h.dig hdo HLO.out (by rw [h.len]; exact Nat.le_refl _) HV.out H5.out
    obtain ⟨a5, c5, e5, h8⟩ := OwnAt.ofRow hrow hdo
    cases e5
    have H7 := Lib.hid h7
    clear h7
    go_wp2_with fail
    refine (rtrim_any _ _ _ os _ h8.toNatAt (by omega)).mono ?_
    rintro e w3 ⟨a3, n3, c3, rfl, h9, hb3⟩
    go_wp2
    go_ret2
    rw [H7.out] at h9
    exact ⟨_, _, _, rfl, h9.mono h6.size, below_later h6 hb3⟩
end Go.Proofs.YtlkoenpdmlbhlaaGreat
set_option linter.unusedVariables false
set_option linter.unusedSimpArgs false
namespace Go.Proofs.YtlkoenpdmlbhlaaGreat
open Go.RowKit
set_option maxRecDepth 100000 in
theorem rlen_any (a : Option Addr) (n c : Nat) (l : List Nat) (w : World) (h : NatAt w a n c l) (hs : n ≤ 549755813888) :
 Calls Tryz.prog 153 #[.slice a n c] w (RetVal w (.int .i64 ((nbits (val l) : Nat) : Int))) := by
 have hle := digs_length_val h.dig
 rw [h.len] at hle
 by_cases h0 : val l = 0
 · have hl : (digs (val l)).length = 0 := digs_len0.2 h0
   have HL := Lib.hid hl
   have e1 : nbits (val l) = 0 := by rw [h0]; rfl
   have E1 := Lib.hid e1
   clear hl h0 e1
   go_enter Tryz.func153, Tryz.ntmps153
   go_wp2_with fail
   refine (rtrim_any _ _ _ _ _ h (by omega)).mono ?_
   rintro e w1 ⟨a1, n1, c1, rfl, h1, hb⟩
   obtain rfl : n1 = 0 := by have := h1.len; rw [HL.out] at this; omega
   go_wp2
   go_ret
   exact ⟨by rw [E1.out]; rfl, hb⟩
 · have hm0 : (digs (val l)).length ≠ 0 := fun e => h0 (digs_len0.1 e)
   obtain ⟨m, hm⟩ : ∃ m, (digs (val l)).length = m + 1 := ⟨(digs (val l)).length - 1, by omega⟩
   have ht := D_digs_last h0
   rw [hm] at ht hle
   rw [show m + 1 - 1 = m by omega] at ht
   have hv := nbits_top (dig_digs (val l)) hm ht
   rw [val_digs] at hv
   have hD := (dig_digs (val l)).at_ m
   have HV := Lib.hid hv
   have HM := Lib.hid hm
   clear hv hm ht hm0 h0
   have t1 : (((m + 1 : Nat) : Int) == 0) = false := by simp only [beq_eq_false_iff_ne]; omega
   have hrt := rtrim_any _ _ _ _ _ h (show n ≤ 1099511627776 by omega)
   obtain ⟨L, hL⟩ : ∃ L, digs (val l) = L := ⟨_, rfl⟩
   have hrt : Calls Tryz.prog 126 #[.slice a n c] w fun e w' => ∃ b o c', e = .returned (.slice (some ⟨b, o, none⟩) (m + 1) c') ∧ w'.cell? ⟨b, o + m, none⟩ = some (.int .u64 ((D L m : Nat) : Int)) ∧ m + 1 ≤ c' ∧ c' ≤ 9223372036854775807 ∧ Below w.heap.size w w' := by
    refine hrt.mono ?_
    rintro e w1 ⟨a1, n1, c1, rfl, h1, hb⟩
    obtain rfl : n1 = m + 1 := by have := h1.len; rw [HM.out] at this; omega
    rcases h1.toNatAt.parts with h2 | ⟨b, o, rfl, hlt, hc⟩
    · omega
    · have := hc m (by omega)
      rw [hL] at this
      exact ⟨b, o, c1, rfl, this, h1.le, h1.cle, hb⟩
   rw [hL] at hD
   have HL := Lib.hid hL
   have HRT := Lib.hid hrt
   clear hrt hL
   go_enter Tryz.func153, Tryz.ntmps153
   go_wp2_with fail
   refine HRT.out.mono ?_
   rintro e w1 ⟨b, o, c1, rfl, hc, hc1, hc2, hb⟩
   go_wp2
   go_loop [3, 4] (fun bs x => ∃ y k : Nat, bs = .int .i64 k ∧ x = .int .u64 y ∧ k + nbits y = 64 * m + nbits (D L m) ∧ k ≤ 64 * m + 64 ∧ y < 18446744073709551616) (fun _ x => (intOf x).toNat)
   case atStart => exact ⟨D L m, 64 * m, by go_num, rfl, rfl, by omega, hD⟩
   case round =>
    obtain ⟨y, k, rfl, rfl, hk, hk2, hy⟩ := hrel
    by_cases hy0 : 0 < y
    · have e := nbits_pos (n := y) (by omega)
      have hb64 : nbits (D L m) ≤ 64 := nbits_le hD
      have hk3 : k + 1 ≤ 64 * m + 64 := by omega
      have ek : k + 1 + nbits (y / 2) = 64 * m + nbits (D L m) := by omega
      have EK := Lib.hid ek
      clear e hk ek
      go_wp2
      go_round
      case rel => exact ⟨y / 2, k + 1, by go_num, by go_num, EK.out, hk3, by omega⟩
      case measure => simp [intOf]; omega
    · obtain rfl : y = 0 := by omega
      have ek : k = nbits (val l) := by rw [HV.out, HL.out]; simpa [nbits_zero] using hk
      have EK := Lib.hid ek
      clear ek hk
      go_wp2
      go_ret
      exact ⟨by rw [← EK.out]; rfl, hb⟩
end Go.Proofs.YtlkoenpdmlbhlaaGreat
set_option linter.unusedVariables false
set_option linter.unusedSimpArgs false
namespace Go.Proofs.YtlkoenpdmlbhlaaGreat
open Go.RowKit
theorem rdown_bits {x y r : Nat} (hx : x < 18446744073709551616) (hr : r ≤ 63) :
 bits .or .u64 ((x : Int) / 2 ^ r) (IntKind.u64.wrap ((y : Int) * 2 ^ (64 - r))) = (((x + 18446744073709551616 * y) / 2 ^ r % 18446744073709551616 : Nat) : Int) := by
 have e1 : (x : Int) / 2 ^ r = ((x / 2 ^ r : Nat) : Int) := by rw [Int.natCast_ediv, Int.natCast_pow]; rfl
 have e2 : IntKind.u64.wrap ((y : Int) * 2 ^ (64 - r)) = ((y * 2 ^ (64 - r) % 18446744073709551616 : Nat) : Int) := by
  rw [IntKind.wrap_u64]
  simp only [Int.natCast_emod, Int.natCast_mul, Int.natCast_pow]
  rfl
 rw [e1, e2, u64_or_nat _ _ (Nat.lt_of_le_of_lt (Nat.div_le_self _ _) hx) (Nat.mod_lt _ (by decide)), rshr_or hx hr]
set_option maxHeartbeats 1000000 in
set_option maxRecDepth 100000 in
theorem rshiftDown_any (a : Option Addr) (n c : Nat) (l : List Nat) (s : Int) (w : World) (h : NatAt w a n c l) (hs : n ≤ 549755813888) (h0 : 0 ≤ s) (h1 : s ≤ 16777216) :
 Calls Tryz.prog 154 #[.slice a n c, .int .i64 s] w (RetNatOk w (val l / 2 ^ s.toNat) 0) := by
 obtain ⟨i0, hi, hz0, hz1, hz2⟩ := info_parts info99
 obtain ⟨q, r, rfl, hr⟩ : ∃ q r : Nat, s = 64 * q + r ∧ r ≤ 63 := ⟨(s / 64).toNat, (s % 64).toNat, by omega, by omega⟩
 have es : (64 * (q : Int) + r).toNat = 64 * q + r := by omega
 rw [es]
 have hq : (64 * (q : Int) + r) / 64 = q := by omega
 have hm : (64 * (q : Int) + r) % 64 = r := by omega
 have ES := Lib.hid es
 clear es
 have hn1 := h.le
 have hn2 := h.cle
 have HL := Lib.hid h.len
 go_enter Tryz.func154, Tryz.ntmps154
 go_wp2_with fail
 refine (moved_yes _ _ h0 h1).mono ?_
 rintro e w' ⟨rfl, rfl⟩
 go_wp2_with fail
 rw [hm, hq]
 clear hq hm
 go_loopw [6, 8] (fun v i wr => ∃ (k : Nat) (os : List Nat) (b : Option Addr) (cc : Nat), (k = 0 ∨ q + k ≤ n) ∧ i = .int .i64 ((q + k : Nat) : Int) ∧ v = .slice b k cc ∧ Dig os ∧ os.length = k ∧ wr.ownsRow w.heap.size 99 1 (.slice b k cc) k (dv os) ∧ (∀ j, j < k → D os j = (val l / 2 ^ (64 * q + r)) / 18446744073709551616 ^ j % 18446744073709551616) ∧ Below w.heap.size w wr) (fun _ i _ => n - (intOf i).toNat)
 case atStart => exact ⟨0, [], none, 0, .inl rfl, by go_num, rfl, dig_nil, rfl, World.ownsRow_nil _ _ _ _, fun j hj => by omega, Below.refl _ _⟩
 case round =>
  obtain ⟨k, os, b, cc, hk, rfl, rfl, hdo, hlo, hrow, h5, h6⟩ := hrel
  have H5 := Lib.hid h5
  have HLO := Lib.hid hlo
  clear h5 hlo
  by_cases hlt : q + k < n
  · have e1 := h.later h6 (Nat.le_refl _)
    have d1 := h.dig.at_ (q + k)
    have d2 := h.dig.at_ (q + k + 1)
    rcases e1.parts with h' | ⟨ba, oa, rfl, _, hca⟩
    · omega
    have hca' := hca (q + k) hlt
    clear hca
    obtain ⟨d, hd1, hd2⟩ : ∃ d, d = (D l (q + k) + 18446744073709551616 * D l (q + k + 1)) / 2 ^ r % 18446744073709551616 ∧ d < 18446744073709551616 := ⟨_, rfl, Nat.mod_lt _ (by decide)⟩
    have hstep : ∀ j, j < k + 1 → D (os ++ [d]) j = (val l / 2 ^ (64 * q + r)) / 18446744073709551616 ^ j % 18446744073709551616 := by
     intro j hj
     by_cases hjk : j = k
     · subst hjk
       rw [D_snoc_new HLO.out, hd1]
       exact down_digit h.dig hr
     · rw [D_snoc_old (by rw [HLO.out]; omega)]
       exact H5.out j (by omega)
    have HS := Lib.hid hstep
    have hbits : bits .or .u64 ((D l (q + k) : Int) / 2 ^ r) (IntKind.u64.wrap ((D l (q + k + 1) : Int) * 2 ^ (64 - r))) = (d : Int) := by rw [rdown_bits d1 hr, hd1]
    have hz0' : r = 0 → (d : Nat) = D l (q + k) := by
     intro h0; subst h0; rw [hd1, rshr_none d1]
    have HZ := Lib.hid hz0'
    clear hstep hz0' hd1
    have ek : ((q + k : Nat) : Int) = (q : Int) + k := by omega
    rw [ek]
    by_cases hr0 : 0 < r
    · have v12 : (64 - (r : Int)).toNat = 64 - r := by omega
      go_wp2_with fail
      refine (rdigit_any _ _ _ l _ _ e1 (by omega)).mono ?_
      rintro e w' ⟨rfl, rfl⟩
      rw [show ((q : Int) + k + 1).toNat = q + k + 1 by omega]
      go_wp2_with (at_builtin; refine wpList_append_nat rfl _ _ 23 rfl w.heap.size 99 i0 Tryz.underlying23 hi hz0 hz1 hz2 _ k (dv os) rfl (hrow.alloc _) _ 1 1 [d] rfl (lit1 wr d d rfl hd2).toNatAt (by omega) (by have := h6.size; simp; omega) ?_; intro b2 cc2 w2 hown2 hgrow2)
      obtain ⟨hr2, hb2⟩ := grown_row _ h6 h6.size hrow hown2 hgrow2
      go_roundw
      case rel => exact ⟨k + 1, os ++ [d], b2, cc2, .inr (by omega), by go_num, rfl, dig_snoc hdo hd2, by rw [List.length_append, HLO.out]; rfl, hr2, HS.out, hb2⟩
      case measure => simp [intOf]; omega
    · obtain rfl : d = D l (q + k) := HZ.out (by omega)
      clear hbits
      have hx0 : (D l (q + k) : Int) / 2 ^ r = (D l (q + k) : Int) := by
       have e : r = 0 := by omega
       rw [e]; simp
      go_wp2_with (at_builtin; refine wpList_append_nat rfl _ _ 23 rfl w.heap.size 99 i0 Tryz.underlying23 hi hz0 hz1 hz2 _ k (dv os) rfl (hrow.alloc _) _ 1 1 [D l (q + k)] rfl (lit1 wr _ (D l (q + k)) rfl hd2).toNatAt (by omega) (by have := h6.size; simp; omega) ?_; intro b2 cc2 w2 hown2 hgrow2)
      obtain ⟨hr2, hb2⟩ := grown_row _ h6 h6.size hrow hown2 hgrow2
      go_roundw
      case rel => exact ⟨k + 1, os ++ [D l (q + k)], b2, cc2, .inr (by omega), by go_num, rfl, dig_snoc hdo hd2, by rw [List.length_append, HLO.out]; rfl, hr2, HS.out, hb2⟩
      case measure => simp [intOf]; omega
  · have h7 := down_end (q := q) (r := r) h.dig hdo (by rw [HLO.out, HL.out]; omega) (fun i hi => H5.out i (by rw [HLO.out] at hi; exact hi))
    obtain ⟨a5, c5, e5, h8⟩ := OwnAt.ofRow hrow hdo
    cases e5
    have H7 := Lib.hid h7
    clear h7
    have ek : ((q + k : Nat) : Int) = (q : Int) + k := by omega
    rw [ek]
    go_wp2_with fail
    refine (rtrim_any _ _ _ os _ h8.toNatAt (by omega)).mono ?_
    rintro e w3 ⟨a3, n3, c3, rfl, h9, hb3⟩
    go_wp2
    go_ret2
    rw [H7.out] at h9
    exact ⟨_, _, _, rfl, h9.mono h6.size, below_later h6 hb3⟩
end Go.Proofs.YtlkoenpdmlbhlaaGreat
set_option linter.unusedVariables false
set_option linter.unusedSimpArgs false
namespace Go.Proofs.YtlkoenpdmlbhlaaGreat
open Go.RowKit
end Go.Proofs.YtlkoenpdmlbhlaaGreat
set_option linter.unusedVariables false
set_option linter.unusedSimpArgs false
namespace Go.Proofs.YtlkoenpdmlbhlaaGreat
open Go.RowKit
theorem mdc (a : Nat) : a * 4294967296 / 4294967296 = a := Nat.mul_div_cancel _ (by decide)
theorem shlN (a : Nat) : IntKind.u64.wrap ((a : Int) * 4294967296) = ((a % 4294967296 * 4294967296 : Nat) : Int) := by rw [IntKind.wrap_u64]; omega
theorem both_parts (x y : Nat) (hx : x < 18446744073709551616) (hy : y < 18446744073709551616) :
 ∃ p00 p10 p01 p11 : Nat, x % 4294967296 * (y % 4294967296) = p00 ∧ x / 4294967296 * (y % 4294967296) = p10 ∧ x % 4294967296 * (y / 4294967296) = p01 ∧ x / 4294967296 * (y / 4294967296) = p11 ∧
  p00 ≤ 18446744065119617025 ∧ p10 ≤ 18446744065119617025 ∧ p01 ≤ 18446744065119617025 ∧ p11 ≤ 18446744065119617025 ∧ x * y = p11 * 18446744073709551616 + (p10 + p01) * 4294967296 + p00 := by
 refine ⟨_, _, _, _, rfl, rfl, rfl, rfl, Lib.half_mul_le (by omega) (by omega), Lib.half_mul_le (by omega) (by omega), Lib.half_mul_le (by omega) (by omega), Lib.half_mul_le (by omega) (by omega), ?_⟩
 have e := Lib.split_mul (x / 4294967296) (x % 4294967296) (y / 4294967296) (y % 4294967296) 4294967296
 rw [Nat.div_add_mod' x 4294967296, Nat.div_add_mod' y 4294967296] at e
 rw [e]
set_option maxHeartbeats 1000000 in
set_option maxRecDepth 100000 in
theorem both_any (x y : Nat) (hx : x < 18446744073709551616) (hy : y < 18446744073709551616) :
 ∃ g u : Nat, g < 18446744073709551616 ∧ u < 18446744073709551616 ∧ u + 18446744073709551616 * g = x * y ∧
  ∀ w, Calls Tryz.prog 163 #[.int .u64 x, .int .u64 y] w fun e w' => e = .returned (.tuple #[.int .u64 ((g : Nat) : Int), .int .u64 ((u : Nat) : Int)]) ∧ w = w' := by
 obtain ⟨p00, p10, p01, p11, e00, e10, e01, e11, b00, b10, b01, b11, hxy⟩ := both_parts x y hx hy
 obtain ⟨one, h1⟩ : ∃ one, p10 + p00 / 4294967296 = one := ⟨_, rfl⟩
 obtain ⟨two, h2⟩ : ∃ two, p01 + one % 4294967296 = two := ⟨_, rfl⟩
 refine ⟨p11 + one / 4294967296 + two / 4294967296, two % 4294967296 * 4294967296 + p00 % 4294967296, ?_, ?_, ?_, fun w => ?_⟩
 · omega
 · omega
 · omega
 · have w00 : IntKind.u64.wrap (p00 : Int) = (p00 : Int) := wrapN _ (by omega)
   have w10 : IntKind.u64.wrap (p10 : Int) = (p10 : Int) := wrapN _ (by omega)
   have w01 : IntKind.u64.wrap (p01 : Int) = (p01 : Int) := wrapN _ (by omega)
   have w11 : IntKind.u64.wrap (p11 : Int) = (p11 : Int) := wrapN _ (by omega)
   have wo : IntKind.u64.wrap (one : Int) = (one : Int) := wrapN _ (by omega)
   have wt : IntKind.u64.wrap (two : Int) = (two : Int) := wrapN _ (by omega)
   have wh1 : IntKind.u64.wrap ((p11 + one / 4294967296 : Nat) : Int) = ((p11 + one / 4294967296 : Nat) : Int) := wrapN _ (by omega)
   have wh2 : IntKind.u64.wrap ((p11 + one / 4294967296 + two / 4294967296 : Nat) : Int) = ((p11 + one / 4294967296 + two / 4294967296 : Nat) : Int) := wrapN _ (by omega)
   have wl : IntKind.u64.wrap ((two % 4294967296 * 4294967296 + p00 % 4294967296 : Nat) : Int) = ((two % 4294967296 * 4294967296 + p00 % 4294967296 : Nat) : Int) := wrapN _ (by omega)
   clear b00 b10 b01 b11 hxy
   go_enter Tryz.func163, Tryz.ntmps163
   go_wp2
   simp only [mdc, divN, mulN, e00, e10, e01, e11, w00, w10, w01, w11, addN, h1, wo, h2, wt, wh1, wh2, shlN, wl]
   go_ret2
   exact ⟨rfl, rfl⟩
theorem rgrow_step {o l : List Nat} {x i c s k : Nat} (ho : o.length = i) (h : lo o i + 18446744073709551616 ^ i * c = lo l i * x) (hs : s + 18446744073709551616 * k = D l i * x + c) :
 lo (o ++ [s]) (i + 1) + 18446744073709551616 ^ (i + 1) * k = lo l (i + 1) * x := by
 rw [lo_snoc ho, lo_step l, Nat.add_mul, ← h, Nat.pow_succ, Nat.mul_assoc]
 have e : 18446744073709551616 ^ i * (s + 18446744073709551616 * k) = 18446744073709551616 ^ i * (D l i * x + c) := by rw [hs]
 simp only [Nat.mul_add] at e
 rw [Nat.mul_assoc (18446744073709551616 ^ i) (D l i)]
 omega
set_option maxHeartbeats 2000000 in
set_option maxRecDepth 100000 in
theorem rgrow_any (a : Option Addr) (n c : Nat) (l : List Nat) (x : Nat) (w : World) (h : NatAt w a n c l) (hs : n ≤ 274877906944) (hx : x < 18446744073709551616) :
 Calls Tryz.prog 135 #[.slice a n c, .int .u64 x] w (RetNat w (val l * x)) := by
 obtain ⟨i0, hi, hz0, hz1, hz2⟩ := info_parts info99
 go_enter Tryz.func135, Tryz.ntmps135
 go_wp2_with fail
 go_loopw [5, 6, 7] (fun v cy i wr => ∃ (k y : Nat) (os : List Nat) (b : Option Addr) (cc : Nat), k ≤ n ∧ y < 18446744073709551616 ∧ i = .int .i64 k ∧ cy = .int .u64 y ∧ v = .slice b k cc ∧ Dig os ∧ os.length = k ∧ wr.ownsRow w.heap.size 99 1 (.slice b k cc) k (dv os) ∧ lo os k + 18446744073709551616 ^ k * y = lo l k * x ∧ Below w.heap.size w wr) (fun _ _ i _ => n - (intOf i).toNat)
 case atStart => exact ⟨0, 0, [], none, 0, Nat.zero_le _, by decide, rfl, rfl, rfl, dig_nil, rfl, World.ownsRow_nil _ _ _ _, by simp [lo_zero], Below.refl _ _⟩
 case round =>
  obtain ⟨k, y, os, b, cc, hk, hy, rfl, rfl, rfl, hdo, hlo, hrow, h5, h6⟩ := hrel
  have H5 := Lib.hid h5
  have HLO := Lib.hid hlo
  clear h5 hlo
  by_cases hlt : k < n
  · have e1 := h.later h6 (Nat.le_refl _)
    have d1 := h.dig.at_ k
    rcases e1.parts with h' | ⟨ba, oa, rfl, _, hca⟩
    · omega
    have hca' := hca k hlt
    clear hca
    obtain ⟨g, u, hg, hu, hgu, hboth⟩ := both_any (D l k) x d1 hx
    obtain ⟨s, hs1, hs2⟩ : ∃ s : Nat, IntKind.u64.wrap ((u : Int) + (y : Int)) = (s : Int) ∧ s = (u + y) % 18446744073709551616 := ⟨_, by rw [IntKind.wrap_u64]; omega, rfl⟩
    have hsB : s < 18446744073709551616 := by omega
    have key1 : s < y → s + 18446744073709551616 * (g + 1) = D l k * x + y := by omega
    have key0 : ¬ s < y → s + 18446744073709551616 * g = D l k * x + y := by omega
    have fit1 : s < y → g + 1 < 18446744073709551616 := fun hc => digit_fits (z := 0) d1 hx hy (by decide) (by have := key1 hc; omega)
    have K1 := Lib.hid key1
    have K0 := Lib.hid key0
    have F1 := Lib.hid fit1
    clear key1 key0 fit1 hs2 hgu
    by_cases t1 : s < y
    · have f1 := F1.out t1
      have v2 : IntKind.u64.wrap ((g : Int) + 1) = ((g + 1 : Nat) : Int) := by rw [IntKind.wrap_u64]; omega
      obtain ⟨g1, hg1⟩ : ∃ g1, g + 1 = g1 := ⟨_, rfl⟩
      rw [hg1] at v2 f1
      have hk1 := K1.out t1
      rw [hg1] at hk1
      have HK1 := Lib.hid hk1
      clear hk1 hg1
      go_wp2_with (first
       | (go_at_call 163; refine (hboth _).mono ?_; rintro e w' ⟨rfl, rfl⟩)
       | (at_builtin; refine wpList_append_nat rfl _ _ 23 rfl w.heap.size 99 i0 Tryz.underlying23 hi hz0 hz1 hz2 _ k (dv os) rfl (hrow.alloc _) _ 1 1 [s] rfl (lit1 wr s s rfl hsB).toNatAt (by omega) (by have := h6.size; simp; omega) ?_; intro b2 cc2 w2 hown2 hgrow2))
      obtain ⟨hr2, hb2⟩ := grown_row _ h6 h6.size hrow hown2 hgrow2
      go_roundw
      case measure => simp [intOf]; omega
      case rel => exact ⟨k + 1, g1, os ++ [s], b2, cc2, by omega, f1, by go_num, rfl, rfl, dig_snoc hdo hsB, by rw [List.length_append, HLO.out]; rfl, hr2, rgrow_step HLO.out H5.out HK1.out, hb2⟩
    · go_wp2_with (first
       | (go_at_call 163; refine (hboth _).mono ?_; rintro e w' ⟨rfl, rfl⟩)
       | (at_builtin; refine wpList_append_nat rfl _ _ 23 rfl w.heap.size 99 i0 Tryz.underlying23 hi hz0 hz1 hz2 _ k (dv os) rfl (hrow.alloc _) _ 1 1 [s] rfl (lit1 wr s s rfl hsB).toNatAt (by omega) (by have := h6.size; simp; omega) ?_; intro b2 cc2 w2 hown2 hgrow2))
      obtain ⟨hr2, hb2⟩ := grown_row _ h6 h6.size hrow hown2 hgrow2
      go_roundw
      case measure => simp [intOf]; omega
      case rel => exact ⟨k + 1, g, os ++ [s], b2, cc2, by omega, hg, by go_num, rfl, rfl, dig_snoc hdo hsB, by rw [List.length_append, HLO.out]; rfl, hr2, rgrow_step HLO.out H5.out (K0.out t1), hb2⟩
  · obtain rfl : k = n := by omega
    have hv : val (os ++ [y]) = val l * x := by
     have e1 := H5.out
     rw [lo_all (l := l) (by rw [h.len]; exact Nat.le_refl _), lo_all (l := os) (by rw [HLO.out]; exact Nat.le_refl _)] at e1
     rw [val_append, HLO.out, ← e1]; simp [val]
    have HVV := Lib.hid hv
    clear hv hlt
    go_wp2_with (at_builtin; refine wpList_append_nat rfl _ _ 23 rfl w.heap.size 99 i0 Tryz.underlying23 hi hz0 hz1 hz2 _ k (dv os) rfl (hrow.alloc _) _ 1 1 [y] rfl (lit1 wr y y rfl hy).toNatAt (by omega) (by have := h6.size; simp; omega) ?_; intro b2 cc2 w2 hown2 hgrow2)
    obtain ⟨hr2, hb2⟩ := grown_row _ h6 h6.size hrow hown2 hgrow2
    obtain ⟨a5, c5, e5, h8⟩ := OwnAt.ofRow hr2 (dig_snoc hdo hy)
    cases e5
    refine (rtrim_any _ _ _ (os ++ [y]) _ h8.toNatAt (by omega)).mono ?_
    rintro e w3 ⟨a3, n3, c3, rfl, h9, hb3⟩
    go_wp2
    go_ret
    rw [HVV.out] at h9
    exact RetNat.of hb2 ⟨_, _, _, rfl, h9, hb3⟩
end Go.Proofs.YtlkoenpdmlbhlaaGreat
set_option linter.unusedVariables false
set_option linter.unusedSimpArgs false
namespace Go.Proofs.YtlkoenpdmlbhlaaGreat
open Go.RowKit
theorem step_append_nat {P : Program} {w : World} {ops : Array Oper} {o : Oper} {a : Act} {K : Act → World → Prop} {Q : Exit → Act → World → Prop} {E0 : Prop} (hgd : o.guard = none) (s x : Operand) (T : TypeId)
 (ho : o.op = .call { callee := .builtin .append, args := #[s, x], argTypes := #[T, T] })
 (base E : Nat) (i : TypeInfo) (ht : P.underlying T = some (.slice E)) (hi : P.info? E = some i) (hz : i.zero = some (.int .u64 0)) (hsize : i.size = 1) (hby : i.bytes = 8)
 (v : Value) (n : Nat) (xs : List Value) (hs : a.eval s = v) (hown : w.ownsRow base E 1 v n xs)
 (xa : Option Addr) (m xc : Nat) (l : List Nat) (hx : a.eval x = .slice xa m xc) (hn : NatAt w xa m xc l) (hsz : n + m ≤ 1099511627776) (hbase : base ≤ w.heap.size)
 (h : ∀ a' c' w', w'.ownsRow base E 1 (.slice a' (n + m) c') (n + m) (xs ++ dv l) → w.grownBy w' v.ownBlock → K (a.put o.dst (.slice a' (n + m) c')) w') :
 if Region.wanted o (yielded ops a.tmps) = true then Oper.wp P o a w K Q else E0 := by
 rw [if_pos (by simp [Region.wanted, hgd])]
 cases xa with
 | none =>
   have hc := hn.nilc rfl
   have hm : m = 0 := by have := hn.le; omega
   subst hc
   subst hm
   have hl : l = [] := List.eq_nil_of_length_eq_zero hn.len
   subst hl
   have hrun := run_append_owned_none (P := P) (w := w) base T o.type E i 1 ht hi v n xs hown
   have hshape : ∃ a' c', v = .slice a' n c' := by
    rcases hown.2 with ⟨rfl, hn0⟩ | ⟨g, cap, cur, rfl, _⟩
    · subst hn0; exact ⟨_, _, rfl⟩
    · exact ⟨_, _, rfl⟩
   obtain ⟨a', c', rfl⟩ := hshape
   have hk := h a' c' w (by simpa [dv] using hown) ⟨rfl, rfl, rfl, Nat.le_refl _, fun _ _ _ => rfl⟩
   unfold Oper.wp
   simp [execOp, ho, resolve, invoke, builtin, hs, hx, hrun, Result.andThen]
   exact hk
 | some ad =>
   have hnews : ∀ j u, (dv l)[j]? = some u → w.cell? (ad.add j) = some u := by
    intro j u hu
    have hj : j < l.length := by
     have := (List.getElem?_eq_some_iff.1 hu).1
     rwa [dv_length] at this
    rw [dv_at hj] at hu
    cases hu
    rcases hn.cell with h0 | ⟨b, o, he, hc⟩
    · have := hn.len; omega
    · cases he
      rw [addr_add]
      exact hc j (by have := hn.len; omega)
   refine wp_append_own (w := w) s x T ho base E i (.int .u64 0) 1 8 ht hi hz hsize hby rfl (by decide) v n xs hs hown ad m xc (dv l) hx (by rw [dv_length, hn.len]; omega) hnews (dv_one l)
    (by simp only [maxLen]; omega) (by omega) hbase ?_
   intro v' w' h1 h2 _
   have hshape : ∃ a' c', v' = .slice a' (n + m) c' := by
    rcases h1.2 with ⟨rfl, hn0⟩ | ⟨g, cap, cur, rfl, _⟩
    · rw [hn0]; exact ⟨_, _, rfl⟩
    · exact ⟨_, _, rfl⟩
   obtain ⟨a', c', rfl⟩ := hshape
   exact h a' c' w' h1 h2
theorem OwnAt.ofRow2 {w : World} {B E : Nat} {a : Option Addr} {c : Nat} {n : Nat} {l : List Nat} (h : w.ownsRow B E 1 (.slice a n c) n (dv l)) (hd : Dig l) : OwnAt w B a n c l := by
 obtain ⟨a', c', e, h⟩ := OwnAt.ofRow h hd
 cases e
 exact h
set_option maxRecDepth 20000 in
set_option maxHeartbeats 4000000 in
theorem rmul_any (a : Option Addr) (n c : Nat) (l : List Nat) (a2 : Option Addr) (n2 c2 : Nat) (l2 : List Nat) (w : World) (h : NatAt w a n c l) (h2 : NatAt w a2 n2 c2 l2) (hs : n ≤ 68719476736) (hs2 : n2 ≤ 68719476736) :
 Calls Tryz.prog 109 #[.slice a n c, .slice a2 n2 c2] w (RetNat w (val l * val l2)) := by
 obtain ⟨i0, hi', hz0, hz1, hz2⟩ := info_parts info99
 have hcl := h2.cle
 have hcl2 := h2.le
 go_enter Tryz.func109, Tryz.ntmps109
 go_wp2_with fail
 go_loopw [5, 6] (fun v i wr => ∃ (k j m cc : Nat) (b : Option Addr), k + j = n2 ∧ i = .int .i64 ((j : Int) - 1) ∧ v = .slice b m cc ∧ NatAt wr b m cc (digs (val l * hi l2 j)) ∧ Below w.heap.size w wr) (fun _ i _ => (intOf i + 1).toNat)
 case atStart => exact ⟨0, n2, 0, 0, none, by omega, rfl, rfl, by rw [hi_all (by rw [h2.len]; exact Nat.le_refl _), Nat.mul_zero]; exact NatAt.nil _, Below.refl _ _⟩
 case round =>
  obtain ⟨k, j, m, cc, b, hkj, rfl, rfl, h3, h6⟩ := hrel
  have hdl := digs_len_prod (val l) (hi l2 j)
  have hlh : (digs (hi l2 j)).length ≤ n2 := by
   rw [digs_length_le, ← h2.len]
   refine Nat.lt_of_le_of_lt ?_ (val_lt h2.dig)
   rw [lo_hi l2 j]
   have := Nat.le_mul_of_pos_left (hi l2 j) (pow_pos' j)
   omega
  have hm : m ≤ 137438953472 := by have e1 := h3.len; have e2 := h.short; omega
  clear hdl hlh
  by_cases hlt : 0 < j
  · obtain ⟨p, rfl⟩ : ∃ p, j = p + 1 := ⟨j - 1, by omega⟩
    have e1 := h.past h6
    have e2 := h2.past h6
    rcases e2.parts with h' | ⟨ba, oa, rfl, _, hca⟩
    · omega
    have hca' := hca p (by omega)
    clear hca
    have d2 := h2.dig.at_ p
    have ei : ((p + 1 : Nat) : Int) - 1 = (p : Int) := by omega
    have es := hi_step l2 p
    have ev : val (0 :: digs (val l * hi l2 (p + 1))) + val (digs (val l * D l2 p)) = val l * hi l2 p := by
     rw [val_cons, val_digs, val_digs, es, Nat.mul_add, Nat.zero_add, Nat.add_comm]
     congr 1
     ac_rfl
    have HEV := Lib.hid ev
    clear es ev
    rw [ei]
    have lba := World.block_lt_of_cell? wr _ hca'
    have LBA := Lib.hid lba
    clear lba ei
    have hown0 : ((wr.alloc (.cells #[.int .u64 0] 99)).drew).ownsRow wr.heap.size 99 1 (.slice (some ⟨wr.heap.size, 0, none⟩) 1 1) 1 (dv [0]) := (World.ownsRow_lit wr #[.int .u64 0] 1 (Nat.le_refl _) (by simp only [maxLen]; omega) rfl).drew
    have h3' := (h3.alloc (.cells #[.int .u64 0] 99)).drew
    have hz3 : 1 + m ≤ 1099511627776 := by omega
    have hz4 : wr.heap.size ≤ ((wr.alloc (.cells #[.int .u64 0] 99)).drew).heap.size := by simp
    have hz5 : Below wr.heap.size wr ((wr.alloc (.cells #[.int .u64 0] 99)).drew) := ((Below.refl wr.heap.size wr).alloc (Nat.le_refl _) _).drew
    have hz6 : ∀ k, (Value.slice (some ⟨wr.heap.size, 0, none⟩) 1 1).ownBlock = some k → wr.heap.size ≤ k := fun k hk => (hown0.lt k hk).1
    have hn' : n ≤ 274877906944 := by omega
    have hz7 : 1 + m ≤ 549755813888 := by omega
    have hg1 : (digs (val l * D l2 p)).length ≤ 549755813888 := by
     have e3 := digs_len_prod (val l) (D l2 p)
     have e4 := h.short
     have e5 : (digs (D l2 p)).length ≤ 1 := digs_length_le.2 (by rw [Nat.pow_one]; exact d2)
     omega
    have hd0 : Dig (0 :: digs (val l * hi l2 (p + 1))) := dig_cons.2 ⟨by decide, dig_digs _⟩
    have Z7 := Lib.hid hz7
    have HG := Lib.hid hg1
    have HD0 := Lib.hid hd0
    clear hz7 hg1 hd0
    have HN := Lib.hid hn'
    have hb0 : (0 : Int) ≤ (p : Int) := Int.natCast_nonneg _
    have hbn : (p : Int) < (n2 : Int) := by omega
    have HO := Lib.hid hown0
    have H3 := Lib.hid h3'
    have Z3 := Lib.hid hz3
    have Z4 := Lib.hid hz4
    have Z5 := Lib.hid hz5
    have Z6 := Lib.hid hz6
    clear hown0 h3' hz3 hz4 hz5 hz6 hn'
    go_wp2_with fail
    go_region_held3 (fun w' => w'.cell? ⟨ba, oa + p, none⟩ = some (.int .u64 ((D l2 p : Nat) : Int)) ∧ Below wr.heap.size wr w')
     (first
       | assumption
       | exact ⟨hca', (Below.refl _ _).drew⟩
       | (rename _ ∧ Below wr.heap.size wr _ => hT
          first
           | exact ⟨((below_later hT.2 hb9).cell (p := ⟨ba, oa + p, none⟩) LBA.out).trans hca', below_later hT.2 hb9⟩
           | exact ⟨((below_later hT.2 hb8).cell (p := ⟨ba, oa + p, none⟩) LBA.out).trans hca', below_later hT.2 hb8⟩
           | exact ⟨(hb7.cell (p := ⟨ba, oa + p, none⟩) LBA.out).trans hca', hb7⟩
           | exact ⟨((below_alloc hT.2 _).cell (p := ⟨ba, oa + p, none⟩) LBA.out).trans hca', below_alloc hT.2 _⟩))
     (first
       | (refine step_append_nat ?_ (.tmp 14) (.tmp 15) 23 ?_ wr.heap.size 99 i0 Tryz.underlying23 hi' hz0 hz1 hz2 (.slice (some ⟨wr.heap.size, 0, none⟩) 1 1) 1 (dv [0]) ?_ HO.out b m cc (digs (val l * hi l2 (p + 1))) ?_ H3.out Z3.out Z4.out ?_
          rfl
          rfl
          rfl
          rfl
          intro a7 c7 w7 hown7 hgrow7
          have hb7 : Below wr.heap.size wr w7 := Z5.out.grown hgrow7 Z4.out Z6.out)
       | (go_at_call 135; rename _ ∧ Below wr.heap.size wr _ => hT
          go_fit (rgrow_any _ _ _ l (D l2 p) _ (e1.past hT.2) HN.out d2)
          rintro e w8 ⟨a8, n8, c8, rfl, h8, hb8⟩)
       | (go_at_call 121; rename _ ∧ Below wr.heap.size wr _ => hT
          have h9 := OwnAt.ofRow2 (l := 0 :: digs (val l * hi l2 (p + 1))) hown7 HD0.out
          go_fit (radd_any _ _ _ (0 :: digs (val l * hi l2 (p + 1))) _ _ _ (digs (val l * D l2 p)) _ (h9.toNatAt.past hb8) h8.toNatAt Z7.out (h8.len ▸ HG.out))
          rintro e w9 ⟨a10, n10, c10, rfl, h10, hb9⟩))
    all_goals
     rename _ ∧ Below wr.heap.size wr w9 => hT
     rw [HEV.out] at h10
     have h11 := h10.toNatAt
     have hbF := below_later h6 hT.2
     go_wp2_with fail
     exact ⟨⟨k + 1, p, _, _, _, by omega, by go_num, rfl, h11, hbF⟩, by first | (simp [intOf]; done) | (simp [intOf]; omega)⟩
  · obtain rfl : j = 0 := by omega
    rw [hi_zero] at h3
    clear hlt
    go_wp2_with fail
    refine (rtrim_any _ _ _ _ _ h3 (by omega)).mono ?_
    rintro e w6 ⟨a6, n6, c6, rfl, h8, hb6⟩
    go_wp2
    go_ret
    rw [val_digs] at h8
    exact RetNat.of h6 ⟨_, _, _, rfl, h8, hb6⟩
end Go.Proofs.YtlkoenpdmlbhlaaGreat
set_option linter.unusedVariables false
set_option linter.unusedSimpArgs false
namespace Go.Proofs.YtlkoenpdmlbhlaaGreat
open Go.RowKit
theorem len64_any (x : Nat) (w : World) (h : x < 18446744073709551616) :
 Calls Tryz.prog 164 #[.int .u64 ((x : Nat) : Int)] w fun e w' => e = .returned (.int .i64 ((nbits x : Nat) : Int)) ∧ w = w' := by
 have := len64_kit x w (by omega) (by omega)
 rw [Int.toNat_natCast, bitLen_nbits h] at this
 exact this.mono fun _ _ ⟨h1, h2⟩ => ⟨h1, h2.symm⟩
set_option maxRecDepth 100000 in
theorem len_any (a : Option Addr) (n c : Nat) (l : List Nat) (w : World) (h : NatAt w a n c l) (hs : n ≤ 549755813888) :
 Calls Tryz.prog 137 #[.slice a n c] w fun e w' => e = .returned (.int .i64 ((nbits (val l) : Nat) : Int)) ∧ w = w' := by
 have h1 := h.digs
 have hle := digs_length_val h.dig
 rw [h.len] at hle
 by_cases h0 : val l = 0
 · have hl : (digs (val l)).length = 0 := digs_len0.2 h0
   have HL := Lib.hid hl
   have e1 : nbits (val l) = 0 := by rw [h0]; rfl
   have E1 := Lib.hid e1
   clear hl h0 e1
   go_enter Tryz.func137, Tryz.ntmps137
   go_wp2_with fail
   refine (trimmed_any _ _ _ _ _ h).mono ?_
   rintro e w1 ⟨rfl, rfl⟩
   rw [HL.out]
   go_wp2
   go_ret
   exact ⟨by rw [E1.out]; rfl, rfl⟩
 · have hm0 : (digs (val l)).length ≠ 0 := fun e => h0 (digs_len0.1 e)
   obtain ⟨m, hm⟩ : ∃ m, (digs (val l)).length = m + 1 := ⟨(digs (val l)).length - 1, by omega⟩
   have ht := D_digs_last h0
   rw [hm] at ht h1 hle
   rw [show m + 1 - 1 = m by omega] at ht
   have hv := nbits_top (dig_digs (val l)) hm ht
   rw [val_digs] at hv
   have htr := trimmed_any a n c l w h
   rw [hm] at htr
   have HTR := Lib.hid htr
   have HV := Lib.hid hv
   have hD := (dig_digs (val l)).at_ m
   obtain ⟨L, hL⟩ : ∃ L, digs (val l) = L := ⟨_, rfl⟩
   rw [hL] at h1 hD
   obtain ⟨N, hN⟩ : ∃ N, nbits (D (digs (val l)) m) = N := ⟨_, rfl⟩
   have hNb : N ≤ 64 := by rw [← hN]; exact nbits_le (dig_digs (val l) |>.at_ m)
   have HN := Lib.hid hN
   have HL := Lib.hid hL
   clear htr hv hm ht hm0 h0 hN hL
   rcases h1.parts with h2 | ⟨b, o, rfl, hlt, hc⟩
   · omega
   have hc' := hc m (by omega)
   clear hc
   have t1 : (((m + 1 : Nat) : Int) == 0) = false := by simp only [beq_eq_false_iff_ne]; omega
   have h64 := len64_any (D L m) w hD
   have e64 : nbits (D L m) = N := by rw [← HL.out]; exact HN.out
   rw [e64] at h64
   have H64 := Lib.hid h64
   clear h64 e64
   go_enter Tryz.func137, Tryz.ntmps137
   go_wp2_with fail
   refine HTR.out.mono ?_
   rintro e w1 ⟨rfl, rfl⟩
   go_wp2_with fail
   refine H64.out.mono ?_
   rintro e w1 ⟨rfl, rfl⟩
   go_wp2
   go_ret
   refine ⟨ret_int ?_, rfl⟩
   have e1 := HV.out
   rw [HN.out] at e1
   rw [e1]
   omega
end Go.Proofs.YtlkoenpdmlbhlaaGreat
