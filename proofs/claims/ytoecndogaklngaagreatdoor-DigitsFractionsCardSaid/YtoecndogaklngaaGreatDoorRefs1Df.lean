import Derived.Lib.MinMax
import Derived.BigQuiet
import Derived.Test.YtoecndogaklngaaGreatDoorS0Df
import Derived.Test.YtoecndogaklngaaGreatDoorLimbs1Df
import Derived.Test.YtoecndogaklngaaGreatDoorNumDf
set_option linter.unusedVariables false
set_option linter.unusedSimpArgs false
namespace Go.Proofs.YtoecndogaklngaaGreatDoor
open Go.RowKit
set_option maxRecDepth 100000 in
theorem rtrim_any (a : Option Addr) (n c : Nat) (l : List Nat) (w : World) (h : NatAt w a n c l) (hs : n ≤ 1099511627776) :
 Calls Tryz.prog 46 #[.slice a n c] w (RetNat w (val l)) := by
 obtain ⟨i0, hi, hz0, hz1, hz2⟩ := info_parts info42
 have hd := h.digs
 have hdn := digs_length_val h.dig
 rw [h.len] at hdn
 have hl := h.cle
 have hl' := h.le
 have HD := Lib.hid hd
 clear hd
 go_enter Tryz.func46, Tryz.ntmps46
 go_wp2
 go_loop [0] (fun v => ∃ m : Nat, m ≤ n ∧ Go.Proofs.YtoecndogaklngaaGreatDoor.hi l m = 0 ∧ v = .slice a m c) (fun v => match v with | .slice _ m _ => m | _ => 0)
 case atStart => exact ⟨n, Nat.le_refl _, hi_all (by rw [h.len]; omega), rfl⟩
 case round =>
  obtain ⟨m, hm, h0, rfl⟩ := hrel
  have H0 := Lib.hid h0
  clear h0
  by_cases hm0 : 0 < m
  · rcases h.parts with h1 | ⟨b, o, rfl, hlt, hc⟩
    · omega
    have hc' := hc (m - 1) (by omega)
    clear hc
    by_cases hz : D l (m - 1) = 0
    · have hz' : (((D l (m - 1) : Nat) : Int) == 0) = true := by rw [hz]; rfl
      have HZ := Lib.hid hz
      clear hz
      go_wp2
      go_round
      case rel => exact ⟨m - 1, by omega, by rw [hi_step, HZ.out, show m - 1 + 1 = m by omega, H0.out], rfl⟩
      case measure => simp; omega
    · have hz' : (((D l (m - 1) : Nat) : Int) == 0) = false := by simpa using hz
      have e := take_digs_length h.dig (by rw [h.len]; exact hm) H0.out (.inr hz)
      have HN := HD.out
      rw [← e] at HN hdn
      clear hz e HD
      go_wp2_with (at_builtin; refine wpList_append_nat rfl _ _ 23 rfl w.heap.size 42 i0 Tryz.underlying23 hi hz0 hz1 hz2 _ 0 [] rfl (World.ownsRow_lit w #[] 0 (Nat.le_refl _) (by simp) rfl) _ m c _ rfl (HN.alloc _) (by omega) (by simp) ?_; intro a' c' w1 hown hgrow)
      go_ret
      exact copied w a' m c' _ w1 _ (dig_digs _) hown hgrow rfl
  · have hmz : m = 0 := by omega
    subst hmz
    have e := take_digs_length h.dig (Nat.zero_le _) H0.out (.inl rfl)
    have HN := HD.out
    rw [← e] at HN hdn
    clear hm0 e HD
    go_wp2_with (at_builtin; refine wpList_append_nat rfl _ _ 23 rfl w.heap.size 42 i0 Tryz.underlying23 hi hz0 hz1 hz2 _ 0 [] rfl (World.ownsRow_lit w #[] 0 (Nat.le_refl _) (by simp) rfl) _ 0 c _ rfl (HN.alloc _) (by omega) (by simp) ?_; intro a' c' w1 hown hgrow)
    go_ret
    exact copied w a' 0 c' _ w1 _ (dig_digs _) hown hgrow rfl
set_option maxRecDepth 100000 in
theorem rof_any (x : Nat) (w : World) (hx : x < 18446744073709551616) :
 Calls Tryz.prog 59 #[.int .u64 x] w (RetNat w x) := by
 go_enter Tryz.func59, Tryz.ntmps59
 go_wp2_with fail
 refine (rtrim_any _ _ _ [x] _ (lit1 w x x rfl hx).toNatAt (by decide)).mono ?_
 rintro e w1 ⟨a1, n1, c1, rfl, h3, hb⟩
 go_wp2
 go_ret
 exact RetNat.of ((Below.refl _ _).alloc (Nat.le_refl _) _) ⟨_, _, _, rfl, by simpa [val] using h3, hb⟩
set_option maxRecDepth 100000 in
theorem rcheck_any (a : Option Addr) (n c : Nat) (l : List Nat) (w : World) (h : NatAt w a n c l) :
 Calls Tryz.prog 43 #[.slice a n c] w fun e w' => e = .returned (.int .i64 (chk l)) ∧ w = w' := by
 have hl := h.cle
 have hl' := h.le
 have hlen := h.len
 by_cases hn : n = 0
 · subst hn
   have hnil : l = [] := List.eq_nil_of_length_eq_zero hlen
   subst hnil
   clear hlen
   go_enter Tryz.func43, Tryz.ntmps43
   go_wp2
   go_ret
   exact ⟨rfl, rfl⟩
 · rcases h.parts with h1 | ⟨b, o, rfl, hlt, hc⟩
   · omega
   have hc' := hc (n - 1) (by omega)
   clear hc
   have hne : l ≠ [] := fun e => hn (by rw [← hlen, e]; rfl)
   by_cases hz : D l (n - 1) = 0
   · have hv := chk_zero hne (by rw [hlen]; exact hz)
     have hz' : (((D l (n - 1) : Nat) : Int) == 0) = true := by rw [hz]; rfl
     have HV := Lib.hid hv
     clear hv hz hlen
     go_enter Tryz.func43, Tryz.ntmps43
     go_wp2
     go_ret
     exact ⟨ret_int HV.out.symm, rfl⟩
   · have hv := chk_pos hne (by rw [hlen]; exact hz)
     have hz' : (((D l (n - 1) : Nat) : Int) == 0) = false := by simpa using hz
     have HV := Lib.hid hv
     clear hv hz hlen
     go_enter Tryz.func43, Tryz.ntmps43
     go_wp2
     go_ret
     exact ⟨ret_int HV.out.symm, rfl⟩
set_option maxRecDepth 100000 in
theorem rone_any (a : Option Addr) (n c : Nat) (l : List Nat) (w : World) (h : NatAt w a n c l) (hs : n ≤ 1099511627776) :
 Calls Tryz.prog 68 #[.slice a n c] w (RetVal w (.tuple #[.int .u64 ((oneN (val l) : Nat) : Int), .bool (oneB (val l))])) := by
 by_cases h0 : val l = 0
 · have e0 : (digs (val l)).length = 0 := digs_len0.2 h0
   have e1 : oneN (val l) = 0 := by rw [h0]; rfl
   have e2 : oneB (val l) = true := by rw [h0]; rfl
   have E0 := Lib.hid e0
   have E1 := Lib.hid e1
   have E2 := Lib.hid e2
   clear h0 e0 e1 e2
   go_enter Tryz.func68, Tryz.ntmps68
   go_wp2_with fail
   refine (rtrim_any _ _ _ _ _ h hs).mono ?_
   rintro e w1 ⟨a1, n1, c1, rfl, h1, hb⟩
   obtain rfl : n1 = 0 := by have := h1.len; rw [E0.out] at this; omega
   go_wp2
   go_ret2
   exact ⟨by rw [E1.out, E2.out]; rfl, hb⟩
 · by_cases h2 : val l < 18446744073709551616
   · have hd : digs (val l) = [val l] := digs_small h0 h2
     have e1 : oneN (val l) = val l := if_pos h2
     have e2 : oneB (val l) = true := decide_eq_true h2
     have E0 := Lib.hid hd
     have E1 := Lib.hid e1
     have E2 := Lib.hid e2
     clear h0 e1 e2 hd h2
     go_enter Tryz.func68, Tryz.ntmps68
     go_wp2_with fail
     refine (rtrim_any _ _ _ _ _ h hs).mono ?_
     rintro e w1 ⟨a1, n1, c1, rfl, h1, hb⟩
     have h1 := h1.toNatAt
     rw [E0.out] at h1
     obtain rfl : n1 = 1 := h1.len.symm
     rcases h1.parts with h3 | ⟨b, o, rfl, hlt, hc⟩
     · omega
     have hc' := hc 0 (by omega)
     rw [D_one, Nat.add_zero] at hc'
     clear hc
     go_wp2
     go_ret2
     exact ⟨by rw [E1.out, E2.out]; rfl, hb⟩
   · have hl1 : (digs (val l)).length ≠ 0 := fun e => h0 (digs_len0.1 e)
     have hl2 : (digs (val l)).length ≠ 1 := fun e => h2 ((digs_len1 h0).1 e)
     have e1 : oneN (val l) = 0 := if_neg h2
     have e2 : oneB (val l) = false := decide_eq_false h2
     have E1 := Lib.hid e1
     have E2 := Lib.hid e2
     clear e1 e2 h0 h2
     go_enter Tryz.func68, Tryz.ntmps68
     go_wp2_with fail
     refine (rtrim_any _ _ _ _ _ h hs).mono ?_
     rintro e w1 ⟨a1, n1, c1, rfl, h1, hb⟩
     have t1 : ((n1 : Int) == 0) = false := by have := h1.len; simp only [beq_eq_false_iff_ne]; omega
     have t2 : ((n1 : Int) == 1) = false := by have := h1.len; simp only [beq_eq_false_iff_ne]; omega
     go_wp2
     go_ret2
     exact ⟨by rw [E1.out, E2.out]; rfl, hb⟩
set_option maxRecDepth 100000 in
theorem rcmp_any (a : Option Addr) (n c : Nat) (l : List Nat) (a2 : Option Addr) (n2 c2 : Nat) (l2 : List Nat) (w : World) (h : NatAt w a n c l) (h2 : NatAt w a2 n2 c2 l2) :
 Calls Tryz.prog 21 #[.slice a n c, .slice a2 n2 c2] w fun e w' => e = .returned (.int .i64 (cmpI (val l) (val l2))) ∧ w = w' := by
 have hm := h.cle
 have hm' := h.le
 have hm2 := h2.cle
 have hm2' := h2.le
 obtain ⟨M, hM⟩ : ∃ M : Nat, max (n : Int) (n2 : Int) = M := ⟨max n n2, by omega⟩
 have hMn : l.length ≤ M := by rw [h.len]; omega
 have hMn2 : l2.length ≤ M := by rw [h2.len]; omega
 have hMb : M ≤ 9223372036854775807 := by omega
 go_enter Tryz.func21, Tryz.ntmps21
 go_wp2
 go_loop [5] (fun i => ∃ k : Nat, k ≤ M ∧ i = .int .i64 ((M : Int) - 1 - k) ∧ lexP (upto l l2 M k) = 0) (fun i => (intOf i + 1).toNat)
 case atStart => exact ⟨0, Nat.zero_le _, by go_num, rfl⟩
 case round =>
  obtain ⟨k, hk, rfl, h0⟩ := hrel
  by_cases hlt : k < M
  · have hk' : 0 ≤ (M : Int) - 1 - k := by omega
    have ek : ((M : Int) - 1 - k).toNat = M - 1 - k := by omega
    have EK := Lib.hid ek
    have hx : lexP (upto l l2 M (k + 1)) = cmpI (D l (M - 1 - k)) (D l2 (M - 1 - k)) := by rw [upto_succ, lexP_append, if_pos h0, lexP_one]
    have hp := lexP_part (k := k + 1) h.dig h2.dig hMn hMn2 (by omega)
    have HX := Lib.hid hx
    have HP := Lib.hid hp
    clear ek h0 hx hp
    rcases Nat.lt_trichotomy (D l (M - 1 - k)) (D l2 (M - 1 - k)) with hlg | hlg | hlg
    · have e : -1 = cmpI (val l) (val l2) := by
       have h1 := HX.out
       rw [cmpI_lt hlg] at h1
       rw [← HP.out (by rw [h1]; decide), h1]
      have E := Lib.hid e
      clear e
      go_wp2_with fail
      refine (rdigit_any _ _ _ l _ _ h hk').mono ?_
      rintro e w' ⟨rfl, rfl⟩
      rw [EK.out]
      go_wp2_with fail
      refine (rdigit_any _ _ _ l2 _ _ h2 hk').mono ?_
      rintro e w' ⟨rfl, rfl⟩
      rw [EK.out]
      go_wp2
      go_ret
      exact ⟨ret_int E.out, rfl⟩
    · have h0 : lexP (upto l l2 M (k + 1)) = 0 := by rw [HX.out, hlg, cmpI_eq]
      have t1 : ¬ D l (M - 1 - k) < D l2 (M - 1 - k) := by omega
      have t2 : ¬ D l2 (M - 1 - k) < D l (M - 1 - k) := by omega
      have H0 := Lib.hid h0
      clear hlg h0
      go_wp2_with fail
      refine (rdigit_any _ _ _ l _ _ h hk').mono ?_
      rintro e w' ⟨rfl, rfl⟩
      rw [EK.out]
      go_wp2_with fail
      refine (rdigit_any _ _ _ l2 _ _ h2 hk').mono ?_
      rintro e w' ⟨rfl, rfl⟩
      rw [EK.out]
      go_wp2
      go_round
      case rel => exact ⟨k + 1, by omega, by go_num, H0.out⟩
      case measure => simp [intOf]; omega
    · have e : 1 = cmpI (val l) (val l2) := by
       have h1 := HX.out
       rw [cmpI_gt hlg] at h1
       rw [← HP.out (by rw [h1]; decide), h1]
      have E := Lib.hid e
      clear e
      go_wp2_with fail
      refine (rdigit_any _ _ _ l _ _ h hk').mono ?_
      rintro e w' ⟨rfl, rfl⟩
      rw [EK.out]
      go_wp2_with fail
      refine (rdigit_any _ _ _ l2 _ _ h2 hk').mono ?_
      rintro e w' ⟨rfl, rfl⟩
      rw [EK.out]
      go_wp2
      go_ret
      exact ⟨ret_int E.out, rfl⟩
  · obtain rfl : k = M := by omega
    have e := lexP_all h.dig h2.dig hMn hMn2
    rw [h0] at e
    have E := Lib.hid e
    clear e h0
    go_wp2
    go_ret
    exact ⟨ret_int E.out, rfl⟩
end Go.Proofs.YtoecndogaklngaaGreatDoor
set_option linter.unusedVariables false
set_option linter.unusedSimpArgs false
namespace Go.Proofs.YtoecndogaklngaaGreatDoor
open Go.RowKit
theorem grown_row {E : Nat} {w w1 : World} {B n : Nat} {a a' : Option Addr} {c c' : Nat} {l : List Nat} {x : Nat} (o : Obj) (hB : Below B w w1) (hle : B ≤ w1.heap.size) (hrow : w1.ownsRow B E 1 (.slice a n c) n (dv l)) {w2 : World}
 (hown : w2.ownsRow B E 1 (.slice a' (n + 1) c') (n + 1) (dv l ++ dv [x])) (hgrow : (w1.alloc o).grownBy w2 (Value.slice a n c).ownBlock) :
 w2.ownsRow B E 1 (.slice a' (n + 1) c') (n + 1) (dv (l ++ [x])) ∧ Below B w w2 :=
 ⟨by rw [dv_append]; exact hown, (hB.alloc hle o).grown hgrow (by simp; omega) (fun k hk => (hrow.lt k hk).1)⟩
set_option maxHeartbeats 1000000 in
set_option maxRecDepth 100000 in
theorem radd_any (a : Option Addr) (n c : Nat) (l : List Nat) (a2 : Option Addr) (n2 c2 : Nat) (l2 : List Nat) (w : World) (h : NatAt w a n c l) (h2 : NatAt w a2 n2 c2 l2) (hs : n ≤ 549755813888) (hs2 : n2 ≤ 549755813888) :
 Calls Tryz.prog 57 #[.slice a n c, .slice a2 n2 c2] w (RetNat w (val l + val l2)) := by
 obtain ⟨i0, hi, hz0, hz1, hz2⟩ := info_parts info42
 obtain ⟨M, hM⟩ : ∃ M : Nat, max (n : Int) (n2 : Int) = M := ⟨max n n2, by omega⟩
 have hM1 : n ≤ M := by omega
 have hM2 : n2 ≤ M := by omega
 have hM3 : M ≤ 549755813888 := by omega
 go_enter Tryz.func57, Tryz.ntmps57
 go_wp2_with fail
 go_loopw [5, 6, 7] (fun v cy i wr => ∃ (k x : Nat) (os : List Nat) (b : Option Addr) (cc : Nat), k ≤ M + 1 ∧ x ≤ 1 ∧ i = .int .i64 k ∧ cy = .int .u64 x ∧ v = .slice b k cc ∧ Dig os ∧ os.length = k ∧ wr.ownsRow w.heap.size 42 1 (.slice b k cc) k (dv os) ∧ lo os k + 18446744073709551616 ^ k * x = lo l k + lo l2 k ∧ Below w.heap.size w wr) (fun _ _ i _ => M + 1 - (intOf i).toNat)
 case atStart => exact ⟨0, 0, [], none, 0, Nat.zero_le _, Nat.zero_le _, rfl, rfl, rfl, dig_nil, rfl, World.ownsRow_nil _ _ _ _, by simp [lo_zero], Below.refl _ _⟩
 case round =>
  obtain ⟨k, x, os, b, cc, hk, hx, rfl, rfl, rfl, hdo, hlo, hrow, h5, h6⟩ := hrel
  have H5 := Lib.hid h5
  have HLO := Lib.hid hlo
  clear h5 hlo
  by_cases hlt : k ≤ M
  · have e1 := h.later h6 (Nat.le_refl _)
    have e2 := h2.later h6 (Nat.le_refl _)
    have d1 := h.dig.at_ k
    have d2 := h2.dig.at_ k
    obtain ⟨s, hs1, hs2⟩ : ∃ s : Nat, IntKind.u64.wrap ((D l k : Int) + (D l2 k : Int)) = (s : Int) ∧ s = (D l k + D l2 k) % 18446744073709551616 := ⟨_, by rw [IntKind.wrap_u64]; omega, rfl⟩
    obtain ⟨t, ht1, ht2⟩ : ∃ t : Nat, IntKind.u64.wrap ((s : Int) + (x : Int)) = (t : Int) ∧ t = (s + x) % 18446744073709551616 := ⟨_, by rw [IntKind.wrap_u64]; omega, rfl⟩
    have hsB : s < 18446744073709551616 := by omega
    have htB : t < 18446744073709551616 := by omega
    have key1 : s < D l k ∨ t < s → t + 18446744073709551616 * 1 = D l k + D l2 k + x := by omega
    have key0 : ¬ s < D l k → ¬ t < s → t + 18446744073709551616 * 0 = D l k + D l2 k + x := by omega
    have K1 := Lib.hid key1
    have K0 := Lib.hid key0
    clear key1 key0 hs2 ht2
    by_cases t1 : s < D l k <;> by_cases t2 : t < s
    all_goals
     go_wp2_with fail
     refine (rdigit_any _ _ _ l _ _ e1 (by omega)).mono ?_
     rintro e w' ⟨rfl, rfl⟩
     rw [Int.toNat_natCast]
     go_wp2_with fail
     refine (rdigit_any _ _ _ l2 _ _ e2 (by omega)).mono ?_
     rintro e w' ⟨rfl, rfl⟩
     rw [Int.toNat_natCast]
     go_wp2_with (at_builtin; refine wpList_append_nat rfl _ _ 23 rfl w.heap.size 42 i0 Tryz.underlying23 hi hz0 hz1 hz2 _ k (dv os) rfl (hrow.alloc _) _ 1 1 [t] rfl (lit1 wr t t rfl htB).toNatAt (by omega) (by have := h6.size; simp; omega) ?_; intro b2 cc2 w2 hown2 hgrow2)
     obtain ⟨hr2, hb2⟩ := grown_row _ h6 h6.size hrow hown2 hgrow2
     go_roundw
     case measure => simp [intOf]; omega
     case rel => first
      | exact ⟨k + 1, 1, os ++ [t], b2, cc2, by omega, by omega, by go_num, rfl, rfl, dig_snoc hdo htB, by rw [List.length_append, HLO.out]; rfl, hr2, add_snoc HLO.out H5.out (K1.out (by first | exact .inl t1 | exact .inr t2)), hb2⟩
      | exact ⟨k + 1, 0, os ++ [t], b2, cc2, by omega, by omega, by go_num, rfl, rfl, dig_snoc hdo htB, by rw [List.length_append, HLO.out]; rfl, hr2, add_snoc HLO.out H5.out (K0.out t1 t2), hb2⟩
  · obtain rfl : k = M + 1 := by omega
    have h7 := add_end h.dig h2.dig HLO.out (by rw [h.len]; exact hM1) (by rw [h2.len]; exact hM2) H5.out
    obtain ⟨a5, c5, e5, h8⟩ := OwnAt.ofRow hrow hdo
    cases e5
    have H7 := Lib.hid h7
    clear h7
    go_wp2_with fail
    refine (rtrim_any _ _ _ os _ h8.toNatAt (by omega)).mono ?_
    rintro e w3 ⟨a3, n3, c3, rfl, h9, hb3⟩
    go_wp2
    go_ret
    rw [H7.out] at h9
    exact RetNat.of h6 ⟨_, _, _, rfl, h9, hb3⟩
end Go.Proofs.YtoecndogaklngaaGreatDoor
set_option linter.unusedVariables false
set_option linter.unusedSimpArgs false
namespace Go.Proofs.YtoecndogaklngaaGreatDoor
open Go.RowKit
set_option maxHeartbeats 1000000 in
set_option maxRecDepth 100000 in
theorem rsub_yes (a : Option Addr) (n c : Nat) (l : List Nat) (a2 : Option Addr) (n2 c2 : Nat) (l2 : List Nat) (w : World) (h : NatAt w a n c l) (h2 : NatAt w a2 n2 c2 l2) (hs : n ≤ 549755813888) (hv : val l2 ≤ val l) :
 Calls Tryz.prog 103 #[.slice a n c, .slice a2 n2 c2] w (RetNatOk w (val l - val l2) 0) := by
 obtain ⟨i0, hi, hz0, hz1, hz2⟩ := info_parts info42
 have ht : 0 ≤ cmpI (val l) (val l2) := by
  rcases Int.lt_or_le (cmpI (val l) (val l2)) 0 with h' | h'
  · have := cmpI_neg.1 h'; omega
  · exact h'
 have HV := Lib.hid hv
 clear hv
 go_enter Tryz.func103, Tryz.ntmps103
 go_wp2_with fail
 refine (rcmp_any _ _ _ l _ _ _ l2 _ h h2).mono ?_
 rintro e w0 ⟨rfl, rfl⟩
 go_wp2_with fail
 go_loopw [6, 7, 8] (fun v cy i wr => ∃ (k x : Nat) (os : List Nat) (b : Option Addr) (cc : Nat), k ≤ n ∧ x ≤ 1 ∧ i = .int .i64 k ∧ cy = .int .u64 x ∧ v = .slice b k cc ∧ Dig os ∧ os.length = k ∧ wr.ownsRow w.heap.size 42 1 (.slice b k cc) k (dv os) ∧ lo os k + lo l2 k = lo l k + 18446744073709551616 ^ k * x ∧ Below w.heap.size w wr) (fun _ _ i _ => n - (intOf i).toNat)
 case atStart => exact ⟨0, 0, [], none, 0, Nat.zero_le _, Nat.zero_le _, rfl, rfl, rfl, dig_nil, rfl, World.ownsRow_nil _ _ _ _, by simp [lo_zero], Below.refl _ _⟩
 case round =>
  obtain ⟨k, x, os, b, cc, hk, hx, rfl, rfl, rfl, hdo, hlo, hrow, h5, h6⟩ := hrel
  have H5 := Lib.hid h5
  have HLO := Lib.hid hlo
  clear h5 hlo
  by_cases hlt : k < n
  · have e1 := h.later h6 (Nat.le_refl _)
    have e2 := h2.later h6 (Nat.le_refl _)
    have d1 := h.dig.at_ k
    have d2 := h2.dig.at_ k
    rcases e1.parts with h' | ⟨ba, oa, rfl, _, hca⟩
    · omega
    have hca' := hca k hlt
    clear hca
    obtain ⟨s, hs1, hs2⟩ : ∃ s : Nat, IntKind.u64.wrap ((D l k : Int) - (D l2 k : Int)) = (s : Int) ∧ s = (D l k + 18446744073709551616 - D l2 k) % 18446744073709551616 := ⟨_, by rw [IntKind.wrap_u64]; omega, rfl⟩
    obtain ⟨t, ht1, ht2⟩ : ∃ t : Nat, IntKind.u64.wrap ((s : Int) - (x : Int)) = (t : Int) ∧ t = (s + 18446744073709551616 - x) % 18446744073709551616 := ⟨_, by rw [IntKind.wrap_u64]; omega, rfl⟩
    have hsB : s < 18446744073709551616 := by omega
    have htB : t < 18446744073709551616 := by omega
    have key1 : D l k < D l2 k ∨ s < x → t + D l2 k + x = D l k + 18446744073709551616 * 1 := by omega
    have key0 : ¬ D l k < D l2 k → ¬ s < x → t + D l2 k + x = D l k + 18446744073709551616 * 0 := by omega
    have K1 := Lib.hid key1
    have K0 := Lib.hid key0
    clear key1 key0 hs2 ht2
    have hdg : ∀ N, Calls Tryz.prog 48 #[.slice a2 n2 c2, .int .i64 (k : Int)] (wr.drewN N) fun e w'' => e = .returned (.int .u64 ((D l2 k : Nat) : Int)) ∧ ∃ m, w'' = wr.drewN m := fun N => by
     have H := rdigit_any _ _ _ l2 k _ (e2.draws N) (by omega)
     rw [Int.toNat_natCast] at H
     exact H.mono fun _ _ ⟨x1, x2⟩ => ⟨x1, N, x2.symm⟩
    have HDG := Lib.hid hdg
    clear hdg
    by_cases t1 : D l k < D l2 k <;> by_cases t2 : s < x
    all_goals
     go_wp2_with fail
     go_quiet ((go_at_call 48; exact HDG.out _))
     have h6 := Below.draws h6 nq
     have hrow := hrow.kept (w' := wr.drewN nq) (row := none) ⟨rfl, rfl, rfl, Nat.le_refl _, fun _ _ _ => rfl⟩ (by cases b <;> simp [Value.ownBlock])
     generalize wr.drewN nq = W at h6 hrow ⊢
     go_wp2_with (at_builtin; refine wpList_append_nat rfl _ _ 23 rfl w.heap.size 42 i0 Tryz.underlying23 hi hz0 hz1 hz2 _ k (dv os) rfl (hrow.alloc _) _ 1 1 [t] rfl (lit1 W t t rfl htB).toNatAt (by omega) (by have := h6.size; simp; omega) ?_; intro b2 cc2 w2 hown2 hgrow2)
     obtain ⟨hr2, hb2⟩ := grown_row _ h6 h6.size hrow hown2 hgrow2
     go_roundw
     case measure => simp [intOf]; omega
     case rel => first
      | exact ⟨k + 1, 1, os ++ [t], b2, cc2, by omega, by omega, by go_num, rfl, rfl, dig_snoc hdo htB, by rw [List.length_append, HLO.out]; rfl, hr2, sub_snoc HLO.out H5.out (K1.out (by first | exact .inl t1 | exact .inr t2)), hb2⟩
      | exact ⟨k + 1, 0, os ++ [t], b2, cc2, by omega, by omega, by go_num, rfl, rfl, dig_snoc hdo htB, by rw [List.length_append, HLO.out]; rfl, hr2, sub_snoc HLO.out H5.out (K0.out t1 t2), hb2⟩
  · obtain rfl : k = n := by omega
    have h7 := sub_end h.dig hdo HLO.out (by rw [h.len]; exact Nat.le_refl _) HV.out H5.out
    obtain ⟨a5, c5, e5, h8⟩ := OwnAt.ofRow hrow hdo
    cases e5
    have H7 := Lib.hid h7
    clear h7
    go_wp2_with fail
    refine (rtrim_any _ _ _ os _ h8.toNatAt (by omega)).mono ?_
    rintro e w3 ⟨a3, n3, c3, rfl, h9, hb3⟩
    go_wp2
    go_ret2
    rw [H7.out] at h9
    exact ⟨_, _, _, rfl, h9.mono h6.size, below_later h6 hb3⟩
end Go.Proofs.YtoecndogaklngaaGreatDoor
set_option linter.unusedVariables false
set_option linter.unusedSimpArgs false
namespace Go.Proofs.YtoecndogaklngaaGreatDoor
open Go.RowKit
set_option maxRecDepth 100000 in
theorem moved_yes (s : Int) (w : World) (h0 : 0 ≤ s) (h1 : s ≤ 16777216) :
 Calls Tryz.prog 102 #[.int .i64 s] w fun e w' => e = .returned (.bool true) ∧ w = w' := by
 go_enter Tryz.func102, Tryz.ntmps102
 go_wp2
 go_ret
 exact ⟨rfl, rfl⟩
end Go.Proofs.YtoecndogaklngaaGreatDoor
set_option linter.unusedVariables false
set_option linter.unusedSimpArgs false
namespace Go.Proofs.YtoecndogaklngaaGreatDoor
open Go.RowKit
set_option maxRecDepth 100000 in
theorem rlen_any (a : Option Addr) (n c : Nat) (l : List Nat) (w : World) (h : NatAt w a n c l) (hs : n ≤ 549755813888) :
 Calls Tryz.prog 87 #[.slice a n c] w (RetVal w (.int .i64 ((nbits (val l) : Nat) : Int))) := by
 have hle := digs_length_val h.dig
 rw [h.len] at hle
 by_cases h0 : val l = 0
 · have hl : (digs (val l)).length = 0 := digs_len0.2 h0
   have HL := Lib.hid hl
   have e1 : nbits (val l) = 0 := by rw [h0]; rfl
   have E1 := Lib.hid e1
   clear hl h0 e1
   go_enter Tryz.func87, Tryz.ntmps87
   go_wp2_with fail
   refine (rtrim_any _ _ _ _ _ h (by omega)).mono ?_
   rintro e w1 ⟨a1, n1, c1, rfl, h1, hb⟩
   obtain rfl : n1 = 0 := by have := h1.len; rw [HL.out] at this; omega
   go_wp2
   go_ret
   exact ⟨by rw [E1.out]; rfl, hb⟩
 · have hm0 : (digs (val l)).length ≠ 0 := fun e => h0 (digs_len0.1 e)
   obtain ⟨m, hm⟩ : ∃ m, (digs (val l)).length = m + 1 := ⟨(digs (val l)).length - 1, by omega⟩
   have ht := D_digs_last h0
   rw [hm] at ht hle
   rw [show m + 1 - 1 = m by omega] at ht
   have hv := nbits_top (dig_digs (val l)) hm ht
   rw [val_digs] at hv
   have hD := (dig_digs (val l)).at_ m
   have HV := Lib.hid hv
   have HM := Lib.hid hm
   clear hv hm ht hm0 h0
   have t1 : (((m + 1 : Nat) : Int) == 0) = false := by simp only [beq_eq_false_iff_ne]; omega
   have hrt := rtrim_any _ _ _ _ _ h (show n ≤ 1099511627776 by omega)
   obtain ⟨L, hL⟩ : ∃ L, digs (val l) = L := ⟨_, rfl⟩
   have hrt : Calls Tryz.prog 46 #[.slice a n c] w fun e w' => ∃ b o c', e = .returned (.slice (some ⟨b, o, none⟩) (m + 1) c') ∧ w'.cell? ⟨b, o + m, none⟩ = some (.int .u64 ((D L m : Nat) : Int)) ∧ m + 1 ≤ c' ∧ c' ≤ 9223372036854775807 ∧ Below w.heap.size w w' := by
    refine hrt.mono ?_
    rintro e w1 ⟨a1, n1, c1, rfl, h1, hb⟩
    obtain rfl : n1 = m + 1 := by have := h1.len; rw [HM.out] at this; omega
    rcases h1.toNatAt.parts with h2 | ⟨b, o, rfl, hlt, hc⟩
    · omega
    · have := hc m (by omega)
      rw [hL] at this
      exact ⟨b, o, c1, rfl, this, h1.le, h1.cle, hb⟩
   rw [hL] at hD
   have HL := Lib.hid hL
   have HRT := Lib.hid hrt
   clear hrt hL
   go_enter Tryz.func87, Tryz.ntmps87
   go_wp2_with fail
   refine HRT.out.mono ?_
   rintro e w1 ⟨b, o, c1, rfl, hc, hc1, hc2, hb⟩
   go_wp2
   go_loop [3, 4] (fun bs x => ∃ y k : Nat, bs = .int .i64 k ∧ x = .int .u64 y ∧ k + nbits y = 64 * m + nbits (D L m) ∧ k ≤ 64 * m + 64 ∧ y < 18446744073709551616) (fun _ x => (intOf x).toNat)
   case atStart => exact ⟨D L m, 64 * m, by go_num, rfl, rfl, by omega, hD⟩
   case round =>
    obtain ⟨y, k, rfl, rfl, hk, hk2, hy⟩ := hrel
    by_cases hy0 : 0 < y
    · have e := nbits_pos (n := y) (by omega)
      have hb64 : nbits (D L m) ≤ 64 := nbits_le hD
      have hk3 : k + 1 ≤ 64 * m + 64 := by omega
      have ek : k + 1 + nbits (y / 2) = 64 * m + nbits (D L m) := by omega
      have EK := Lib.hid ek
      clear e hk ek
      go_wp2
      go_round
      case rel => exact ⟨y / 2, k + 1, by go_num, by go_num, EK.out, hk3, by omega⟩
      case measure => simp [intOf]; omega
    · obtain rfl : y = 0 := by omega
      have ek : k = nbits (val l) := by rw [HV.out, HL.out]; simpa [nbits_zero] using hk
      have EK := Lib.hid ek
      clear ek hk
      go_wp2
      go_ret
      exact ⟨by rw [← EK.out]; rfl, hb⟩
end Go.Proofs.YtoecndogaklngaaGreatDoor
set_option linter.unusedVariables false
set_option linter.unusedSimpArgs false
namespace Go.Proofs.YtoecndogaklngaaGreatDoor
open Go.RowKit
theorem rdown_bits {x y r : Nat} (hx : x < 18446744073709551616) (hr : r ≤ 63) :
 bits .or .u64 ((x : Int) / 2 ^ r) (IntKind.u64.wrap ((y : Int) * 2 ^ (64 - r))) = (((x + 18446744073709551616 * y) / 2 ^ r % 18446744073709551616 : Nat) : Int) := by
 have e1 : (x : Int) / 2 ^ r = ((x / 2 ^ r : Nat) : Int) := by rw [Int.natCast_ediv, Int.natCast_pow]; rfl
 have e2 : IntKind.u64.wrap ((y : Int) * 2 ^ (64 - r)) = ((y * 2 ^ (64 - r) % 18446744073709551616 : Nat) : Int) := by
  rw [IntKind.wrap_u64]
  simp only [Int.natCast_emod, Int.natCast_mul, Int.natCast_pow]
  rfl
 rw [e1, e2, u64_or_nat _ _ (Nat.lt_of_le_of_lt (Nat.div_le_self _ _) hx) (Nat.mod_lt _ (by decide)), rshr_or hx hr]
set_option maxHeartbeats 1000000 in
set_option maxRecDepth 100000 in
theorem rshiftDown_any (a : Option Addr) (n c : Nat) (l : List Nat) (s : Int) (w : World) (h : NatAt w a n c l) (hs : n ≤ 549755813888) (h0 : 0 ≤ s) (h1 : s ≤ 16777216) :
 Calls Tryz.prog 88 #[.slice a n c, .int .i64 s] w (RetNatOk w (val l / 2 ^ s.toNat) 0) := by
 obtain ⟨i0, hi, hz0, hz1, hz2⟩ := info_parts info42
 obtain ⟨q, r, rfl, hr⟩ : ∃ q r : Nat, s = 64 * q + r ∧ r ≤ 63 := ⟨(s / 64).toNat, (s % 64).toNat, by omega, by omega⟩
 have es : (64 * (q : Int) + r).toNat = 64 * q + r := by omega
 rw [es]
 have hq : (64 * (q : Int) + r) / 64 = q := by omega
 have hm : (64 * (q : Int) + r) % 64 = r := by omega
 have ES := Lib.hid es
 clear es
 have hn1 := h.le
 have hn2 := h.cle
 have HL := Lib.hid h.len
 go_enter Tryz.func88, Tryz.ntmps88
 go_wp2_with fail
 refine (moved_yes _ _ h0 h1).mono ?_
 rintro e w' ⟨rfl, rfl⟩
 go_wp2_with fail
 rw [hm, hq]
 clear hq hm
 go_loopw [6, 8] (fun v i wr => ∃ (k : Nat) (os : List Nat) (b : Option Addr) (cc : Nat), (k = 0 ∨ q + k ≤ n) ∧ i = .int .i64 ((q + k : Nat) : Int) ∧ v = .slice b k cc ∧ Dig os ∧ os.length = k ∧ wr.ownsRow w.heap.size 42 1 (.slice b k cc) k (dv os) ∧ (∀ j, j < k → D os j = (val l / 2 ^ (64 * q + r)) / 18446744073709551616 ^ j % 18446744073709551616) ∧ Below w.heap.size w wr) (fun _ i _ => n - (intOf i).toNat)
 case atStart => exact ⟨0, [], none, 0, .inl rfl, by go_num, rfl, dig_nil, rfl, World.ownsRow_nil _ _ _ _, fun j hj => by omega, Below.refl _ _⟩
 case round =>
  obtain ⟨k, os, b, cc, hk, rfl, rfl, hdo, hlo, hrow, h5, h6⟩ := hrel
  have H5 := Lib.hid h5
  have HLO := Lib.hid hlo
  clear h5 hlo
  by_cases hlt : q + k < n
  · have e1 := h.later h6 (Nat.le_refl _)
    have d1 := h.dig.at_ (q + k)
    have d2 := h.dig.at_ (q + k + 1)
    rcases e1.parts with h' | ⟨ba, oa, rfl, _, hca⟩
    · omega
    have hca' := hca (q + k) hlt
    clear hca
    obtain ⟨d, hd1, hd2⟩ : ∃ d, d = (D l (q + k) + 18446744073709551616 * D l (q + k + 1)) / 2 ^ r % 18446744073709551616 ∧ d < 18446744073709551616 := ⟨_, rfl, Nat.mod_lt _ (by decide)⟩
    have hstep : ∀ j, j < k + 1 → D (os ++ [d]) j = (val l / 2 ^ (64 * q + r)) / 18446744073709551616 ^ j % 18446744073709551616 := by
     intro j hj
     by_cases hjk : j = k
     · subst hjk
       rw [D_snoc_new HLO.out, hd1]
       exact down_digit h.dig hr
     · rw [D_snoc_old (by rw [HLO.out]; omega)]
       exact H5.out j (by omega)
    have HS := Lib.hid hstep
    have hbits : bits .or .u64 ((D l (q + k) : Int) / 2 ^ r) (IntKind.u64.wrap ((D l (q + k + 1) : Int) * 2 ^ (64 - r))) = (d : Int) := by rw [rdown_bits d1 hr, hd1]
    have hz0' : r = 0 → (d : Nat) = D l (q + k) := by
     intro h0; subst h0; rw [hd1, rshr_none d1]
    have HZ := Lib.hid hz0'
    clear hstep hz0' hd1
    have ek : ((q + k : Nat) : Int) = (q : Int) + k := by omega
    rw [ek]
    by_cases hr0 : 0 < r
    · have v12 : (64 - (r : Int)).toNat = 64 - r := by omega
      go_wp2_with fail
      refine (rdigit_any _ _ _ l _ _ e1 (by omega)).mono ?_
      rintro e w' ⟨rfl, rfl⟩
      rw [show ((q : Int) + k + 1).toNat = q + k + 1 by omega]
      go_wp2_with (at_builtin; refine wpList_append_nat rfl _ _ 23 rfl w.heap.size 42 i0 Tryz.underlying23 hi hz0 hz1 hz2 _ k (dv os) rfl (hrow.alloc _) _ 1 1 [d] rfl (lit1 wr d d rfl hd2).toNatAt (by omega) (by have := h6.size; simp; omega) ?_; intro b2 cc2 w2 hown2 hgrow2)
      obtain ⟨hr2, hb2⟩ := grown_row _ h6 h6.size hrow hown2 hgrow2
      go_roundw
      case rel => exact ⟨k + 1, os ++ [d], b2, cc2, .inr (by omega), by go_num, rfl, dig_snoc hdo hd2, by rw [List.length_append, HLO.out]; rfl, hr2, HS.out, hb2⟩
      case measure => simp [intOf]; omega
    · obtain rfl : d = D l (q + k) := HZ.out (by omega)
      clear hbits
      have hx0 : (D l (q + k) : Int) / 2 ^ r = (D l (q + k) : Int) := by
       have e : r = 0 := by omega
       rw [e]; simp
      go_wp2_with (at_builtin; refine wpList_append_nat rfl _ _ 23 rfl w.heap.size 42 i0 Tryz.underlying23 hi hz0 hz1 hz2 _ k (dv os) rfl (hrow.alloc _) _ 1 1 [D l (q + k)] rfl (lit1 wr _ (D l (q + k)) rfl hd2).toNatAt (by omega) (by have := h6.size; simp; omega) ?_; intro b2 cc2 w2 hown2 hgrow2)
      obtain ⟨hr2, hb2⟩ := grown_row _ h6 h6.size hrow hown2 hgrow2
      go_roundw
      case rel => exact ⟨k + 1, os ++ [D l (q + k)], b2, cc2, .inr (by omega), by go_num, rfl, dig_snoc hdo hd2, by rw [List.length_append, HLO.out]; rfl, hr2, HS.out, hb2⟩
      case measure => simp [intOf]; omega
  · have h7 := down_end (q := q) (r := r) h.dig hdo (by rw [HLO.out, HL.out]; omega) (fun i hi => H5.out i (by rw [HLO.out] at hi; exact hi))
    obtain ⟨a5, c5, e5, h8⟩ := OwnAt.ofRow hrow hdo
    cases e5
    have H7 := Lib.hid h7
    clear h7
    have ek : ((q + k : Nat) : Int) = (q : Int) + k := by omega
    rw [ek]
    go_wp2_with fail
    refine (rtrim_any _ _ _ os _ h8.toNatAt (by omega)).mono ?_
    rintro e w3 ⟨a3, n3, c3, rfl, h9, hb3⟩
    go_wp2
    go_ret2
    rw [H7.out] at h9
    exact ⟨_, _, _, rfl, h9.mono h6.size, below_later h6 hb3⟩
end Go.Proofs.YtoecndogaklngaaGreatDoor
