import Derived.Lib.MinMax
import Derived.Test.YtoecndogaklngaaS0Dn
import Derived.Test.YtoecndogaklngaaLimbs2Dn
set_option linter.unusedVariables false
set_option linter.unusedSimpArgs false
namespace Go.Proofs.Ytoecndogaklngaa
open Go.RowKit
set_option maxRecDepth 100000 in
theorem rtrim_any (a : Option Addr) (n c : Nat) (l : List Nat) (w : World) (h : NatAt w a n c l) (hs : n ≤ 1099511627776) :
 Calls Try.prog 29 #[.slice a n c] w (RetNat w (val l)) := by
 obtain ⟨i0, hi, hz0, hz1, hz2⟩ := info_parts info39
 have hd := h.digs
 have hdn := digs_length_val h.dig
 rw [h.len] at hdn
 have hl := h.cle
 have hl' := h.le
 have HD := Lib.hid hd
 clear hd
 go_enter Try.func29, Try.ntmps29
 go_wp2
 go_loop [0] (fun v => ∃ m : Nat, m ≤ n ∧ Go.Proofs.Ytoecndogaklngaa.hi l m = 0 ∧ v = .slice a m c) (fun v => match v with | .slice _ m _ => m | _ => 0)
 case atStart => exact ⟨n, Nat.le_refl _, hi_all (by rw [h.len]; omega), rfl⟩
 case round =>
  obtain ⟨m, hm, h0, rfl⟩ := hrel
  have H0 := Lib.hid h0
  clear h0
  by_cases hm0 : 0 < m
  · rcases h.parts with h1 | ⟨b, o, rfl, hlt, hc⟩
    · omega
    have hc' := hc (m - 1) (by omega)
    clear hc
    by_cases hz : D l (m - 1) = 0
    · have hz' : (((D l (m - 1) : Nat) : Int) == 0) = true := by rw [hz]; rfl
      have HZ := Lib.hid hz
      clear hz
      go_wp2
      go_round
      case rel => exact ⟨m - 1, by omega, by rw [hi_step, HZ.out, show m - 1 + 1 = m by omega, H0.out], rfl⟩
      case measure => simp; omega
    · have hz' : (((D l (m - 1) : Nat) : Int) == 0) = false := by simpa using hz
      have e := take_digs_length h.dig (by rw [h.len]; exact hm) H0.out (.inr hz)
      have HN := HD.out
      rw [← e] at HN hdn
      clear hz e HD
      go_wp2_with (at_builtin; refine wpList_append_nat rfl _ _ 23 rfl w.heap.size 39 i0 Try.underlying23 hi hz0 hz1 hz2 _ 0 [] rfl (World.ownsRow_lit w #[] 0 (Nat.le_refl _) (by simp) rfl) _ m c _ rfl (HN.alloc _) (by omega) (by simp) ?_; intro a' c' w1 hown hgrow)
      go_ret
      exact copied w a' m c' _ w1 _ (dig_digs _) hown hgrow rfl
  · have hmz : m = 0 := by omega
    subst hmz
    have e := take_digs_length h.dig (Nat.zero_le _) H0.out (.inl rfl)
    have HN := HD.out
    rw [← e] at HN hdn
    clear hm0 e HD
    go_wp2_with (at_builtin; refine wpList_append_nat rfl _ _ 23 rfl w.heap.size 39 i0 Try.underlying23 hi hz0 hz1 hz2 _ 0 [] rfl (World.ownsRow_lit w #[] 0 (Nat.le_refl _) (by simp) rfl) _ 0 c _ rfl (HN.alloc _) (by omega) (by simp) ?_; intro a' c' w1 hown hgrow)
    go_ret
    exact copied w a' 0 c' _ w1 _ (dig_digs _) hown hgrow rfl
set_option maxRecDepth 100000 in
theorem rone_any (a : Option Addr) (n c : Nat) (l : List Nat) (w : World) (h : NatAt w a n c l) (hs : n ≤ 1099511627776) :
 Calls Try.prog 47 #[.slice a n c] w (RetVal w (.tuple #[.int .u64 ((oneN (val l) : Nat) : Int), .bool (oneB (val l))])) := by
 by_cases h0 : val l = 0
 · have e0 : (digs (val l)).length = 0 := digs_len0.2 h0
   have e1 : oneN (val l) = 0 := by rw [h0]; rfl
   have e2 : oneB (val l) = true := by rw [h0]; rfl
   have E0 := Lib.hid e0
   have E1 := Lib.hid e1
   have E2 := Lib.hid e2
   clear h0 e0 e1 e2
   go_enter Try.func47, Try.ntmps47
   go_wp2_with fail
   refine (rtrim_any _ _ _ _ _ h hs).mono ?_
   rintro e w1 ⟨a1, n1, c1, rfl, h1, hb⟩
   obtain rfl : n1 = 0 := by have := h1.len; rw [E0.out] at this; omega
   go_wp2
   go_ret2
   exact ⟨by rw [E1.out, E2.out]; rfl, hb⟩
 · by_cases h2 : val l < 18446744073709551616
   · have hd : digs (val l) = [val l] := digs_small h0 h2
     have e1 : oneN (val l) = val l := if_pos h2
     have e2 : oneB (val l) = true := decide_eq_true h2
     have E0 := Lib.hid hd
     have E1 := Lib.hid e1
     have E2 := Lib.hid e2
     clear h0 e1 e2 hd h2
     go_enter Try.func47, Try.ntmps47
     go_wp2_with fail
     refine (rtrim_any _ _ _ _ _ h hs).mono ?_
     rintro e w1 ⟨a1, n1, c1, rfl, h1, hb⟩
     have h1 := h1.toNatAt
     rw [E0.out] at h1
     obtain rfl : n1 = 1 := h1.len.symm
     rcases h1.parts with h3 | ⟨b, o, rfl, hlt, hc⟩
     · omega
     have hc' := hc 0 (by omega)
     rw [D_one, Nat.add_zero] at hc'
     clear hc
     go_wp2
     go_ret2
     exact ⟨by rw [E1.out, E2.out]; rfl, hb⟩
   · have hl1 : (digs (val l)).length ≠ 0 := fun e => h0 (digs_len0.1 e)
     have hl2 : (digs (val l)).length ≠ 1 := fun e => h2 ((digs_len1 h0).1 e)
     have e1 : oneN (val l) = 0 := if_neg h2
     have e2 : oneB (val l) = false := decide_eq_false h2
     have E1 := Lib.hid e1
     have E2 := Lib.hid e2
     clear e1 e2 h0 h2
     go_enter Try.func47, Try.ntmps47
     go_wp2_with fail
     refine (rtrim_any _ _ _ _ _ h hs).mono ?_
     rintro e w1 ⟨a1, n1, c1, rfl, h1, hb⟩
     have t1 : ((n1 : Int) == 0) = false := by have := h1.len; simp only [beq_eq_false_iff_ne]; omega
     have t2 : ((n1 : Int) == 1) = false := by have := h1.len; simp only [beq_eq_false_iff_ne]; omega
     go_wp2
     go_ret2
     exact ⟨by rw [E1.out, E2.out]; rfl, hb⟩
set_option maxRecDepth 100000 in
theorem rcmp_any (a : Option Addr) (n c : Nat) (l : List Nat) (a2 : Option Addr) (n2 c2 : Nat) (l2 : List Nat) (w : World) (h : NatAt w a n c l) (h2 : NatAt w a2 n2 c2 l2) :
 Calls Try.prog 60 #[.slice a n c, .slice a2 n2 c2] w fun e w' => e = .returned (.int .i64 (cmpI (val l) (val l2))) ∧ w = w' := by
 have hm := h.cle
 have hm' := h.le
 have hm2 := h2.cle
 have hm2' := h2.le
 obtain ⟨M, hM⟩ : ∃ M : Nat, max (n : Int) (n2 : Int) = M := ⟨max n n2, by omega⟩
 have hMn : l.length ≤ M := by rw [h.len]; omega
 have hMn2 : l2.length ≤ M := by rw [h2.len]; omega
 have hMb : M ≤ 9223372036854775807 := by omega
 go_enter Try.func60, Try.ntmps60
 go_wp2
 go_loop [5] (fun i => ∃ k : Nat, k ≤ M ∧ i = .int .i64 ((M : Int) - 1 - k) ∧ lexP (upto l l2 M k) = 0) (fun i => (intOf i + 1).toNat)
 case atStart => exact ⟨0, Nat.zero_le _, by go_num, rfl⟩
 case round =>
  obtain ⟨k, hk, rfl, h0⟩ := hrel
  by_cases hlt : k < M
  · have hk' : 0 ≤ (M : Int) - 1 - k := by omega
    have ek : ((M : Int) - 1 - k).toNat = M - 1 - k := by omega
    have EK := Lib.hid ek
    have hx : lexP (upto l l2 M (k + 1)) = cmpI (D l (M - 1 - k)) (D l2 (M - 1 - k)) := by rw [upto_succ, lexP_append, if_pos h0, lexP_one]
    have hp := lexP_part (k := k + 1) h.dig h2.dig hMn hMn2 (by omega)
    have HX := Lib.hid hx
    have HP := Lib.hid hp
    clear ek h0 hx hp
    rcases Nat.lt_trichotomy (D l (M - 1 - k)) (D l2 (M - 1 - k)) with hlg | hlg | hlg
    · have e : -1 = cmpI (val l) (val l2) := by
       have h1 := HX.out
       rw [cmpI_lt hlg] at h1
       rw [← HP.out (by rw [h1]; decide), h1]
      have E := Lib.hid e
      clear e
      go_wp2_with fail
      refine (rdigit_any _ _ _ l _ _ h hk').mono ?_
      rintro e w' ⟨rfl, rfl⟩
      rw [EK.out]
      go_wp2_with fail
      refine (rdigit_any _ _ _ l2 _ _ h2 hk').mono ?_
      rintro e w' ⟨rfl, rfl⟩
      rw [EK.out]
      go_wp2
      go_ret
      exact ⟨ret_int E.out, rfl⟩
    · have h0 : lexP (upto l l2 M (k + 1)) = 0 := by rw [HX.out, hlg, cmpI_eq]
      have t1 : ¬ D l (M - 1 - k) < D l2 (M - 1 - k) := by omega
      have t2 : ¬ D l2 (M - 1 - k) < D l (M - 1 - k) := by omega
      have H0 := Lib.hid h0
      clear hlg h0
      go_wp2_with fail
      refine (rdigit_any _ _ _ l _ _ h hk').mono ?_
      rintro e w' ⟨rfl, rfl⟩
      rw [EK.out]
      go_wp2_with fail
      refine (rdigit_any _ _ _ l2 _ _ h2 hk').mono ?_
      rintro e w' ⟨rfl, rfl⟩
      rw [EK.out]
      go_wp2
      go_round
      case rel => exact ⟨k + 1, by omega, by go_num, H0.out⟩
      case measure => simp [intOf]; omega
    · have e : 1 = cmpI (val l) (val l2) := by
       have h1 := HX.out
       rw [cmpI_gt hlg] at h1
       rw [← HP.out (by rw [h1]; decide), h1]
      have E := Lib.hid e
      clear e
      go_wp2_with fail
      refine (rdigit_any _ _ _ l _ _ h hk').mono ?_
      rintro e w' ⟨rfl, rfl⟩
      rw [EK.out]
      go_wp2_with fail
      refine (rdigit_any _ _ _ l2 _ _ h2 hk').mono ?_
      rintro e w' ⟨rfl, rfl⟩
      rw [EK.out]
      go_wp2
      go_ret
      exact ⟨ret_int E.out, rfl⟩
  · obtain rfl : k = M := by omega
    have e := lexP_all h.dig h2.dig hMn hMn2
    rw [h0] at e
    have E := Lib.hid e
    clear e h0
    go_wp2
    go_ret
    exact ⟨ret_int E.out, rfl⟩
end Go.Proofs.Ytoecndogaklngaa
