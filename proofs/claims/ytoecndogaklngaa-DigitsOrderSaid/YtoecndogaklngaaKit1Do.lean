import Derived.Test.YtoecndogaklngaaS0Do
import Derived.Test.YtoecndogaklngaaLimbs1Do
set_option linter.unusedVariables false
set_option linter.unusedSimpArgs false
namespace Go.Proofs.Ytoecndogaklngaa
open Go.RowKit
def eqL (l l2 : List Nat) : Bool := decide (l = l2)
theorem eqL_self (l : List Nat) : eqL l l = true := decide_eq_true rfl
theorem eqL_iff {l l2 : List Nat} : eqL l l2 = true ↔ l = l2 := decide_eq_true_iff
theorem eqL_false {l l2 : List Nat} : eqL l l2 = false ↔ l ≠ l2 := decide_eq_false_iff_not
theorem eq_of_D {l l2 : List Nat} (h : l.length = l2.length) (hd : ∀ j, j < l.length → D l j = D l2 j) : l = l2 := by
 refine List.ext_getElem h fun i h1 h2 => ?_
 have := hd i h1
 unfold D at this
 rw [List.getD_eq_getElem?_getD, List.getD_eq_getElem?_getD, List.getElem?_eq_getElem h1, List.getElem?_eq_getElem h2] at this
 exact this
set_option maxRecDepth 100000 in
theorem sameNat_any (a : Option Addr) (n c : Nat) (l : List Nat) (a2 : Option Addr) (n2 c2 : Nat) (l2 : List Nat) (w : World) (h : NatAt w a n c l) (h2 : NatAt w a2 n2 c2 l2) :
 Calls Try.prog 14 #[.slice a n c, .slice a2 n2 c2] w fun e w' => e = .returned (.bool (eqL l l2)) ∧ ∃ m, w' = w.drewN m := by
 have hl := h.cle
 have hl' := h.le
 by_cases hn : n = n2
 · subst hn
   have t0 : ((n : Int) != (n : Int)) = false := by simp
   have HL := Lib.hid h.len
   have HL2 := Lib.hid h2.len
   go_enter Try.func14, Try.ntmps14
   go_wp2
   go_loopw [5] (fun i wr => ∃ (k m : Nat), k ≤ n ∧ i = .int .i64 ((k : Nat) : Int) ∧ (∀ j, j < k → D l j = D l2 j) ∧ wr = w.drewN m) (fun i _ => n - (intOf i).toNat)
   case atStart => exact ⟨0, 0, Nat.zero_le _, rfl, fun j hj => by omega, rfl⟩
   case round =>
    obtain ⟨k, m, hk, rfl, hd, rfl⟩ := hrel
    have HD := Lib.hid hd
    clear hd
    by_cases hlt : k < n
    · have e1 := h.draws m
      have e2 := h2.draws m
      rcases e1.parts with h' | ⟨ba, oa, rfl, _, hca⟩
      · omega
      rcases e2.parts with h' | ⟨bb, ob, rfl, _, hcb⟩
      · omega
      have ca := hca k hlt
      have cb := hcb k hlt
      clear hca hcb
      by_cases he : D l k = D l2 k
      · have t1 : ((D l k : Int) != (D l2 k : Int)) = false := by rw [he]; simp
        have HE := Lib.hid he
        clear he
        go_wp2_with fail
        generalize hW : w.drewN m = W at ca cb ⊢
        have HW := Lib.hid hW
        clear hW
        go_quiet (fail)
        go_wp2
        go_roundw
        case rel => exact ⟨k + 1, m + nq, by omega, by go_num, fun j hj => by
         by_cases hjk : j = k
         · subst hjk; exact HE.out
         · exact HD.out j (by omega), by rw [← HW.out, World.drewN_drewN]⟩
        case measure => simp [intOf]; omega
      · have t1 : ((D l k : Int) != (D l2 k : Int)) = true := by rw [bne_iff_ne]; omega
        have hf : eqL l l2 = false := eqL_false.2 fun e => he (by rw [e])
        have HF := Lib.hid hf
        clear he hf
        go_wp2_with fail
        generalize hW : w.drewN m = W at ca cb ⊢
        have HW := Lib.hid hW
        clear hW
        go_quiet (fail)
        go_wp2
        go_ret
        exact ⟨ret_bool HF.out.symm, m + nq, by rw [← HW.out, World.drewN_drewN]⟩
    · obtain rfl : k = n := by omega
      have ht : eqL l l2 = true := eqL_iff.2 (eq_of_D (by rw [HL.out, HL2.out]) (fun j hj => HD.out j (by rw [HL.out] at hj; exact hj)))
      have HT := Lib.hid ht
      clear ht
      go_wp2
      go_ret
      exact ⟨ret_bool HT.out.symm, m, rfl⟩
 · have t0 : ((n : Int) != (n2 : Int)) = true := by rw [bne_iff_ne]; omega
   have hf : eqL l l2 = false := eqL_false.2 fun e => hn (by rw [← h.len, ← h2.len, e])
   have HF := Lib.hid hf
   clear hn hf
   go_enter Try.func14, Try.ntmps14
   go_wp2
   go_ret
   exact ⟨ret_bool HF.out.symm, 0, rfl⟩
theorem sameNat_below {a : Option Addr} {n c : Nat} {l : List Nat} {a2 : Option Addr} {n2 c2 : Nat} {l2 : List Nat} {w : World} (h : NatAt w a n c l) (h2 : NatAt w a2 n2 c2 l2) :
 Calls Try.prog 14 #[.slice a n c, .slice a2 n2 c2] w (RetVal w (.bool (eqL l l2))) :=
 (sameNat_any a n c l a2 n2 c2 l2 w h h2).mono fun e w' ⟨he, m, hm⟩ => ⟨he, by rw [hm]; exact Below.draws (Below.refl _ _) m⟩
theorem sameNat_yes {a : Option Addr} {n c : Nat} {l : List Nat} {a2 : Option Addr} {n2 c2 : Nat} {w : World} (h : NatAt w a n c l) (h2 : NatAt w a2 n2 c2 l) :
 Calls Try.prog 14 #[.slice a n c, .slice a2 n2 c2] w (RetVal w (.bool true)) := by
 have := sameNat_below h h2
 rwa [eqL_self] at this
set_option maxRecDepth 100000 in
theorem longNat_any (a : Option Addr) (n c : Nat) (k : Int) (w : World) (hc : n ≤ 9223372036854775807) :
 Calls Try.prog 5 #[.slice a n c, .int .i64 k] w fun e w' => e = .returned (.bool (decide (k < (n : Int)))) ∧ w = w' := by
 go_enter Try.func5, Try.ntmps5
 go_wp2
 go_ret
 exact ⟨rfl, rfl⟩
def pickI (x n : Int) : Int := if n ≤ 0 then 0 else x % n
set_option maxRecDepth 100000 in
theorem pick_any (x n : Int) (w : World) (hx : -9223372036854775808 ≤ x) (hx2 : x ≤ 9223372036854775807) (hn : n ≤ 9223372036854775807) :
 Calls Try.prog 17 #[.int .i64 x, .int .i64 n] w fun e w' => e = .returned (.int .i64 (pickI x n)) ∧ w = w' := by
 by_cases h0 : n ≤ 0
 · have e : pickI x n = 0 := if_pos h0
   have E := Lib.hid e
   clear e
   go_enter Try.func17, Try.ntmps17
   go_wp2
   go_ret
   exact ⟨by rw [E.out]; rfl, rfl⟩
 · have e : pickI x n = x % n := if_neg h0
   have E := Lib.hid e
   clear e
   by_cases hx0 : 0 ≤ x
   · have h1 := Int.emod_nonneg x (show n ≠ 0 by omega)
     go_enter Try.func17, Try.ntmps17
     go_wp2
     go_ret
     exact ⟨by rw [E.out]; rfl, rfl⟩
   · obtain ⟨t, ht⟩ : ∃ t, x.tmod n = t := ⟨_, rfl⟩
     have h1 := Int.tmod_lt_of_pos x (show 0 < n by omega)
     have h2 : -n < x.tmod n := by have h0 := Int.tmod_lt_of_pos (-x) (show 0 < n by omega); rw [Int.neg_tmod] at h0; omega
     have h3 : x % n = if t < 0 then t + n else t := by
      have h4 : x.tmod n ≤ 0 := by
       have := Int.tmod_nonneg n (show 0 ≤ -x by omega)
       rw [Int.neg_tmod] at this
       omega
      rw [← ht]
      have h5 : x % n = (x.tmod n) % n := by
       have h6 := Int.mul_tdiv_add_tmod x n
       conv => lhs; rw [← h6]
       rw [Int.mul_add_emod_self_left]
      rw [h5]
      split
      · rw [← Int.add_emod_right, Int.emod_eq_of_lt (by omega) (by omega)]
      · rw [Int.emod_eq_of_lt (by omega) (by omega)]
     rw [ht] at h1 h2
     by_cases ht0 : t < 0
     · rw [if_pos ht0] at h3
       have H3 := Lib.hid h3
       clear h3
       go_enter Try.func17, Try.ntmps17
       go_wp2
       go_ret
       exact ⟨by rw [E.out, H3.out]; rfl, rfl⟩
     · rw [if_neg ht0] at h3
       have H3 := Lib.hid h3
       clear h3
       go_enter Try.func17, Try.ntmps17
       go_wp2
       go_ret
       exact ⟨by rw [E.out, H3.out]; rfl, rfl⟩
end Go.Proofs.Ytoecndogaklngaa
