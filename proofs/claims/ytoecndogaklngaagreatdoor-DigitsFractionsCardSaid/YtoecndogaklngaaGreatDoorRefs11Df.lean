import Derived.Test.YtoecndogaklngaaGreatDoorS0Df
import Derived.Test.YtoecndogaklngaaGreatDoorNumDf
import Derived.Test.YtoecndogaklngaaGreatDoorRefs1Df
import Derived.Test.YtoecndogaklngaaGreatDoorKit3Df
set_option linter.unusedVariables false
set_option linter.unusedSimpArgs false
namespace Go.Proofs.YtoecndogaklngaaGreatDoor
open Go.RowKit
abbrev Turned (b : Nat) (w w' : World) : Prop := w.grownBy w' (some b)
theorem Turned.refl (b : Nat) (w : World) : Turned b w w := ⟨rfl, rfl, rfl, Nat.le_refl _, fun _ _ _ => rfl⟩
theorem Turned.trans {b : Nat} {w w1 w2 : World} (h : Turned b w w1) (k : Turned b w1 w2) : Turned b w w2 :=
 ⟨k.os.trans h.os, k.tape.trans h.tape, k.output.trans h.output, Nat.le_trans h.size k.size, fun i hi hn => (k.block i (Nat.lt_of_lt_of_le hi h.size) hn).trans (h.block i hi hn)⟩
theorem Turned.ofBelow {b : Nat} {w w' : World} (h : Below w.heap.size w w') : Turned b w w' := ⟨h.os, h.tape, h.output, h.size, fun k hk _ => h.block k hk⟩
theorem Turned.set {b o : Nat} {w w' : World} (h : Turned b w w') (v : Value) : Turned b w (w'.setCell ⟨b, o, none⟩ v) :=
 h.trans ⟨rfl, rfl, rfl, by simp [World.setCell], fun k _ hn => Below.heap_setCell _ _ _ _ (fun e => hn (by rw [e]))⟩
theorem Turned.sets {b : Nat} {w w' : World} (h : Turned b w w') : ∀ (vs : List Value) (o : Nat), Turned b w (w'.setCells b o vs) := by
 intro vs
 induction vs generalizing w' with
 | nil => intro o; exact h
 | cons v r ih => intro o; exact ih (h.set v) (o + 1)
theorem NatAt.other {w w' : World} {b : Nat} {a : Option Addr} {n c : Nat} {l : List Nat} (h : NatAt w a n c l) (hg : Turned b w w') (hne : n = 0 ∨ ∀ x, a = some x → x.block ≠ b) : NatAt w' a n c l := by
 rcases h.parts with h0 | ⟨b1, o1, rfl, hlt, hc⟩
 · exact ⟨h.len, h.le, h.cle, h.dig, .inl h0, h.nilc⟩
 · rcases hne with h0 | hne
   · exact ⟨h.len, h.le, h.cle, h.dig, .inl h0, h.nilc⟩
   refine ⟨h.len, h.le, h.cle, h.dig, .inr ⟨b1, o1, rfl, fun i hi => ?_⟩, h.nilc⟩
   rw [World.cell?_of_block (w := w) (hg.block b1 hlt (fun e => hne _ rfl (by cases e; rfl)))]
   exact hc i hi
theorem OwnAt.other {w w' : World} {B b : Nat} {a : Option Addr} {n c : Nat} {l : List Nat} (h : OwnAt w B a n c l) (hg : Turned b w w') (hne : n = 0 ∨ ∀ x, a = some x → x.block ≠ b) : OwnAt w' B a n c l := by
 refine ⟨h.toNatAt.other hg hne, ?_⟩
 rcases h.own with h0 | ⟨b1, o1, he, hle, hf⟩
 · exact .inl h0
 · rcases h.toNatAt.parts with h0 | ⟨b', o', he', hlt, _⟩
   · exact .inl h0
   · rw [he] at he'
     cases he'
     rcases hne with h0 | hne
     · exact .inl h0
     refine .inr ⟨b1, o1, he, hle, fun i hi => ?_⟩
     rw [World.frozen?_of_block (w := w) (hg.block b1 hlt (fun e => hne _ he (by cases e; rfl)))]
     exact hf i hi
theorem OwnAt.setSome {w : World} {B b o n c : Nat} {l l2 : List Nat} (h : OwnAt w B (some ⟨b, o, none⟩) n c l) (hl : l2.length ≤ n) (hd : Dig l2) :
 OwnAt (w.setCells b o (dv l2)) B (some ⟨b, o, none⟩) n c (l2 ++ l.drop l2.length) := by
 by_cases hn : n = 0
 · subst hn
   obtain rfl : l2 = [] := List.eq_nil_of_length_eq_zero (by omega)
   exact h
 rcases h.cell with h' | ⟨b', o', he, hc⟩
 · omega
 cases he
 rcases h.own with h' | ⟨b', o', he, hB, hf⟩
 · omega
 cases he
 refine ⟨⟨by rw [List.length_append, List.length_drop, h.len]; omega, h.le, h.cle, dig_append.2 ⟨hd, fun x hx => h.dig x (List.mem_of_mem_drop hx)⟩, .inr ⟨b, o, rfl, fun i hi => ?_⟩, h.nilc⟩, .inr ⟨b, o, rfl, hB, fun i hi => by rw [World.frozen?_setCells]; exact hf i hi⟩⟩
 by_cases hin : i < l2.length
 · rw [World.cell?_setCells_in b (dv l2) o w (fun q hq => by rw [dv_length] at hq; rw [hc q (by omega)]; rfl) i (by rw [dv_length]; exact hin)]
   have e1 := dv_at hin
   rw [List.getElem?_eq_getElem (by rw [dv_length]; exact hin)] at e1
   rw [e1]
   unfold D
   rw [List.getD_eq_getElem?_getD, List.getD_eq_getElem?_getD, List.getElem?_append_left hin]
 · rw [World.cell?_setCells_out _ _ _ _ _ (fun _ _ => by rw [dv_length]; show o + i < o ∨ _ ≤ o + i; omega), hc i hi]
   unfold D
   rw [List.getD_eq_getElem?_getD, List.getD_eq_getElem?_getD, List.getElem?_append_right (by omega), List.getElem?_drop, show l2.length + (i - l2.length) = i by omega]
theorem run_copy_nat {w : World} {B b o n c : Nat} {l : List Nat} (h : OwnAt w B (some ⟨b, o, none⟩) n c l) {a : Option Addr} {m cm : Nat} {l2 : List Nat} (h2 : NatAt w a m cm l2) (hm : m ≤ n) (ty : TypeId) :
 (Builtin.copy_ #[23, 23] ty #[.slice (some ⟨b, o, none⟩) n c, .slice a m cm]).run Tryz.prog w = .ok (goInt ((m : Nat) : Int)) (w.setCells b o (dv l2)) := by
 have hisz : (Tryz.prog.info? 42).map (·.size) = some 1 := by kernel_rfl
 by_cases h0 : m = 0
 · subst h0
   have e0 : l2 = [] := List.eq_nil_of_length_eq_zero h2.len
   rw [e0]
   exact run_copy_none w _ _ ty _ _ _ _ _ _ _ Tryz.underlying23 hisz (by simp)
 · rcases h2.cell with h' | ⟨bd, od, rfl, hcd⟩
   · exact absurd h' h0
   have hlen : (dv l2).length = m := by rw [dv_length]; exact h2.len
   have := run_copy_cells (P := Tryz.prog) w 23 23 ty 42 b o n c ⟨bd, od, none⟩ m cm (dv l2) Tryz.underlying23 hisz (by rw [hlen]; exact (Nat.min_eq_left (by omega)).symm)
    (fun j v hj => ?_) (fun j hj => ?_) (fun j hj => ?_) (dv_one _)
   · rw [hlen] at this; exact this
   · have hjl : j < m := by have := (List.getElem?_eq_some_iff.1 hj).1; rwa [hlen] at this
     rw [dv_at (by rw [h2.len]; exact hjl)] at hj
     cases hj
     rw [addr_add]
     exact hcd j hjl
   · rcases h.cell with h' | ⟨b', o', he, hc⟩
     · omega
     · cases he; rw [hc j (by rw [hlen] at hj; omega)]; rfl
   · rcases h.own with h' | ⟨b', o', he, _, hf⟩
     · omega
     · cases he; exact hf j (by rw [hlen] at hj; omega)
set_option maxRecDepth 100000 in
set_option maxHeartbeats 2000000 in
theorem rbit_in (a : Option Addr) (n c : Nat) (l : List Nat) (s : Int) (q r : Nat) (w : World) (h : NatAt w a n c l) (h0 : 0 ≤ s) (h1 : s ≤ 16777216) (hq : s / 64 = q) (hm : s % 64 = r) (hr : r ≤ 63) :
 Calls Tryz.prog 90 #[.slice a n c, .int .i64 s] w fun e w' => e = .returned (.bool (decide (D l q / 2 ^ r % 2 = 1))) ∧ w = w' := by
 by_cases hlt : q < n
 · rcases h.parts with h' | ⟨b, o, rfl, _, hc⟩
   · omega
   have hc' := hc q hlt
   have hd := h.dig.at_ q
   obtain ⟨x, hx⟩ : ∃ x, D l q = x := ⟨_, rfl⟩
   rw [hx] at hc' hd ⊢
   clear hx hc h
   have hrr : ((r : Nat) : Int).toNat = r := Int.toNat_natCast r
   go_enter Tryz.func90, Tryz.ntmps90
   go_wp2
   go_ret
   refine ⟨ret_bool ?_, rfl⟩
   have e1 : (x : Int) / 2 ^ r = ((x / 2 ^ r : Nat) : Int) := by rw [Int.natCast_ediv, Int.natCast_pow]; rfl
   rw [e1]
   generalize x / 2 ^ r = y
   rw [Int.tmod_eq_emod_of_nonneg (by omega)]
   rw [Bool.eq_iff_iff, beq_iff_eq, decide_eq_true_iff]
   omega
 · have hD : D l q = 0 := D_out (by rw [h.len]; omega)
   have HD := Lib.hid hD
   clear hD
   go_enter Tryz.func90, Tryz.ntmps90
   go_wp2
   go_ret
   exact ⟨by rw [HD.out, Nat.zero_div]; rfl, rfl⟩
theorem bit_of (l : List Nat) (hd : Dig l) (q r : Nat) (hr : r ≤ 63) : val l / 2 ^ (64 * q + r) % 2 = D l q / 2 ^ r % 2 := by
 have e : (2 : Nat) ^ (64 * q + r) = 18446744073709551616 ^ q * 2 ^ r := by rw [Nat.pow_add, Nat.pow_mul]
 rw [e, ← Nat.div_div_eq_div_mul, ← hi_div l hd q, hi_step]
 obtain ⟨k, hk⟩ : ∃ k, r + k = 63 := ⟨63 - r, by omega⟩
 have e2 : (18446744073709551616 : Nat) = 2 ^ r * (2 ^ k * 2) := by rw [← Nat.mul_assoc, ← Nat.pow_add, hk]
 rw [e2, Nat.mul_assoc (2 ^ r), Nat.add_mul_div_left _ _ (Nat.pow_pos (by decide)), Nat.mul_comm (2 ^ k) 2, Nat.mul_assoc 2, Nat.add_mul_mod_self_left]
theorem rbit_any (a : Option Addr) (n c : Nat) (l : List Nat) (i : Nat) (w : World) (h : NatAt w a n c l) (hi : i ≤ 16777216) :
 Calls Tryz.prog 90 #[.slice a n c, .int .i64 (i : Int)] w fun e w' => e = .returned (.bool (decide (val l / 2 ^ i % 2 = 1))) ∧ w = w' := by
 have h1 := rbit_in a n c l (i : Int) (i / 64) (i % 64) w h (by omega) (by omega) (by omega) (by omega) (by omega)
 have h2 := bit_of l h.dig (i / 64) (i % 64) (by omega)
 rw [show 64 * (i / 64) + i % 64 = i by omega] at h2
 rw [h2]
 exact h1
theorem twice_bits {x z : Nat} (hx : x < 18446744073709551616) (hz : z ≤ 1) :
 bits .or .u64 (IntKind.u64.wrap ((x : Int) * 2)) (z : Int) = ((z + x * 2 % 18446744073709551616 : Nat) : Int) := by
 have h := rup_or (x := x) (z := z * 2 ^ 63) (r := 1) (by decide) (by omega)
 rw [Nat.mul_div_cancel _ (by decide), Nat.pow_one] at h
 have e : IntKind.u64.wrap ((x : Int) * 2) = ((x * 2 % 18446744073709551616 : Nat) : Int) := by rw [IntKind.wrap_u64]; omega
 rw [e, u64_or_nat _ _ (Nat.mod_lt _ (by decide)) (by omega), h]
theorem twice_step {x z q p A L : Nat} (h : L + p * z = 2 * A + q) : L + p * (z + x * 2 % 18446744073709551616) + p * 18446744073709551616 * (x / 9223372036854775808) = 2 * (A + p * x) + q := by
 have e : x * 2 % 18446744073709551616 + 18446744073709551616 * (x / 9223372036854775808) = x * 2 := by omega
 have : p * (x * 2 % 18446744073709551616 + 18446744073709551616 * (x / 9223372036854775808)) = p * (x * 2) := by rw [e]
 rw [Nat.mul_add, ← Nat.mul_assoc] at this
 rw [Nat.mul_add p z, Nat.mul_add 2]
 have e2 : p * (x * 2) = 2 * (p * x) := by rw [← Nat.mul_assoc, Nat.mul_comm]
 omega
theorem lo_add_set {l' l : List Nat} {k d : Nat} (h : k < l'.length) : lo (l'.set k d) (k + 1) = lo l' k + 18446744073709551616 ^ k * d := by
 rw [lo_step, lo_set (Nat.le_refl _), D_set_same h]
set_option maxRecDepth 100000 in
theorem rtwice_any (b o n c : Nat) (l : List Nat) (one : Bool) (B : Nat) (w : World) (h : OwnAt w B (some ⟨b, o, none⟩) n c l) :
 Calls Tryz.prog 89 #[.slice (some ⟨b, o, none⟩) n c, .bool one] w fun e w' => e = .returned (.tuple #[]) ∧ ∃ z l', OwnAt w' B (some ⟨b, o, none⟩) n c l' ∧ val l' + 18446744073709551616 ^ n * z = 2 * val l + one.toNat ∧ Turned b w w' := by
 have hle := h.le
 have hcle := h.cle
 have hlen := Lib.hid h.len
 have hdig := h.dig
 go_enter Tryz.func89, Tryz.ntmps89
 cases one
 · go_wp2
   go_loopw [4, 5] (fun x i wr => ∃ (k z : Nat) (l' : List Nat), k ≤ n ∧ i = .int .i64 ((k : Nat) : Int) ∧ x = .int .u64 ((z : Nat) : Int) ∧ z ≤ 1 ∧ OwnAt wr B (some ⟨b, o, none⟩) n c l' ∧ (∀ j, k ≤ j → D l' j = D l j) ∧ lo l' k + 18446744073709551616 ^ k * z = 2 * lo l k + Bool.toNat false ∧ Turned b w wr) (fun _ i _ => n - (intOf i).toNat)
   case atStart => exact ⟨0, Bool.toNat false, l, Nat.zero_le _, rfl, rfl, by decide, h, fun _ _ => rfl, by simp [lo_zero], Turned.refl _ _⟩
   case round =>
    obtain ⟨k, z, l', hk, rfl, rfl, hz, hl', hD, hlo, ht⟩ := hrel
    by_cases hlt : k < n
    · rcases hl'.cell with h' | ⟨b', o', he, hc⟩
      · omega
      cases he
      rcases hl'.own with h' | ⟨b', o', he, hB, hf⟩
      · omega
      cases he
      have hc' := hc k hlt
      have hf' := hf k hlt
      rw [hD k (Nat.le_refl _)] at hc'
      have hx := hdig.at_ k
      obtain ⟨x, hx2⟩ : ∃ x, D l k = x := ⟨_, rfl⟩
      rw [hx2] at hc' hx
      have hbits := twice_bits hx hz
      have hdlt : z + x * 2 % 18446744073709551616 < 18446744073709551616 := by omega
      have hz1 : x / 9223372036854775808 ≤ 1 := by omega
      have hst : lo (l'.set k (z + x * 2 % 18446744073709551616)) (k + 1) + 18446744073709551616 ^ (k + 1) * (x / 9223372036854775808) = 2 * lo l (k + 1) + Bool.toNat false := by
       rw [lo_add_set (l := l) (by rw [hl'.len]; exact hlt), lo_step l k, hx2, Nat.pow_succ]
       exact twice_step hlo
      obtain ⟨d, hd⟩ : ∃ d, z + x * 2 % 18446744073709551616 = d := ⟨_, rfl⟩
      rw [hd] at hbits hst hdlt
      have hz2 : (x : Int) / 9223372036854775808 = ((x / 9223372036854775808 : Nat) : Int) := by omega
      obtain ⟨y, hy⟩ : ∃ y, x / 9223372036854775808 = y := ⟨_, rfl⟩
      rw [hy] at hz1 hst hz2
      have HD := Lib.hid hD
      have HS := Lib.hid hst
      have HDL := Lib.hid hdlt
      clear hc hf hD hst hlo hx2 hd hy hx hdlt
      go_wp2
      go_roundw
      case measure => simp [intOf]; omega
      case rel => exact ⟨k + 1, y, l'.set k d, by omega, by go_num, by first | rfl | rw [hz2], hz1, by first | exact hl'.set hlt HDL.out | (rw [hbits]; exact hl'.set hlt HDL.out), fun j hj => by rw [D_set_other (by omega)]; exact HD.out j (by omega), HS.out, by first | exact ht.set _⟩
    · obtain rfl : k = n := by omega
      rw [lo_all (by rw [hl'.len]; exact Nat.le_refl _), lo_all (by rw [hlen.out]; exact Nat.le_refl _)] at hlo
      have HLO := Lib.hid hlo
      clear hD hlo
      go_wp2
      go_end0
      exact ⟨rfl, z, l', hl', HLO.out, ht⟩
 · go_wp2
   go_loopw [4, 5] (fun x i wr => ∃ (k z : Nat) (l' : List Nat), k ≤ n ∧ i = .int .i64 ((k : Nat) : Int) ∧ x = .int .u64 ((z : Nat) : Int) ∧ z ≤ 1 ∧ OwnAt wr B (some ⟨b, o, none⟩) n c l' ∧ (∀ j, k ≤ j → D l' j = D l j) ∧ lo l' k + 18446744073709551616 ^ k * z = 2 * lo l k + Bool.toNat true ∧ Turned b w wr) (fun _ i _ => n - (intOf i).toNat)
   case atStart => exact ⟨0, Bool.toNat true, l, Nat.zero_le _, rfl, rfl, by decide, h, fun _ _ => rfl, by simp [lo_zero], Turned.refl _ _⟩
   case round =>
    obtain ⟨k, z, l', hk, rfl, rfl, hz, hl', hD, hlo, ht⟩ := hrel
    by_cases hlt : k < n
    · rcases hl'.cell with h' | ⟨b', o', he, hc⟩
      · omega
      cases he
      rcases hl'.own with h' | ⟨b', o', he, hB, hf⟩
      · omega
      cases he
      have hc' := hc k hlt
      have hf' := hf k hlt
      rw [hD k (Nat.le_refl _)] at hc'
      have hx := hdig.at_ k
      obtain ⟨x, hx2⟩ : ∃ x, D l k = x := ⟨_, rfl⟩
      rw [hx2] at hc' hx
      have hbits := twice_bits hx hz
      have hdlt : z + x * 2 % 18446744073709551616 < 18446744073709551616 := by omega
      have hz1 : x / 9223372036854775808 ≤ 1 := by omega
      have hst : lo (l'.set k (z + x * 2 % 18446744073709551616)) (k + 1) + 18446744073709551616 ^ (k + 1) * (x / 9223372036854775808) = 2 * lo l (k + 1) + Bool.toNat true := by
       rw [lo_add_set (l := l) (by rw [hl'.len]; exact hlt), lo_step l k, hx2, Nat.pow_succ]
       exact twice_step hlo
      obtain ⟨d, hd⟩ : ∃ d, z + x * 2 % 18446744073709551616 = d := ⟨_, rfl⟩
      rw [hd] at hbits hst hdlt
      have hz2 : (x : Int) / 9223372036854775808 = ((x / 9223372036854775808 : Nat) : Int) := by omega
      obtain ⟨y, hy⟩ : ∃ y, x / 9223372036854775808 = y := ⟨_, rfl⟩
      rw [hy] at hz1 hst hz2
      have HD := Lib.hid hD
      have HS := Lib.hid hst
      have HDL := Lib.hid hdlt
      clear hc hf hD hst hlo hx2 hd hy hx hdlt
      go_wp2
      go_roundw
      case measure => simp [intOf]; omega
      case rel => exact ⟨k + 1, y, l'.set k d, by omega, by go_num, by first | rfl | rw [hz2], hz1, by first | exact hl'.set hlt HDL.out | (rw [hbits]; exact hl'.set hlt HDL.out), fun j hj => by rw [D_set_other (by omega)]; exact HD.out j (by omega), HS.out, by first | exact ht.set _⟩
    · obtain rfl : k = n := by omega
      rw [lo_all (by rw [hl'.len]; exact Nat.le_refl _), lo_all (by rw [hlen.out]; exact Nat.le_refl _)] at hlo
      have HLO := Lib.hid hlo
      clear hD hlo
      go_wp2
      go_end0
      exact ⟨rfl, z, l', hl', HLO.out, ht⟩
set_option maxRecDepth 100000 in
theorem rless_any (b o n c : Nat) (l : List Nat) (a2 : Option Addr) (n2 c2 : Nat) (l2 : List Nat) (B : Nat) (w : World) (h : OwnAt w B (some ⟨b, o, none⟩) n c l) (h2 : NatAt w a2 n2 c2 l2) (hs : n ≤ 549755813888) (hn : 0 < n) (hv : val l2 ≤ val l) :
 Calls Tryz.prog 91 #[.slice (some ⟨b, o, none⟩) n c, .slice a2 n2 c2] w fun e w' => e = .returned (.tuple #[]) ∧ ∃ l', OwnAt w' B (some ⟨b, o, none⟩) n c l' ∧ val l' = val l - val l2 ∧ Turned b w w' := by
 have hk : (digs (val l - val l2)).length ≤ n := Nat.le_trans (digs_len_mono (Nat.sub_le _ _)) h.toNatAt.short
 have hlen := h.len
 have HK := Lib.hid hk
 have HV := Lib.hid hv
 have HLEN := Lib.hid hlen
 clear hk hv hlen
 have hbs : b < w.heap.size ∨ n = 0 := by
  rcases h.toNatAt.parts with h' | ⟨b', o', he, hlt, _⟩
  · exact .inr h'
  · cases he; exact .inl hlt
 go_enter Tryz.func91, Tryz.ntmps91
 go_wp2_with fail
 with_reducible refine (rsub_yes _ _ _ l _ _ _ l2 _ h.toNatAt h2 hs HV.out).mono ?_
 rintro e w1 ⟨a1, n1, c1, rfl, h3, hb⟩
 have hn1 : n1 ≤ n := by have := h3.len; have := HK.out; omega
 have h := h.past hb
 have ht := Turned.ofBelow (b := b) hb
 go_wp2_with fail
 go_loopw [6] (fun i wr => ∃ (k : Nat) (l' : List Nat), k ≤ n ∧ i = .int .i64 ((k : Nat) : Int) ∧ OwnAt wr B (some ⟨b, o, none⟩) n c l' ∧ (∀ j, j < k → D l' j = 0) ∧ Turned b w1 wr) (fun i _ => n - (intOf i).toNat)
 case atStart => exact ⟨0, l, Nat.zero_le _, rfl, h, fun j hj => absurd hj (Nat.not_lt_zero _), Turned.refl _ _⟩
 case round =>
  obtain ⟨k, l', hk, rfl, hl', hD, ht'⟩ := hrel
  by_cases hlt : k < n
  · rcases hl'.cell with h' | ⟨b', o', he, hc⟩
    · omega
    cases he
    rcases hl'.own with h' | ⟨b', o', he, hB, hf⟩
    · omega
    cases he
    have hc' := hc k hlt
    have hf' := hf k hlt
    clear hc hf
    have HD := Lib.hid hD
    clear hD
    go_wp2
    go_roundw
    case rel =>
     refine ⟨k + 1, l'.set k 0, by omega, by go_num, hl'.set hlt (by decide), fun j hj => ?_, ht'.set _⟩
     by_cases e : j = k
     · subst e; rw [D_set_same (by rw [hl'.len]; exact hlt)]
     · rw [D_set_other (fun e' => e e'.symm)]; exact HD.out j (by omega)
    case measure => simp [intOf]; omega
  · have hz : l' = List.replicate n 0 := eq_of_D (by rw [hl'.len, List.length_replicate]) (fun j hj => by rw [D_replicate]; exact hD j (by rw [hl'.len] at hj; omega))
    subst hz
    have h4 := h3.other ht' (by
     rcases h3.own with h0 | ⟨b', o', he, hle, _⟩
     · exact .inl h0
     · refine .inr fun x hx => ?_
       rw [he] at hx; cases hx; rcases hbs with hbs | hbs
       · show b' ≠ b; omega
       · omega)
    have hcp := run_copy_nat hl' h4.toNatAt hn1
    have h5 := hl'.setSome (l2 := digs (val l - val l2)) HK.out (dig_digs _)
    clear hD
    go_wp2
    go_end0
    exact ⟨rfl, _, h5, by rw [val_append, val_digs, List.drop_replicate, val_replicate, Nat.mul_zero, Nat.add_zero], (ht.trans ht').sets _ _⟩
end Go.Proofs.YtoecndogaklngaaGreatDoor
