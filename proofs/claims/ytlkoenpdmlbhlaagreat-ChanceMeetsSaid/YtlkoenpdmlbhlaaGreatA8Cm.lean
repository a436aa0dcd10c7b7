import Derived.Deep.RegionHeld3
import Derived.Deep.DeepFit
import Derived.Test.YtlkoenpdmlbhlaaGreatS0Cm
import Derived.Test.YtlkoenpdmlbhlaaGreatA1Cm
import Derived.Test.YtlkoenpdmlbhlaaGreatA5Cm
import Derived.Test.YtlkoenpdmlbhlaaGreatA6Cm
import Derived.Test.YtlkoenpdmlbhlaaGreatA7Cm
set_option linter.unusedVariables false
set_option linter.unusedSimpArgs false
namespace Go.Proofs.YtlkoenpdmlbhlaaGreat
open Go.RowKit
abbrev Turned (b : Nat) (w w' : World) : Prop := w.grownBy w' (some b)
theorem Turned.refl (b : Nat) (w : World) : Turned b w w := ⟨rfl, rfl, rfl, Nat.le_refl _, fun _ _ _ => rfl⟩
theorem Turned.trans {b : Nat} {w w1 w2 : World} (h : Turned b w w1) (k : Turned b w1 w2) : Turned b w w2 :=
 ⟨k.os.trans h.os, k.tape.trans h.tape, k.output.trans h.output, Nat.le_trans h.size k.size, fun i hi hn => (k.block i (Nat.lt_of_lt_of_le hi h.size) hn).trans (h.block i hi hn)⟩
theorem Turned.ofBelow {b : Nat} {w w' : World} (h : Below w.heap.size w w') : Turned b w w' := ⟨h.os, h.tape, h.output, h.size, fun k hk _ => h.block k hk⟩
theorem Turned.set {b o : Nat} {w w' : World} (h : Turned b w w') (v : Value) : Turned b w (w'.setCell ⟨b, o, none⟩ v) :=
 h.trans ⟨rfl, rfl, rfl, by simp [World.setCell], fun k _ hn => Below.heap_setCell _ _ _ _ (fun e => hn (by rw [e]))⟩
theorem Turned.sets {b : Nat} {w w' : World} (h : Turned b w w') : ∀ (vs : List Value) (o : Nat), Turned b w (w'.setCells b o vs) := by
 intro vs
 induction vs generalizing w' with
 | nil => intro o; exact h
 | cons v r ih => intro o; exact ih (h.set v) (o + 1)
theorem NatAt.other {w w' : World} {b : Nat} {a : Option Addr} {n c : Nat} {l : List Nat} (h : NatAt w a n c l) (hg : Turned b w w') (hne : n = 0 ∨ ∀ x, a = some x → x.block ≠ b) : NatAt w' a n c l := by
 rcases h.parts with h0 | ⟨b1, o1, rfl, hlt, hc⟩
 · exact ⟨h.len, h.le, h.cle, h.dig, .inl h0, h.nilc⟩
 · rcases hne with h0 | hne
   · exact ⟨h.len, h.le, h.cle, h.dig, .inl h0, h.nilc⟩
   refine ⟨h.len, h.le, h.cle, h.dig, .inr ⟨b1, o1, rfl, fun i hi => ?_⟩, h.nilc⟩
   rw [World.cell?_of_block (w := w) (hg.block b1 hlt (fun e => hne _ rfl (by cases e; rfl)))]
   exact hc i hi
theorem OwnAt.other {w w' : World} {B b : Nat} {a : Option Addr} {n c : Nat} {l : List Nat} (h : OwnAt w B a n c l) (hg : Turned b w w') (hne : n = 0 ∨ ∀ x, a = some x → x.block ≠ b) : OwnAt w' B a n c l := by
 refine ⟨h.toNatAt.other hg hne, ?_⟩
 rcases h.own with h0 | ⟨b1, o1, he, hle, hf⟩
 · exact .inl h0
 · rcases h.toNatAt.parts with h0 | ⟨b', o', he', hlt, _⟩
   · exact .inl h0
   · rw [he] at he'
     cases he'
     rcases hne with h0 | hne
     · exact .inl h0
     refine .inr ⟨b1, o1, he, hle, fun i hi => ?_⟩
     rw [World.frozen?_of_block (w := w) (hg.block b1 hlt (fun e => hne _ he (by cases e; rfl)))]
     exact hf i hi
theorem OwnAt.setSome {w : World} {B b o n c : Nat} {l l2 : List Nat} (h : OwnAt w B (some ⟨b, o, none⟩) n c l) (hl : l2.length ≤ n) (hd : Dig l2) :
 OwnAt (w.setCells b o (dv l2)) B (some ⟨b, o, none⟩) n c (l2 ++ l.drop l2.length) := by
 by_cases hn : n = 0
 · subst hn
   obtain rfl : l2 = [] := List.eq_nil_of_length_eq_zero (by omega)
   exact h
 rcases h.cell with h' | ⟨b', o', he, hc⟩
 · omega
 cases he
 rcases h.own with h' | ⟨b', o', he, hB, hf⟩
 · omega
 cases he
 refine ⟨⟨by rw [List.length_append, List.length_drop, h.len]; omega, h.le, h.cle, dig_append.2 ⟨hd, fun x hx => h.dig x (List.mem_of_mem_drop hx)⟩, .inr ⟨b, o, rfl, fun i hi => ?_⟩, h.nilc⟩, .inr ⟨b, o, rfl, hB, fun i hi => by rw [World.frozen?_setCells]; exact hf i hi⟩⟩
 by_cases hin : i < l2.length
 · rw [World.cell?_setCells_in b (dv l2) o w (fun q hq => by rw [dv_length] at hq; rw [hc q (by omega)]; rfl) i (by rw [dv_length]; exact hin)]
   have e1 := dv_at hin
   rw [List.getElem?_eq_getElem (by rw [dv_length]; exact hin)] at e1
   rw [e1]
   unfold D
   rw [List.getD_eq_getElem?_getD, List.getD_eq_getElem?_getD, List.getElem?_append_left hin]
 · rw [World.cell?_setCells_out _ _ _ _ _ (fun _ _ => by rw [dv_length]; show o + i < o ∨ _ ≤ o + i; omega), hc i hi]
   unfold D
   rw [List.getD_eq_getElem?_getD, List.getD_eq_getElem?_getD, List.getElem?_append_right (by omega), List.getElem?_drop, show l2.length + (i - l2.length) = i by omega]
theorem run_copy_nat {w : World} {B b o n c : Nat} {l : List Nat} (h : OwnAt w B (some ⟨b, o, none⟩) n c l) {a : Option Addr} {m cm : Nat} {l2 : List Nat} (h2 : NatAt w a m cm l2) (hm : m ≤ n) (ty : TypeId) :
 (Builtin.copy_ #[23, 23] ty #[.slice (some ⟨b, o, none⟩) n c, .slice a m cm]).run Tryz.prog w = .ok (goInt ((m : Nat) : Int)) (w.setCells b o (dv l2)) := by
 have hisz : (Tryz.prog.info? 99).map (·.size) = some 1 := by kernel_rfl
 by_cases h0 : m = 0
 · subst h0
   have e0 : l2 = [] := List.eq_nil_of_length_eq_zero h2.len
   rw [e0]
   exact run_copy_none w _ _ ty _ _ _ _ _ _ _ Tryz.underlying23 hisz (by simp)
 · rcases h2.cell with h' | ⟨bd, od, rfl, hcd⟩
   · exact absurd h' h0
   have hlen : (dv l2).length = m := by rw [dv_length]; exact h2.len
   have := run_copy_cells (P := Tryz.prog) w 23 23 ty 99 b o n c ⟨bd, od, none⟩ m cm (dv l2) Tryz.underlying23 hisz (by rw [hlen]; exact (Nat.min_eq_left (by omega)).symm)
    (fun j v hj => ?_) (fun j hj => ?_) (fun j hj => ?_) (dv_one _)
   · rw [hlen] at this; exact this
   · have hjl : j < m := by have := (List.getElem?_eq_some_iff.1 hj).1; rwa [hlen] at this
     rw [dv_at (by rw [h2.len]; exact hjl)] at hj
     cases hj
     rw [addr_add]
     exact hcd j hjl
   · rcases h.cell with h' | ⟨b', o', he, hc⟩
     · omega
     · cases he; rw [hc j (by rw [hlen] at hj; omega)]; rfl
   · rcases h.own with h' | ⟨b', o', he, _, hf⟩
     · omega
     · cases he; exact hf j (by rw [hlen] at hj; omega)
set_option maxRecDepth 100000 in
set_option maxHeartbeats 2000000 in
theorem rbit_in (a : Option Addr) (n c : Nat) (l : List Nat) (s : Int) (q r : Nat) (w : World) (h : NatAt w a n c l) (h0 : 0 ≤ s) (h1 : s ≤ 16777216) (hq : s / 64 = q) (hm : s % 64 = r) (hr : r ≤ 63) :
 Calls Tryz.prog 156 #[.slice a n c, .int .i64 s] w fun e w' => e = .returned (.bool (decide (D l q / 2 ^ r % 2 = 1))) ∧ w = w' := by
 by_cases hlt : q < n
 · rcases h.parts with h' | ⟨b, o, rfl, _, hc⟩
   · omega
   have hc' := hc q hlt
   have hd := h.dig.at_ q
   obtain ⟨x, hx⟩ : ∃ x, D l q = x := ⟨_, rfl⟩
   rw [hx] at hc' hd ⊢
   clear hx hc h
   have hrr : ((r : Nat) : Int).toNat = r := Int.toNat_natCast r
   go_enter Tryz.func156, Tryz.ntmps156
   go_wp2
   go_ret
   refine ⟨ret_bool ?_, rfl⟩
   have e1 : (x : Int) / 2 ^ r = ((x / 2 ^ r : Nat) : Int) := by rw [Int.natCast_ediv, Int.natCast_pow]; rfl
   rw [e1]
   generalize x / 2 ^ r = y
   rw [Int.tmod_eq_emod_of_nonneg (by omega)]
   rw [Bool.eq_iff_iff, beq_iff_eq, decide_eq_true_iff]
   omega
 · have hD : D l q = 0 := D_out (by rw [h.len]; omega)
   have HD := Lib.hid hD
   clear hD
   go_enter Tryz.func156, Tryz.ntmps156
   go_wp2
   go_ret
   exact ⟨by rw [HD.out, Nat.zero_div]; rfl, rfl⟩
theorem bit_of (l : List Nat) (hd : Dig l) (q r : Nat) (hr : r ≤ 63) : val l / 2 ^ (64 * q + r) % 2 = D l q / 2 ^ r % 2 := by
 have e : (2 : Nat) ^ (64 * q + r) = 18446744073709551616 ^ q * 2 ^ r := by rw [Nat.pow_add, Nat.pow_mul]
 rw [e, ← Nat.div_div_eq_div_mul, ← hi_div l hd q, hi_step]
 obtain ⟨k, hk⟩ : ∃ k, r + k = 63 := ⟨63 - r, by omega⟩
 have e2 : (18446744073709551616 : Nat) = 2 ^ r * (2 ^ k * 2) := by rw [← Nat.mul_assoc, ← Nat.pow_add, hk]
 rw [e2, Nat.mul_assoc (2 ^ r), Nat.add_mul_div_left _ _ (Nat.pow_pos (by decide)), Nat.mul_comm (2 ^ k) 2, Nat.mul_assoc 2, Nat.add_mul_mod_self_left]
theorem rbit_any (a : Option Addr) (n c : Nat) (l : List Nat) (i : Nat) (w : World) (h : NatAt w a n c l) (hi : i ≤ 16777216) :
 Calls Tryz.prog 156 #[.slice a n c, .int .i64 (i : Int)] w fun e w' => e = .returned (.bool (decide (val l / 2 ^ i % 2 = 1))) ∧ w = w' := by
 have h1 := rbit_in a n c l (i : Int) (i / 64) (i % 64) w h (by omega) (by omega) (by omega) (by omega) (by omega)
 have h2 := bit_of l h.dig (i / 64) (i % 64) (by omega)
 rw [show 64 * (i / 64) + i % 64 = i by omega] at h2
 rw [h2]
 exact h1
theorem twice_bits {x z : Nat} (hx : x < 18446744073709551616) (hz : z ≤ 1) :
 bits .or .u64 (IntKind.u64.wrap ((x : Int) * 2)) (z : Int) = ((z + x * 2 % 18446744073709551616 : Nat) : Int) := by
 have h := rup_or (x := x) (z := z * 2 ^ 63) (r := 1) (by decide) (by omega)
 rw [Nat.mul_div_cancel _ (by decide), Nat.pow_one] at h
 have e : IntKind.u64.wrap ((x : Int) * 2) = ((x * 2 % 18446744073709551616 : Nat) : Int) := by rw [IntKind.wrap_u64]; omega
 rw [e, u64_or_nat _ _ (Nat.mod_lt _ (by decide)) (by omega), h]
theorem twice_step {x z q p A L : Nat} (h : L + p * z = 2 * A + q) : L + p * (z + x * 2 % 18446744073709551616) + p * 18446744073709551616 * (x / 9223372036854775808) = 2 * (A + p * x) + q := by
 have e : x * 2 % 18446744073709551616 + 18446744073709551616 * (x / 9223372036854775808) = x * 2 := by omega
 have : p * (x * 2 % 18446744073709551616 + 18446744073709551616 * (x / 9223372036854775808)) = p * (x * 2) := by rw [e]
 rw [Nat.mul_add, ← Nat.mul_assoc] at this
 rw [Nat.mul_add p z, Nat.mul_add 2]
 have e2 : p * (x * 2) = 2 * (p * x) := by rw [← Nat.mul_assoc, Nat.mul_comm]
 omega
theorem lo_add_set {l' l : List Nat} {k d : Nat} (h : k < l'.length) : lo (l'.set k d) (k + 1) = lo l' k + 18446744073709551616 ^ k * d := by
 rw [lo_step, lo_set (Nat.le_refl _), D_set_same h]
set_option maxRecDepth 100000 in
theorem rtwice_any (b o n c : Nat) (l : List Nat) (one : Bool) (B : Nat) (w : World) (h : OwnAt w B (some ⟨b, o, none⟩) n c l) :
 Calls Tryz.prog 155 #[.slice (some ⟨b, o, none⟩) n c, .bool one] w fun e w' => e = .returned (.tuple #[]) ∧ ∃ z l', OwnAt w' B (some ⟨b, o, none⟩) n c l' ∧ val l' + 18446744073709551616 ^ n * z = 2 * val l + one.toNat ∧ Turned b w w' := by
 have hle := h.le
 have hcle := h.cle
 have hlen := Lib.hid h.len
 have hdig := h.dig
 go_enter Tryz.func155, Tryz.ntmps155
 cases one
 · go_wp2
   go_loopw [4, 5] (fun x i wr => ∃ (k z : Nat) (l' : List Nat), k ≤ n ∧ i = .int .i64 ((k : Nat) : Int) ∧ x = .int .u64 ((z : Nat) : Int) ∧ z ≤ 1 ∧ OwnAt wr B (some ⟨b, o, none⟩) n c l' ∧ (∀ j, k ≤ j → D l' j = D l j) ∧ lo l' k + 18446744073709551616 ^ k * z = 2 * lo l k + Bool.toNat false ∧ Turned b w wr) (fun _ i _ => n - (intOf i).toNat)
   case atStart => exact ⟨0, Bool.toNat false, l, Nat.zero_le _, rfl, rfl, by decide, h, fun _ _ => rfl, by simp [lo_zero], Turned.refl _ _⟩
   case round =>
    obtain ⟨k, z, l', hk, rfl, rfl, hz, hl', hD, hlo, ht⟩ := hrel
    by_cases hlt : k < n
    · rcases hl'.cell with h' | ⟨b', o', he, hc⟩
      · omega
      cases he
      rcases hl'.own with h' | ⟨b', o', he, hB, hf⟩
      · omega
      cases he
      have hc' := hc k hlt
      have hf' := hf k hlt
      rw [hD k (Nat.le_refl _)] at hc'
      have hx := hdig.at_ k
      obtain ⟨x, hx2⟩ : ∃ x, D l k = x := ⟨_, rfl⟩
      rw [hx2] at hc' hx
      have hbits := twice_bits hx hz
      have hdlt : z + x * 2 % 18446744073709551616 < 18446744073709551616 := by omega
      have hz1 : x / 9223372036854775808 ≤ 1 := by omega
      have hst : lo (l'.set k (z + x * 2 % 18446744073709551616)) (k + 1) + 18446744073709551616 ^ (k + 1) * (x / 9223372036854775808) = 2 * lo l (k + 1) + Bool.toNat false := by
       rw [lo_add_set (l := l) (by rw [hl'.len]; exact hlt), lo_step l k, hx2, Nat.pow_succ]
       exact twice_step hlo
      obtain ⟨d, hd⟩ : ∃ d, z + x * 2 % 18446744073709551616 = d := ⟨_, rfl⟩
      rw [hd] at hbits hst hdlt
      have hz2 : (x : Int) / 9223372036854775808 = ((x / 9223372036854775808 : Nat) : Int) := by omega
      obtain ⟨y, hy⟩ : ∃ y, x / 9223372036854775808 = y := ⟨_, rfl⟩
      rw [hy] at hz1 hst hz2
      have HD := Lib.hid hD
      have HS := Lib.hid hst
      have HDL := Lib.hid hdlt
      clear hc hf hD hst hlo hx2 hd hy hx hdlt
      go_wp2
      go_roundw
      case measure => simp [intOf]; omega
      case rel => exact ⟨k + 1, y, l'.set k d, by omega, by go_num, by first | rfl | rw [hz2], hz1, by first | exact hl'.set hlt HDL.out | (rw [hbits]; exact hl'.set hlt HDL.out), fun j hj => by rw [D_set_other (by omega)]; exact HD.out j (by omega), HS.out, by first | exact ht.set _⟩
    · obtain rfl : k = n := by omega
      rw [lo_all (by rw [hl'.len]; exact Nat.le_refl _), lo_all (by rw [hlen.out]; exact Nat.le_refl _)] at hlo
      have HLO := Lib.hid hlo
      clear hD hlo
      go_wp2
      go_end0
      exact ⟨rfl, z, l', hl', HLO.out, ht⟩
 · go_wp2
   go_loopw [4, 5] (fun x i wr => ∃ (k z : Nat) (l' : List Nat), k ≤ n ∧ i = .int .i64 ((k : Nat) : Int) ∧ x = .int .u64 ((z : Nat) : Int) ∧ z ≤ 1 ∧ OwnAt wr B (some ⟨b, o, none⟩) n c l' ∧ (∀ j, k ≤ j → D l' j = D l j) ∧ lo l' k + 18446744073709551616 ^ k * z = 2 * lo l k + Bool.toNat true ∧ Turned b w wr) (fun _ i _ => n - (intOf i).toNat)
   case atStart => exact ⟨0, Bool.toNat true, l, Nat.zero_le _, rfl, rfl, by decide, h, fun _ _ => rfl, by simp [lo_zero], Turned.refl _ _⟩
   case round =>
    obtain ⟨k, z, l', hk, rfl, rfl, hz, hl', hD, hlo, ht⟩ := hrel
    by_cases hlt : k < n
    · rcases hl'.cell with h' | ⟨b', o', he, hc⟩
      · omega
      cases he
      rcases hl'.own with h' | ⟨b', o', he, hB, hf⟩
      · omega
      cases he
      have hc' := hc k hlt
      have hf' := hf k hlt
      rw [hD k (Nat.le_refl _)] at hc'
      have hx := hdig.at_ k
      obtain ⟨x, hx2⟩ : ∃ x, D l k = x := ⟨_, rfl⟩
      rw [hx2] at hc' hx
      have hbits := twice_bits hx hz
      have hdlt : z + x * 2 % 18446744073709551616 < 18446744073709551616 := by omega
      have hz1 : x / 9223372036854775808 ≤ 1 := by omega
      have hst : lo (l'.set k (z + x * 2 % 18446744073709551616)) (k + 1) + 18446744073709551616 ^ (k + 1) * (x / 9223372036854775808) = 2 * lo l (k + 1) + Bool.toNat true := by
       rw [lo_add_set (l := l) (by rw [hl'.len]; exact hlt), lo_step l k, hx2, Nat.pow_succ]
       exact twice_step hlo
      obtain ⟨d, hd⟩ : ∃ d, z + x * 2 % 18446744073709551616 = d := ⟨_, rfl⟩
      rw [hd] at hbits hst hdlt
      have hz2 : (x : Int) / 9223372036854775808 = ((x / 9223372036854775808 : Nat) : Int) := by omega
      obtain ⟨y, hy⟩ : ∃ y, x / 9223372036854775808 = y := ⟨_, rfl⟩
      rw [hy] at hz1 hst hz2
      have HD := Lib.hid hD
      have HS := Lib.hid hst
      have HDL := Lib.hid hdlt
      clear hc hf hD hst hlo hx2 hd hy hx hdlt
      go_wp2
      go_roundw
      case measure => simp [intOf]; omega
      case rel => exact ⟨k + 1, y, l'.set k d, by omega, by go_num, by first | rfl | rw [hz2], hz1, by first | exact hl'.set hlt HDL.out | (rw [hbits]; exact hl'.set hlt HDL.out), fun j hj => by rw [D_set_other (by omega)]; exact HD.out j (by omega), HS.out, by first | exact ht.set _⟩
    · obtain rfl : k = n := by omega
      rw [lo_all (by rw [hl'.len]; exact Nat.le_refl _), lo_all (by rw [hlen.out]; exact Nat.le_refl _)] at hlo
      have HLO := Lib.hid hlo
      clear hD hlo
      go_wp2
      go_end0
      exact ⟨rfl, z, l', hl', HLO.out, ht⟩
set_option maxRecDepth 100000 in
theorem rless_any (b o n c : Nat) (l : List Nat) (a2 : Option Addr) (n2 c2 : Nat) (l2 : List Nat) (B : Nat) (w : World) (h : OwnAt w B (some ⟨b, o, none⟩) n c l) (h2 : NatAt w a2 n2 c2 l2) (hs : n ≤ 549755813888) (hn : 0 < n) (hv : val l2 ≤ val l) :
 Calls Tryz.prog 157 #[.slice (some ⟨b, o, none⟩) n c, .slice a2 n2 c2] w fun e w' => e = .returned (.tuple #[]) ∧ ∃ l', OwnAt w' B (some ⟨b, o, none⟩) n c l' ∧ val l' = val l - val l2 ∧ Turned b w w' := by
 have hk : (digs (val l - val l2)).length ≤ n := Nat.le_trans (digs_len_mono (Nat.sub_le _ _)) h.toNatAt.short
 have hlen := h.len
 have HK := Lib.hid hk
 have HV := Lib.hid hv
 have HLEN := Lib.hid hlen
 clear hk hv hlen
 have hbs : b < w.heap.size ∨ n = 0 := by
  rcases h.toNatAt.parts with h' | ⟨b', o', he, hlt, _⟩
  · exact .inr h'
  · cases he; exact .inl hlt
 go_enter Tryz.func157, Tryz.ntmps157
 go_wp2_with fail
 with_reducible refine (rsub_yes _ _ _ l _ _ _ l2 _ h.toNatAt h2 hs HV.out).mono ?_
 rintro e w1 ⟨a1, n1, c1, rfl, h3, hb⟩
 have hn1 : n1 ≤ n := by have := h3.len; have := HK.out; omega
 have h := h.past hb
 have ht := Turned.ofBelow (b := b) hb
 go_wp2_with fail
 go_loopw [6] (fun i wr => ∃ (k : Nat) (l' : List Nat), k ≤ n ∧ i = .int .i64 ((k : Nat) : Int) ∧ OwnAt wr B (some ⟨b, o, none⟩) n c l' ∧ (∀ j, j < k → D l' j = 0) ∧ Turned b w1 wr) (fun i _ => n - (intOf i).toNat)
 case atStart => exact ⟨0, l, Nat.zero_le _, rfl, h, fun j hj => absurd hj (Nat.not_lt_zero _), Turned.refl _ _⟩
 case round =>
  obtain ⟨k, l', hk, rfl, hl', hD, ht'⟩ := hrel
  by_cases hlt : k < n
  · rcases hl'.cell with h' | ⟨b', o', he, hc⟩
    · omega
    cases he
    rcases hl'.own with h' | ⟨b', o', he, hB, hf⟩
    · omega
    cases he
    have hc' := hc k hlt
    have hf' := hf k hlt
    clear hc hf
    have HD := Lib.hid hD
    clear hD
    go_wp2
    go_roundw
    case rel =>
     refine ⟨k + 1, l'.set k 0, by omega, by go_num, hl'.set hlt (by decide), fun j hj => ?_, ht'.set _⟩
     by_cases e : j = k
     · subst e; rw [D_set_same (by rw [hl'.len]; exact hlt)]
     · rw [D_set_other (fun e' => e e'.symm)]; exact HD.out j (by omega)
    case measure => simp [intOf]; omega
  · have hz : l' = List.replicate n 0 := eq_of_D (by rw [hl'.len, List.length_replicate]) (fun j hj => by rw [D_replicate]; exact hD j (by rw [hl'.len] at hj; omega))
    subst hz
    have h4 := h3.other ht' (by
     rcases h3.own with h0 | ⟨b', o', he, hle, _⟩
     · exact .inl h0
     · refine .inr fun x hx => ?_
       rw [he] at hx; cases hx; rcases hbs with hbs | hbs
       · show b' ≠ b; omega
       · omega)
    have hcp := run_copy_nat hl' h4.toNatAt hn1
    have h5 := hl'.setSome (l2 := digs (val l - val l2)) HK.out (dig_digs _)
    clear hD
    go_wp2
    go_end0
    exact ⟨rfl, _, h5, by rw [val_append, val_digs, List.drop_replicate, val_replicate, Nat.mul_zero, Nat.add_zero], (ht.trans ht').sets _ _⟩
end Go.Proofs.YtlkoenpdmlbhlaaGreat
set_option linter.unusedVariables false
set_option linter.unusedSimpArgs false
namespace Go.Proofs.YtlkoenpdmlbhlaaGreat
open Go.RowKit
theorem upon_make_nat {P : Program} {w : World} {o : Oper} {a : Act} {K : Act → World → Prop} {Q : Exit → Act → World → Prop} (T E : Nat) (i : TypeInfo)
 (ht : P.underlying T = some (.slice E)) (hi : P.info? E = some i) (hz : i.zero = some (.int .u64 0)) (hsize : i.size = 1) (hby : i.bytes = 8)
 (n : Nat) (N : Int) (hN : N = (n : Int)) (hs : n ≤ 1099511627776)
 (h : ∀ w' b, RowKit.Hid (b = w.heap.size) → OwnAt w' w.heap.size (some ⟨b, 0, none⟩) n n (List.replicate n 0) → Below w.heap.size w w' → K (a.put o.dst (.slice (some ⟨b, 0, none⟩) n n)) w') :
 Oper.upon P o a K Q (((Instr.makeSlice T (.int .i64 N) (.int .i64 N)).run P w).andThen fun a w' => Result.ok (Next.value a) w') := by
 subst hN
 obtain ⟨w', hrun, r1, r2⟩ := run_make_full (P := P) w w.heap.size T E i (.int .u64 0) 1 ht hi hz hsize .i64 .i64 n (by rw [hby]; omega) (by simp only [maxLen]; omega) (Nat.le_refl _)
 rw [hrun]
 exact h w' _ (Lib.hid rfl) (made_own (by rw [← toList_madeCells_one]; rw [Nat.mul_one] at r1; exact r1)) ((Below.refl _ _).grown r2 (Nat.le_refl _) (fun k e => by cases e))
set_option maxRecDepth 100000 in
theorem rdiv_less (a : Option Addr) (n c : Nat) (l : List Nat) (a2 : Option Addr) (n2 c2 : Nat) (l2 : List Nat) (w : World) (h : NatAt w a n c l) (h2 : NatAt w a2 n2 c2 l2) (hs : n ≤ 200000) (hs2 : n2 ≤ 200000) (hz : val l2 ≠ 0) (hv : nbits (val l) < nbits (val l2)) :
 Calls Tryz.prog 120 #[.slice a n c, .slice a2 n2 c2] w (RetDiv w (val l / val l2) (val l % val l2)) := by
 have hlt : val l < val l2 := by
  rcases Nat.lt_or_ge (val l) (val l2) with h' | h'
  · exact h'
  · have := nbits_le (n := val l2) (k := nbits (val l)) (Nat.lt_of_le_of_lt h' (nbits_lt _)); omega
 rw [Nat.div_eq_of_lt hlt, Nat.mod_eq_of_lt hlt]
 have hz4 := digsN_pos hz
 have HZ := Lib.hid hz4
 have HV := Lib.hid hv
 clear hz hv hlt hz4
 go_enter Tryz.func120, Tryz.ntmps120
 go_wp2_with fail
 with_reducible refine (rtrim_any _ _ _ l2 _ h2 (by omega)).mono ?_
 rintro e w2 ⟨a4, n4, c4, rfl, h4, hb⟩
 have t4 : ((n4 : Int) == 0) = false := beq_pos (by have := h4.len; have := HZ.out; omega)
 have b4 : n4 ≤ n2 := by have e1 := h4.len; have e2 := h2.short; omega
 have h := h.past hb
 go_wp2_with fail
 with_reducible refine (rlen_any _ _ _ l _ h (by omega)).mono ?_
 rintro e w5 ⟨rfl, hb5⟩
 have h := h.past hb5
 have h4 := h4.past hb5
 have hb := below_later hb hb5
 clear hb5
 go_wp2_with fail
 with_reducible refine (rlen_any _ _ _ (digs (val l2)) _ h4.toNatAt (by omega)).mono ?_
 rintro e w6 ⟨rfl, hb6⟩
 rw [val_digs]
 have h := h.past hb6
 have hb := below_later hb hb6
 clear hb6
 have tn : (nbits (val l) : Int) - (nbits (val l2) : Int) < 0 := by have := HV.out; omega
 have k1 := nbits_le_len h.dig
 have k2 := nbits_le_len h2.dig
 rw [h.len] at k1
 rw [h2.len] at k2
 go_wp2_with fail
 with_reducible refine (rtrim_any _ _ _ l _ h (by omega)).mono ?_
 rintro e w7 ⟨a7, n7, c7, rfl, h7, hb7⟩
 go_wp2
 go_ret3
 exact ⟨_, _, _, _, _, _, rfl, OwnAt.nil _ _, h7.mono hb.size, below_later hb hb7⟩
theorem top_none {L p z R : Nat} (h : L + p * z = R) (hR : R < p) : L = R := by
 rcases Nat.eq_zero_or_pos z with h0 | h0
 · rw [h0] at h; omega
 · have := Nat.le_mul_of_pos_right p h0
   omega
theorem q_bit {qs : List Nat} (hd : Dig qs) {A B i : Nat} (hlt : i / 64 < qs.length) (hq : val qs = A / 2 ^ (i + 1) / B * 2 ^ (i + 1)) (he : A / 2 ^ i / B = 2 * (A / 2 ^ (i + 1) / B) + 1) :
 bits .or .u64 (D qs (i / 64) : Int) (IntKind.u64.wrap ((2 : Int) ^ (i % 64))) = ((D qs (i / 64) + 2 ^ (i % 64) : Nat) : Int) ∧ D qs (i / 64) + 2 ^ (i % 64) < 18446744073709551616 ∧ val (qs.set (i / 64) (D qs (i / 64) + 2 ^ (i % 64))) = A / 2 ^ i / B * 2 ^ i := by
 have hdl := hd.at_ (i / 64)
 have hlow := low_digit hd (M := A / 2 ^ (i + 1) / B) (q := i / 64) (r := i % 64) (by omega) (by rw [hq]; congr 2; omega)
 obtain ⟨o1, o2⟩ := or_free (by omega) hlow hdl
 have hset := val_set (l := qs) (k := i / 64) (d := D qs (i / 64) + 2 ^ (i % 64)) (e := 2 ^ (i % 64)) hlt rfl
 have hpl : (2 : Nat) ^ (i % 64) < 18446744073709551616 := Nat.lt_of_le_of_lt (Nat.pow_le_pow_right (by decide) (show i % 64 ≤ 63 by omega)) (by decide)
 have hor := u64_or_nat (D qs (i / 64)) (2 ^ (i % 64)) hdl hpl
 rw [o1] at hor
 have hwr : IntKind.u64.wrap ((2 : Int) ^ (i % 64)) = ((2 ^ (i % 64) : Nat) : Int) := by
  have e : ((2 : Int) ^ (i % 64)) = ((2 ^ (i % 64) : Nat) : Int) := by rw [Int.natCast_pow]; rfl
  rw [e, IntKind.wrap_u64]
  generalize 2 ^ (i % 64) = y at hpl ⊢
  omega
 refine ⟨by rw [hwr]; exact hor, o2, ?_⟩
 rw [hset, hq, he]
 have e3 : (18446744073709551616 : Nat) ^ (i / 64) * 2 ^ (i % 64) = 2 ^ i := by
  rw [show (18446744073709551616 : Nat) = 2 ^ 64 by decide, ← Nat.pow_mul, ← Nat.pow_add, show 64 * (i / 64) + i % 64 = i by omega]
 generalize A / 2 ^ (i + 1) / B = Q
 rw [e3, Nat.pow_succ]
 generalize 2 ^ i = p
 rw [Nat.add_mul, Nat.one_mul]
 have : Q * (p * 2) = 2 * Q * p := by rw [Nat.mul_comm p 2, ← Nat.mul_assoc, Nat.mul_comm Q 2]
 omega
theorem toNat_bit (x : Nat) : (decide (x % 2 = 1)).toNat = x % 2 := by
 rcases Nat.mod_two_eq_zero_or_one x with h | h <;> simp [h]
set_option maxRecDepth 100000 in
set_option maxHeartbeats 4000000 in
theorem rdiv_ge (a : Option Addr) (n c : Nat) (l : List Nat) (a2 : Option Addr) (n2 c2 : Nat) (l2 : List Nat) (w : World) (h : NatAt w a n c l) (h2 : NatAt w a2 n2 c2 l2) (hs : n ≤ 200000) (hs2 : n2 ≤ 200000) (hz : val l2 ≠ 0) (hv : nbits (val l2) ≤ nbits (val l)) :
 Calls Tryz.prog 120 #[.slice a n c, .slice a2 n2 c2] w (RetDiv w (val l / val l2) (val l % val l2)) := by
 obtain ⟨i0, hi, hz0, hz1, hz2⟩ := info_parts info99
 have hz4 := digsN_pos hz
 have hB : 0 < val l2 := Nat.pos_of_ne_zero hz
 have hbeg := div_begin hB hv
 have hdl := h.dig
 have k1 := nbits_le_len h.dig
 rw [h.len] at k1
 have hnB1 : 0 < nbits (val l2) := nbits_gt (by rw [Nat.pow_zero]; exact hB)
 have hn0 : 0 < n := by omega
 have HZ := Lib.hid hz4
 have HBEG := Lib.hid hbeg
 clear hz hz4 hbeg
 go_enter Tryz.func120, Tryz.ntmps120
 go_wp2_with fail
 with_reducible refine (rtrim_any _ _ _ l2 _ h2 (by omega)).mono ?_
 rintro e w2 ⟨a4, n4, c4, rfl, h4, hb⟩
 have hn4 : 0 < n4 := by have := h4.len; have := HZ.out; omega
 have t4 : ((n4 : Int) == 0) = false := beq_pos (by omega)
 have b4 : n4 ≤ n2 := by have e1 := h4.len; have e2 := h2.short; omega
 have h := h.past hb
 have k2 := nbits_le_len h2.dig
 rw [h2.len] at k2
 clear h2
 obtain ⟨nA, hnA⟩ : ∃ m, nbits (val l) = m := ⟨_, rfl⟩
 obtain ⟨nB, hnB⟩ : ∃ m, nbits (val l2) = m := ⟨_, rfl⟩
 rw [hnA, hnB] at HBEG
 rw [hnA] at k1 hv
 rw [hnB] at hv k2 hnB1
 have HNA := Lib.hid hnA
 have HNB := Lib.hid hnB
 clear hnA hnB
 go_wp2_with fail
 with_reducible refine (rlen_any _ _ _ l _ h (by omega)).mono ?_
 rintro e w5 ⟨rfl, hb5⟩
 rw [HNA.out]
 have h := h.past hb5
 have h4 := h4.past hb5
 have hb := below_later hb hb5
 clear hb5
 go_wp2_with fail
 with_reducible refine (rlen_any _ _ _ (digs (val l2)) _ h4.toNatAt (by omega)).mono ?_
 rintro e w6 ⟨rfl, hb6⟩
 rw [val_digs, HNB.out]
 have h := h.past hb6
 have h4 := h4.toNatAt.past hb6
 have hb := below_later hb hb6
 clear hb6
 have tn : (0 : Int) ≤ (nA : Int) - (nB : Int) := by omega
 have tn2 : ¬ ((nA : Int) - (nB : Int) < 0) := by omega
 go_wp2_with fail
 have hwr : IntKind.i64.wrap ((n4 : Int) + 1) = ((n4 + 1 : Nat) : Int) := by rw [show (n4 : Int) + 1 = ((n4 + 1 : Nat) : Int) by omega]; exact IntWalk.i64_in _ (by omega)
 have HWR := Lib.hid hwr
 clear hwr
 go_region_held3 (fun w' => True ∧ Below w6.heap.size w6 w')
  (first
    | exact ⟨trivial, (Below.refl _ _).drew⟩
    | (rename _ ∧ Below w6.heap.size w6 _ => hT
       first
        | exact ⟨trivial, below_later hT.2 hb9⟩
        | exact ⟨trivial, hT.2.drew⟩)
    | assumption)
  (first
    | (refine upon_make_nat 23 99 i0 Tryz.underlying23 hi hz0 hz1 hz2 n _ rfl (by omega) ?_
       rename _ ∧ Below w6.heap.size w6 _ => hT
       intro w9 bq hbq h9 hb9
       try (have hne : bq ≠ br := by
             rcases h10.toNatAt.parts with h' | ⟨b', o', he, hlt, _⟩
             · omega
             · cases he; rw [hbq.out]; exact Nat.ne_of_gt hlt
            have h10 := h10.past hb9)
       have h9 := h9.mono hT.2.size
       have hbq1 : w6.heap.size ≤ bq := by rw [hbq.out]; exact hT.2.size)
    | (refine upon_make_nat 23 99 i0 Tryz.underlying23 hi hz0 hz1 hz2 (n4 + 1) _ HWR.out (by omega) ?_
       rename _ ∧ Below w6.heap.size w6 _ => hT
       intro w9 br hbr h10 hb9
       try (have hne : bq ≠ br := by
             rcases h9.toNatAt.parts with h' | ⟨b', o', he, hlt, _⟩
             · omega
             · cases he; rw [hbr.out]; exact Nat.ne_of_lt hlt
            have h9 := h9.past hb9)
       have h10 := h10.mono hT.2.size
       have hbr1 : w6.heap.size ≤ br := by rw [hbr.out]; exact hT.2.size))
 all_goals
  rename _ ∧ Below w6.heap.size w6 _ => hS
  have hW := hS.2
  clear hS hi hz0 hz1 hz2
  have hA := h.past hW
  have hBd := h4.past hW
  have hsn : ((nA : Int) - (nB : Int) + 1).toNat = nA - nB + 1 := by omega
  have HSN := Lib.hid hsn
  clear hsn
  go_wp2_with fail
  with_reducible refine (rshiftDown_any _ _ _ l _ _ hA (by omega) (by omega) (by omega)).mono ?_
  rintro e w11 ⟨a7, n7, c7, rfl, h7, hb11⟩
  rw [HSN.out] at h7
  have hW := below_later hW hb11
  have h9 := h9.past hb11
  have h10 := h10.past hb11
  have hn7 : n7 ≤ n4 := by rw [← h7.len, ← h4.len]; exact digs_len_mono (Nat.le_of_lt HBEG.out)
  have hcp := run_copy_nat h10 h7.toNatAt (by omega)
  obtain ⟨X, hX⟩ : ∃ X, val l / 2 ^ (nA - nB + 1) = X := ⟨_, rfl⟩
  rw [hX] at hcp h7
  have hRs := h10.setSome (l2 := digs X) (by rw [h7.len]; omega) (dig_digs _)
  have hQs := h9.setOther (bu := br) (s := 0) hne (dv (digs X))
  have hWs := hW.trans (below_setCells w6.heap.size br hbr1 (dv (digs X)) 0 w11)
  obtain ⟨Wc, hWc⟩ : ∃ Wc, w11.setCells br 0 (dv (digs X)) = Wc := ⟨_, rfl⟩
  rw [hWc] at hRs hQs hWs hcp
  have hr0 : val (digs X ++ (List.replicate (n4 + 1) 0).drop (digs X).length) = X := by rw [val_append, val_digs, List.drop_replicate, val_replicate, Nat.mul_zero, Nat.add_zero]
  obtain ⟨rs0, hrs0⟩ : ∃ rs0, digs X ++ (List.replicate (n4 + 1) 0).drop (digs X).length = rs0 := ⟨_, rfl⟩
  rw [hrs0] at hRs hr0
  have HX := Lib.hid hX
  have HR0 := Lib.hid hr0
  clear h9 h10 h7 hWc hrs0 hX hr0 hW hb11 hA hBd
  go_wp2_with fail
  go_loopw [12] (fun i wr => ∃ (k : Nat) (qs rs : List Nat), k ≤ nA - nB + 1 ∧ i = .int .i64 ((k : Int) - 1) ∧ OwnAt wr w6.heap.size (some ⟨bq, 0, none⟩) n n qs ∧ OwnAt wr w6.heap.size (some ⟨br, 0, none⟩) (n4 + 1) (n4 + 1) rs ∧ val qs = val l / 2 ^ k / val l2 * 2 ^ k ∧ val rs = val l / 2 ^ k % val l2 ∧ Below w6.heap.size w6 wr) (fun i _ => (intOf i + 1).toNat)
  case atStart =>
   exact ⟨nA - nB + 1, _, _, Nat.le_refl _, by congr 1; omega, hQs, hRs, by rw [val_replicate, HX.out, Nat.div_eq_of_lt (by rw [← HX.out]; exact HBEG.out), Nat.zero_mul], by rw [HR0.out, HX.out, Nat.mod_eq_of_lt (by rw [← HX.out]; exact HBEG.out)], hWs⟩
  case round =>
   clear hQs hRs hWs
   obtain ⟨k, qs, rs, hk, rfl, hQ, hR, hqv, hrv, hW⟩ := hrel
   by_cases hlt : 0 < k
   · obtain ⟨i, rfl⟩ : ∃ i, k = i + 1 := ⟨k - 1, by omega⟩
     obtain ⟨s, hsi⟩ : ∃ s : Int, s = (i : Int) := ⟨_, rfl⟩
     have ei : ((i + 1 : Nat) : Int) - 1 = s := by omega
     rw [ei]
     have s0 : 0 ≤ s := by omega
     have s1 : s ≤ 16777216 := by omega
     have sq : s / 64 = ((i / 64 : Nat) : Int) := by omega
     have sr : s % 64 = ((i % 64 : Nat) : Int) := by omega
     have hiq : i / 64 < n := by omega
     have hbit := rbit_any a n c l i wr (h.past hW) (by omega)
     rw [← hsi] at hbit
     obtain ⟨one, hone⟩ : ∃ one, decide (val l / 2 ^ i % 2 = 1) = one := ⟨_, rfl⟩
     have hone2 : one.toNat = val l / 2 ^ i % 2 := by rw [← hone]; exact toNat_bit _
     rw [hone] at hbit
     obtain ⟨R, hRR⟩ : ∃ R, 2 * (val l / 2 ^ (i + 1) % val l2) + val l / 2 ^ i % 2 = R := ⟨_, rfl⟩
     obtain ⟨r1, r2, r3⟩ := bit_div (A := val l) (i := i) hB hRR.symm
     have hBl : val l2 < 18446744073709551616 ^ n4 := digs_length_le.1 (by rw [h4.len]; exact Nat.le_refl _)
     have hRl : R < 18446744073709551616 ^ (n4 + 1) := by rw [Nat.pow_succ]; omega
     have HRR := Lib.hid hRR
     have HR1 := Lib.hid r1
     have HR2 := Lib.hid r2
     have HR3 := Lib.hid r3
     have HRL := Lib.hid hRl
     have HON := Lib.hid hone2
     have HSI := Lib.hid hsi
     have HBIT := Lib.hid hbit
     have HQV := Lib.hid hqv
     have HRV := Lib.hid hrv
     clear hRR r1 r2 r3 hBl hRl hone hone2 hsi ei hbit hqv hrv
     go_wp2_with fail
     with_reducible refine (HBIT.out).mono ?_
     rintro e w' ⟨rfl, rfl⟩
     go_wp2_with fail
     with_reducible refine (rtwice_any br 0 (n4 + 1) (n4 + 1) rs one w6.heap.size wr hR).mono ?_
     rintro e w12 ⟨rfl, z, rs1, hR1, hv1, ht1⟩
     have hv2 : val rs1 = R := top_none (by rw [HRV.out, HON.out, HRR.out] at hv1; exact hv1) HRL.out
     have hQ1 := hQ.other ht1 (.inr (fun x hx => by cases hx; exact hne))
     have hW1 : Below w6.heap.size w6 w12 := hW.grown ht1 hW.size (fun k e => by cases e; exact hbr1)
     have HV2 := Lib.hid hv2
     clear hv1 hv2 hQ hR hW ht1
     have hA1 := h.past hW1
     have hB1 := h4.past hW1
     by_cases hc : R < val l2
     · have hcm : cmpI R (val l2) = -1 := cmpI_lt hc
       have HCM := Lib.hid hcm
       obtain ⟨e1, e2⟩ := HR2.out hc
       have E1 := Lib.hid e1
       have E2 := Lib.hid e2
       clear hcm e1 e2 hc
       go_wp2_with fail
       with_reducible refine (rcmp_any _ _ _ rs1 _ _ _ (digs (val l2)) _ hR1.toNatAt hB1).mono ?_
       rintro e w' ⟨rfl, rfl⟩
       rw [val_digs, HV2.out, HCM.out]
       go_wp2
       go_roundw
       case measure => simp [intOf] <;> omega
       case rel => exact ⟨i, qs, rs1, by omega, by first | (rw [HSI.out]; done) | (rw [HSI.out]; go_num), hQ1, hR1, by rw [HQV.out, E2.out, Nat.pow_succ]; ac_rfl, by rw [HV2.out, E1.out], hW1⟩
     · have hcm : 0 ≤ cmpI R (val l2) := by
        rcases Int.lt_or_le (cmpI R (val l2)) 0 with h' | h'
        · exact absurd (cmpI_neg.1 h') hc
        · exact h'
       obtain ⟨e1, e2⟩ := HR3.out (by omega)
       have hle : val (digs (val l2)) ≤ val rs1 := by rw [val_digs, HV2.out]; omega
       have E1 := Lib.hid e1
       have E2 := Lib.hid e2
       have HLE := Lib.hid hle
       clear e1 e2 hc hle
       go_wp2_with fail
       with_reducible refine (rcmp_any _ _ _ rs1 _ _ _ (digs (val l2)) _ hR1.toNatAt hB1).mono ?_
       rintro e w' ⟨rfl, rfl⟩
       rw [val_digs, HV2.out]
       go_wp2_with fail
       with_reducible refine (rless_any br 0 (n4 + 1) (n4 + 1) rs1 _ _ _ (digs (val l2)) w6.heap.size _ hR1 hB1 (by omega) (by omega) HLE.out).mono ?_
       rintro e w13 ⟨rfl, rs2, hR2, hv3, ht2⟩
       rw [val_digs, HV2.out] at hv3
       have hQ2 := hQ1.other ht2 (.inr (fun x hx => by cases hx; exact hne))
       have hW2 : Below w6.heap.size w6 w13 := hW1.grown ht2 hW1.size (fun k e => by cases e; exact hbr1)
       have HV3 := Lib.hid hv3
       clear hv3 hQ1 hR1 ht2 hA1 hB1 hW1
       rcases hQ2.cell with h' | ⟨b', o', he, hco⟩
       · omega
       cases he
       rcases hQ2.own with h' | ⟨b', o', he, hBo, hfo⟩
       · omega
       cases he
       have hco' := hco (i / 64) hiq
       have hfo' := hfo (i / 64) hiq
       clear hco hfo
       rw [Nat.zero_add] at hco' hfo'
       obtain ⟨hor, o2, hset⟩ := q_bit hQ2.dig (by rw [hQ2.len]; exact hiq) HQV.out E2.out
       have hQ3 := hQ2.set (k := i / 64) hiq o2
       rw [Nat.zero_add] at hQ3
       have hR3 := hR2.other ((Turned.refl bq _).set (o := i / 64) (.int .u64 ((D qs (i / 64) + 2 ^ (i % 64) : Nat) : Int))) (.inr (fun x hx => by cases hx; exact fun e => hne e.symm))
       have hW3 := hW2.setCell (p := ⟨bq, i / 64, none⟩) hbq1 (.int .u64 ((D qs (i / 64) + 2 ^ (i % 64) : Nat) : Int))
       have HOR := Lib.hid hor
       have HSET := Lib.hid hset
       clear hor hset o2 hQ2 hR2 hW2
       go_wp2
       rw [HOR.out]
       go_roundw
       case measure => simp [intOf] <;> omega
       case rel => exact ⟨i, _, _, by omega, by first | (rw [HSI.out]; done) | (rw [HSI.out]; go_num), hQ3, hR3, HSET.out, by rw [HV3.out, E1.out], hW3⟩
   · obtain rfl : k = 0 := by omega
     rw [Nat.pow_zero, Nat.div_one, Nat.mul_one] at hqv
     rw [Nat.pow_zero, Nat.div_one] at hrv
     have HQV := Lib.hid hqv
     have HRV := Lib.hid hrv
     clear hqv hrv hlt
     have e0 : ((0 : Nat) : Int) - 1 = -1 := by omega
     rw [e0]
     go_wp2_with fail
     with_reducible refine (rtrim_any _ _ _ qs _ hQ.toNatAt (by omega)).mono ?_
     rintro e w14 ⟨a14, n14, c14, rfl, h14, hb14⟩
     have hR := hR.past hb14
     rw [HQV.out] at h14
     go_wp2_with fail
     with_reducible refine (rtrim_any _ _ _ rs _ hR.toNatAt (by omega)).mono ?_
     rintro e w15 ⟨a15, n15, c15, rfl, h15, hb15⟩
     rw [HRV.out] at h15
     have h14 := h14.past hb15
     have hB4 := below_later hb hW
     have hB5 := below_later hB4 hb14
     go_wp2
     go_ret3
     exact ⟨_, _, _, _, _, _, rfl, h14.mono hB4.size, h15.mono hB5.size, below_later hB5 hb15⟩
end Go.Proofs.YtlkoenpdmlbhlaaGreat
set_option linter.unusedVariables false
set_option linter.unusedSimpArgs false
namespace Go.Proofs.YtlkoenpdmlbhlaaGreat
open Go.RowKit
theorem rdiv_yes (a : Option Addr) (n c : Nat) (l : List Nat) (a2 : Option Addr) (n2 c2 : Nat) (l2 : List Nat) (w : World) (h : NatAt w a n c l) (h2 : NatAt w a2 n2 c2 l2) (hs : n ≤ 200000) (hs2 : n2 ≤ 200000) (hz : val l2 ≠ 0) :
 Calls Tryz.prog 120 #[.slice a n c, .slice a2 n2 c2] w (RetDiv w (val l / val l2) (val l % val l2)) := by
 rcases Nat.lt_or_ge (nbits (val l)) (nbits (val l2)) with hv | hv
 · exact rdiv_less _ _ _ l _ _ _ l2 w h h2 hs hs2 hz hv
 · exact rdiv_ge _ _ _ l _ _ _ l2 w h h2 hs hs2 hz hv
set_option maxRecDepth 100000 in
set_option maxHeartbeats 2000000 in
theorem rgcd_any (a : Option Addr) (n c : Nat) (l : List Nat) (a2 : Option Addr) (n2 c2 : Nat) (l2 : List Nat) (w : World) (h : NatAt w a n c l) (h2 : NatAt w a2 n2 c2 l2) (hs : n ≤ 200000) (hs2 : n2 ≤ 200000) :
 Calls Tryz.prog 90 #[.slice a n c, .slice a2 n2 c2] w (RetNat w (Nat.gcd (val l) (val l2))) := by
 go_enter Tryz.func90, Tryz.ntmps90
 go_wp2_with fail
 with_reducible refine (rtrim_any _ _ _ l _ h (by omega)).mono ?_
 rintro e w1 ⟨a1, n1, c1, rfl, h3, hb1⟩
 have h2 := h2.later hb1 (Nat.le_refl _)
 go_wp2_with fail
 with_reducible refine (rtrim_any _ _ _ l2 _ h2 (by omega)).mono ?_
 rintro e w2 ⟨a4, n4, c4, rfl, h4, hb2⟩
 have b1 : n1 ≤ n := by have e1 := h3.len; have e2 := digs_length_val h.dig; rw [h.len] at e2; omega
 have b4 : n4 ≤ n2 := by have e1 := h4.len; have e2 := digs_length_val h2.dig; rw [h2.len] at e2; omega
 have h3 := h3.later hb2 (Nat.le_refl _)
 have hb := below_later hb1 hb2
 have h4 := h4.mono hb1.size
 clear hb1 hb2 h2 h
 go_wp2_with fail
 go_loopg [0, 1] (val l2) (fun k s0 s1 wr => ∃ (x : Nat) (a : Option Addr) (n c : Nat) (a2 : Option Addr) (n2 c2 : Nat), s0 = .slice a n c ∧ s1 = .slice a2 n2 c2 ∧ OwnAt wr w.heap.size a n c (digs x) ∧ OwnAt wr w.heap.size a2 n2 c2 (digs k) ∧ Nat.gcd x k = Nat.gcd (val l) (val l2) ∧ n ≤ 200000 ∧ n2 ≤ 200000 ∧ Below w.heap.size w wr)
 case atStart => exact ⟨val l, _, _, _, _, _, _, rfl, rfl, h3, h4, rfl, by omega, by omega, hb⟩
 case round =>
  clear h3 h4 hb b1 b4
  obtain ⟨x, a5, n5, c5, a6, n6, c6, rfl, rfl, h5, h6, hg, b5, b6, hb⟩ := hrel
  have hl6 := h6.len
  by_cases hk : gk = 0
  · subst hk
    rw [Nat.gcd_zero_right] at hg
    rw [hg] at h5
    obtain rfl : n6 = 0 := hl6.symm
    have h5 := h5
    clear hg h6 hl6
    go_wp2
    go_ret
    exact ⟨_, _, _, rfl, h5, hb⟩
  · have hn6 : 0 < n6 := by
     rcases Nat.eq_zero_or_pos n6 with h0 | h0
     · exact absurd (digs_len0.1 (hl6.trans h0)) hk
     · exact h0
    have HK := Lib.hid hk
    have HG := Lib.hid hg
    clear hl6 hk hg
    go_wp2_with fail
    with_reducible refine (rdiv_yes _ _ _ (digs x) _ _ _ (digs gk) _ h5.toNatAt h6.toNatAt (by omega) (by omega) (by rw [val_digs]; exact HK.out)).mono ?_
    rintro e w7 ⟨a7, n7, c7, a8, n8, c8, rfl, h7, h8, hb8⟩
    rw [val_digs, val_digs] at h8
    have h9 := h6.later hb8 (Nat.le_refl _)
    have h8 := h8.mono hb.size
    have b8 : n8 ≤ 200000 := by
     have e1 := h8.len
     have e2 := digs_len_mono (Nat.le_of_lt (Nat.mod_lt x (Nat.pos_of_ne_zero HK.out)))
     have e3 := h6.len
     omega
    have hb9 := below_later hb hb8
    clear hb8 h7 h5 h6 hb b5
    have hg2 : Nat.gcd gk (x % gk) = Nat.gcd (val l) (val l2) := by rw [← HG.out, Nat.gcd_comm gk, ← Nat.gcd_rec, Nat.gcd_comm]
    have HG2 := Lib.hid hg2
    have hlt : x % gk < gk := Nat.mod_lt _ (Nat.pos_of_ne_zero HK.out)
    have HLT := Lib.hid hlt
    clear hg2 hlt
    go_wp2
    go_roundg (x % gk)
    case measure => exact HLT.out
    case rel => exact ⟨gk, _, _, _, _, _, _, rfl, rfl, h9, h8, HG2.out, b6, b8, hb9⟩
end Go.Proofs.YtlkoenpdmlbhlaaGreat
