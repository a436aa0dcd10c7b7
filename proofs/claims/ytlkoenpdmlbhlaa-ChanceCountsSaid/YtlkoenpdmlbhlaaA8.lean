/- several texts as one: Refs11, Refs12, Refs13. -/
import Derived.Test.YtlkoenpdmlbhlaaA1
import Derived.Test.YtlkoenpdmlbhlaaA5
import Derived.Test.YtlkoenpdmlbhlaaA6
import Derived.Test.YtlkoenpdmlbhlaaA7
import Derived.Deep.RegionHeld3
import Derived.Deep.DeepFit

/- the reference of quot, first part: memory of which one block turns; bit, twice, less. -/
set_option linter.unusedVariables false
set_option linter.unusedSimpArgs false
namespace Go.Proofs.Ytlkoenpdmlbhlaa
open Go.RowKit

/-- of what was there, only one block has turned -/
abbrev Turned (b : Nat) (w w' : World) : Prop := w.grownBy w' (some b)
theorem Turned.refl (b : Nat) (w : World) : Turned b w w := ⟨rfl, rfl, rfl, Nat.le_refl _, fun _ _ _ => rfl⟩
theorem Turned.trans {b : Nat} {w w1 w2 : World} (h : Turned b w w1) (k : Turned b w1 w2) : Turned b w w2 :=
  ⟨k.os.trans h.os, k.tape.trans h.tape, k.output.trans h.output, Nat.le_trans h.size k.size, fun i hi hn => (k.block i (Nat.lt_of_lt_of_le hi h.size) hn).trans (h.block i hi hn)⟩
theorem Turned.ofBelow {b : Nat} {w w' : World} (h : Below w.heap.size w w') : Turned b w w' := ⟨h.os, h.tape, h.output, h.size, fun k hk _ => h.block k hk⟩
theorem Turned.set {b o : Nat} {w w' : World} (h : Turned b w w') (v : Value) : Turned b w (w'.setCell ⟨b, o, none⟩ v) :=
  h.trans ⟨rfl, rfl, rfl, by simp [World.setCell], fun k _ hn => Below.heap_setCell _ _ _ _ (fun e => hn (by rw [e]))⟩
theorem Turned.sets {b : Nat} {w w' : World} (h : Turned b w w') : ∀ (vs : List Value) (o : Nat), Turned b w (w'.setCells b o vs) := by
  intro vs
  induction vs generalizing w' with
  | nil => intro o; exact h
  | cons v r ih => intro o; exact ih (h.set v) (o + 1)
theorem NatAt.other {w w' : World} {b : Nat} {a : Option Addr} {n c : Nat} {l : List Nat} (h : NatAt w a n c l) (hg : Turned b w w') (hne : n = 0 ∨ ∀ x, a = some x → x.block ≠ b) : NatAt w' a n c l := by
  rcases h.parts with h0 | ⟨b1, o1, rfl, hlt, hc⟩
  · exact ⟨h.len, h.le, h.cle, h.dig, .inl h0, h.nilc⟩
  · rcases hne with h0 | hne
    · exact ⟨h.len, h.le, h.cle, h.dig, .inl h0, h.nilc⟩
    refine ⟨h.len, h.le, h.cle, h.dig, .inr ⟨b1, o1, rfl, fun i hi => ?_⟩, h.nilc⟩
    rw [World.cell?_of_block (w := w) (hg.block b1 hlt (fun e => hne _ rfl (by cases e; rfl)))]
    exact hc i hi
theorem OwnAt.other {w w' : World} {B b : Nat} {a : Option Addr} {n c : Nat} {l : List Nat} (h : OwnAt w B a n c l) (hg : Turned b w w') (hne : n = 0 ∨ ∀ x, a = some x → x.block ≠ b) : OwnAt w' B a n c l := by
  refine ⟨h.toNatAt.other hg hne, ?_⟩
  rcases h.own with h0 | ⟨b1, o1, he, hle, hf⟩
  · exact .inl h0
  · rcases h.toNatAt.parts with h0 | ⟨b', o', he', hlt, _⟩
    · exact .inl h0
    · rw [he] at he'
      cases he'
      rcases hne with h0 | hne
      · exact .inl h0
      refine .inr ⟨b1, o1, he, hle, fun i hi => ?_⟩
      rw [World.frozen?_of_block (w := w) (hg.block b1 hlt (fun e => hne _ he (by cases e; rfl)))]
      exact hf i hi

/-- a row over the start of a list -/
theorem OwnAt.setSome {w : World} {B b o n c : Nat} {l l2 : List Nat} (h : OwnAt w B (some ⟨b, o, none⟩) n c l) (hl : l2.length ≤ n) (hd : Dig l2) :
    OwnAt (w.setCells b o (dv l2)) B (some ⟨b, o, none⟩) n c (l2 ++ l.drop l2.length) := by
  by_cases hn : n = 0
  · subst hn
    obtain rfl : l2 = [] := List.eq_nil_of_length_eq_zero (by omega)
    exact h
  rcases h.cell with h' | ⟨b', o', he, hc⟩
  · omega
  cases he
  rcases h.own with h' | ⟨b', o', he, hB, hf⟩
  · omega
  cases he
  refine ⟨⟨by rw [List.length_append, List.length_drop, h.len]; omega, h.le, h.cle, dig_append.2 ⟨hd, fun x hx => h.dig x (List.mem_of_mem_drop hx)⟩, .inr ⟨b, o, rfl, fun i hi => ?_⟩, h.nilc⟩, .inr ⟨b, o, rfl, hB, fun i hi => by rw [World.frozen?_setCells]; exact hf i hi⟩⟩
  by_cases hin : i < l2.length
  · rw [World.cell?_setCells_in b (dv l2) o w (fun q hq => by rw [dv_length] at hq; rw [hc q (by omega)]; rfl) i (by rw [dv_length]; exact hin)]
    have e1 := dv_at hin
    rw [List.getElem?_eq_getElem (by rw [dv_length]; exact hin)] at e1
    rw [e1]
    unfold D
    rw [List.getD_eq_getElem?_getD, List.getD_eq_getElem?_getD, List.getElem?_append_left hin]
  · rw [World.cell?_setCells_out _ _ _ _ _ (fun _ _ => by rw [dv_length]; show o + i < o ∨ _ ≤ o + i; omega), hc i hi]
    unfold D
    rw [List.getD_eq_getElem?_getD, List.getD_eq_getElem?_getD, List.getElem?_append_right (by omega), List.getElem?_drop, show l2.length + (i - l2.length) = i by omega]

/-- 'copy' of digits to the start of a list -/
theorem run_copy_nat {w : World} {B b o n c : Nat} {l : List Nat} (h : OwnAt w B (some ⟨b, o, none⟩) n c l) {a : Option Addr} {m cm : Nat} {l2 : List Nat} (h2 : NatAt w a m cm l2) (hm : m ≤ n) (ty : TypeId) :
    (Builtin.copy_ #[32, 32] ty #[.slice (some ⟨b, o, none⟩) n c, .slice a m cm]).run Try.prog w = .ok (goInt ((m : Nat) : Int)) (w.setCells b o (dv l2)) := by
  have hisz : (Try.prog.info? 73).map (·.size) = some 1 := by kernel_rfl
  by_cases h0 : m = 0
  · subst h0
    have e0 : l2 = [] := List.eq_nil_of_length_eq_zero h2.len
    rw [e0]
    exact run_copy_none w _ _ ty _ _ _ _ _ _ _ Try.underlying32 hisz (by simp)
  · rcases h2.cell with h' | ⟨bd, od, rfl, hcd⟩
    · exact absurd h' h0
    have hlen : (dv l2).length = m := by rw [dv_length]; exact h2.len
    have := run_copy_cells (P := Try.prog) w 32 32 ty 73 b o n c ⟨bd, od, none⟩ m cm (dv l2) Try.underlying32 hisz (by rw [hlen]; exact (Nat.min_eq_left (by omega)).symm)
      (fun j v hj => ?_) (fun j hj => ?_) (fun j hj => ?_) (dv_one _)
    · rw [hlen] at this; exact this
    · have hjl : j < m := by have := (List.getElem?_eq_some_iff.1 hj).1; rwa [hlen] at this
      rw [dv_at (by rw [h2.len]; exact hjl)] at hj
      cases hj
      rw [addr_add]
      exact hcd j hjl
    · rcases h.cell with h' | ⟨b', o', he, hc⟩
      · omega
      · cases he; rw [hc j (by rw [hlen] at hj; omega)]; rfl
    · rcases h.own with h' | ⟨b', o', he, _, hf⟩
      · omega
      · cases he; exact hf j (by rw [hlen] at hj; omega)

theorem bit_of (l : List Nat) (hd : Dig l) (q r : Nat) (hr : r ≤ 63) : val l / 2 ^ (64 * q + r) % 2 = D l q / 2 ^ r % 2 := by
  have e : (2 : Nat) ^ (64 * q + r) = 18446744073709551616 ^ q * 2 ^ r := by rw [Nat.pow_add, Nat.pow_mul]
  rw [e, ← Nat.div_div_eq_div_mul, ← hi_div l hd q, hi_step]
  obtain ⟨k, hk⟩ : ∃ k, r + k = 63 := ⟨63 - r, by omega⟩
  have e2 : (18446744073709551616 : Nat) = 2 ^ r * (2 ^ k * 2) := by rw [← Nat.mul_assoc, ← Nat.pow_add, hk]
  rw [e2, Nat.mul_assoc (2 ^ r), Nat.add_mul_div_left _ _ (Nat.pow_pos (by decide)), Nat.mul_comm (2 ^ k) 2, Nat.mul_assoc 2, Nat.add_mul_mod_self_left]

theorem twice_bits {x z : Nat} (hx : x < 18446744073709551616) (hz : z ≤ 1) :
    bits .or .u64 (IntKind.u64.wrap ((x : Int) * 2)) (z : Int) = ((z + x * 2 % 18446744073709551616 : Nat) : Int) := by
  have h := rup_or (x := x) (z := z * 2 ^ 63) (r := 1) (by decide) (by omega)
  rw [Nat.mul_div_cancel _ (by decide), Nat.pow_one] at h
  have e : IntKind.u64.wrap ((x : Int) * 2) = ((x * 2 % 18446744073709551616 : Nat) : Int) := by rw [IntKind.wrap_u64]; omega
  rw [e, u64_or_nat _ _ (Nat.mod_lt _ (by decide)) (by omega), h]
theorem twice_step {x z q p A L : Nat} (h : L + p * z = 2 * A + q) : L + p * (z + x * 2 % 18446744073709551616) + p * 18446744073709551616 * (x / 9223372036854775808) = 2 * (A + p * x) + q := by
  have e : x * 2 % 18446744073709551616 + 18446744073709551616 * (x / 9223372036854775808) = x * 2 := by omega
  have : p * (x * 2 % 18446744073709551616 + 18446744073709551616 * (x / 9223372036854775808)) = p * (x * 2) := by rw [e]
  rw [Nat.mul_add, ← Nat.mul_assoc] at this
  rw [Nat.mul_add p z, Nat.mul_add 2]
  have e2 : p * (x * 2) = 2 * (p * x) := by rw [← Nat.mul_assoc, Nat.mul_comm]
  omega
theorem lo_add_set {l' l : List Nat} {k d : Nat} (h : k < l'.length) : lo (l'.set k d) (k + 1) = lo l' k + 18446744073709551616 ^ k * d := by
  rw [lo_step, lo_set (Nat.le_refl _), D_set_same h]

end Go.Proofs.Ytlkoenpdmlbhlaa

/- the reference of quot, second part: Div. -/
set_option linter.unusedVariables false
set_option linter.unusedSimpArgs false
namespace Go.Proofs.Ytlkoenpdmlbhlaa
open Go.RowKit

/-- 'make' of a whole list, at a step of a region that draws its order -/
theorem upon_make_nat {P : Program} {w : World} {o : Oper} {a : Act} {K : Act → World → Prop} {Q : Exit → Act → World → Prop} (T E : Nat) (i : TypeInfo)
    (ht : P.underlying T = some (.slice E)) (hi : P.info? E = some i) (hz : i.zero = some (.int .u64 0)) (hsize : i.size = 1) (hby : i.bytes = 8)
    (n : Nat) (N : Int) (hN : N = (n : Int)) (hs : n ≤ 1099511627776)
    (h : ∀ w' b, RowKit.Hid (b = w.heap.size) → OwnAt w' w.heap.size (some ⟨b, 0, none⟩) n n (List.replicate n 0) → Below w.heap.size w w' → K (a.put o.dst (.slice (some ⟨b, 0, none⟩) n n)) w') :
    Oper.upon P o a K Q (((Instr.makeSlice T (.int .i64 N) (.int .i64 N)).run P w).andThen fun a w' => Result.ok (Next.value a) w') := by
  subst hN
  obtain ⟨w', hrun, r1, r2⟩ := run_make_full (P := P) w w.heap.size T E i (.int .u64 0) 1 ht hi hz hsize .i64 .i64 n (by rw [hby]; omega) (by simp only [maxLen]; omega) (Nat.le_refl _)
  rw [hrun]
  exact h w' _ (Lib.hid rfl) (made_own (by rw [← toList_madeCells_one]; rw [Nat.mul_one] at r1; exact r1)) ((Below.refl _ _).grown r2 (Nat.le_refl _) (fun k e => by cases e))

theorem top_none {L p z R : Nat} (h : L + p * z = R) (hR : R < p) : L = R := by
  rcases Nat.eq_zero_or_pos z with h0 | h0
  · rw [h0] at h; omega
  · have := Nat.le_mul_of_pos_right p h0
    omega
theorem q_bit {qs : List Nat} (hd : Dig qs) {A B i : Nat} (hlt : i / 64 < qs.length) (hq : val qs = A / 2 ^ (i + 1) / B * 2 ^ (i + 1)) (he : A / 2 ^ i / B = 2 * (A / 2 ^ (i + 1) / B) + 1) :
    bits .or .u64 (D qs (i / 64) : Int) (IntKind.u64.wrap ((2 : Int) ^ (i % 64))) = ((D qs (i / 64) + 2 ^ (i % 64) : Nat) : Int) ∧ D qs (i / 64) + 2 ^ (i % 64) < 18446744073709551616 ∧ val (qs.set (i / 64) (D qs (i / 64) + 2 ^ (i % 64))) = A / 2 ^ i / B * 2 ^ i := by
  have hdl := hd.at_ (i / 64)
  have hlow := low_digit hd (M := A / 2 ^ (i + 1) / B) (q := i / 64) (r := i % 64) (by omega) (by rw [hq]; congr 2; omega)
  obtain ⟨o1, o2⟩ := or_free (by omega) hlow hdl
  have hset := val_set (l := qs) (k := i / 64) (d := D qs (i / 64) + 2 ^ (i % 64)) (e := 2 ^ (i % 64)) hlt rfl
  have hpl : (2 : Nat) ^ (i % 64) < 18446744073709551616 := Nat.lt_of_le_of_lt (Nat.pow_le_pow_right (by decide) (show i % 64 ≤ 63 by omega)) (by decide)
  have hor := u64_or_nat (D qs (i / 64)) (2 ^ (i % 64)) hdl hpl
  rw [o1] at hor
  have hwr : IntKind.u64.wrap ((2 : Int) ^ (i % 64)) = ((2 ^ (i % 64) : Nat) : Int) := by
    have e : ((2 : Int) ^ (i % 64)) = ((2 ^ (i % 64) : Nat) : Int) := by rw [Int.natCast_pow]; rfl
    rw [e, IntKind.wrap_u64]
    generalize 2 ^ (i % 64) = y at hpl ⊢
    omega
  refine ⟨by rw [hwr]; exact hor, o2, ?_⟩
  rw [hset, hq, he]
  have e3 : (18446744073709551616 : Nat) ^ (i / 64) * 2 ^ (i % 64) = 2 ^ i := by
    rw [show (18446744073709551616 : Nat) = 2 ^ 64 by decide, ← Nat.pow_mul, ← Nat.pow_add, show 64 * (i / 64) + i % 64 = i by omega]
  generalize A / 2 ^ (i + 1) / B = Q
  rw [e3, Nat.pow_succ]
  generalize 2 ^ i = p
  rw [Nat.add_mul, Nat.one_mul]
  have : Q * (p * 2) = 2 * Q * p := by rw [Nat.mul_comm p 2, ← Nat.mul_assoc, Nat.mul_comm Q 2]
  omega

theorem toNat_bit (x : Nat) : (decide (x % 2 = 1)).toNat = x % 2 := by
  rcases Nat.mod_two_eq_zero_or_one x with h | h <;> simp [h]

end Go.Proofs.Ytlkoenpdmlbhlaa

/- the reference of quot, third part: Div, Part, Gcd, Divides. -/
set_option linter.unusedVariables false
set_option linter.unusedSimpArgs false
namespace Go.Proofs.Ytlkoenpdmlbhlaa
open Go.RowKit

end Go.Proofs.Ytlkoenpdmlbhlaa
