/- several texts as one: Refs1, Refs1m, Refs2, Refs3, Refs4, Refs5, Refs6, Refs7, Refs8, Limbs9. -/
import Derived.Test.YtlkoenpdmlbhlaaA2
import Derived.Lib.MinMax
import Derived.BigQuiet
import Derived.Test.YtlkoenpdmlbhlaaA1
import Derived.Test.YtlkoenpdmlbhlaaA3
import Derived.Deep.RegionHeld3
import Derived.Deep.DeepFit
import Derived.Test.YtlkoenpdmlbhlaaLen64

/- the reference of limbs, first part: Trim, Of, One, Check, Cmp. -/
set_option linter.unusedVariables false
set_option linter.unusedSimpArgs false
namespace Go.Proofs.Ytlkoenpdmlbhlaa
open Go.RowKit

end Go.Proofs.Ytlkoenpdmlbhlaa

/- the reference of limbs: moved. -/
set_option linter.unusedVariables false
set_option linter.unusedSimpArgs false
namespace Go.Proofs.Ytlkoenpdmlbhlaa
open Go.RowKit

end Go.Proofs.Ytlkoenpdmlbhlaa

/- the reference of limbs, second part: Add. -/
set_option linter.unusedVariables false
set_option linter.unusedSimpArgs false
namespace Go.Proofs.Ytlkoenpdmlbhlaa
open Go.RowKit

/-- 'append(out, x)': the row is one longer -/
theorem grown_row {E : Nat} {w w1 : World} {B n : Nat} {a a' : Option Addr} {c c' : Nat} {l : List Nat} {x : Nat} (o : Obj) (hB : Below B w w1) (hle : B ≤ w1.heap.size) (hrow : w1.ownsRow B E 1 (.slice a n c) n (dv l)) {w2 : World}
    (hown : w2.ownsRow B E 1 (.slice a' (n + 1) c') (n + 1) (dv l ++ dv [x])) (hgrow : (w1.alloc o).grownBy w2 (Value.slice a n c).ownBlock) :
    w2.ownsRow B E 1 (.slice a' (n + 1) c') (n + 1) (dv (l ++ [x])) ∧ Below B w w2 :=
  ⟨by rw [dv_append]; exact hown, (hB.alloc hle o).grown hgrow (by simp; omega) (fun k hk => (hrow.lt k hk).1)⟩

end Go.Proofs.Ytlkoenpdmlbhlaa

/- the reference of limbs, third part: Sub. -/
set_option linter.unusedVariables false
set_option linter.unusedSimpArgs false
namespace Go.Proofs.Ytlkoenpdmlbhlaa
open Go.RowKit

end Go.Proofs.Ytlkoenpdmlbhlaa

/- the reference of limbs, fourth part: Len, Up, Down. -/
set_option linter.unusedVariables false
set_option linter.unusedSimpArgs false
namespace Go.Proofs.Ytlkoenpdmlbhlaa
open Go.RowKit

end Go.Proofs.Ytlkoenpdmlbhlaa

/- the reference of limbs, fifth part: Down. -/
set_option linter.unusedVariables false
set_option linter.unusedSimpArgs false
namespace Go.Proofs.Ytlkoenpdmlbhlaa
open Go.RowKit

theorem rdown_bits {x y r : Nat} (hx : x < 18446744073709551616) (hr : r ≤ 63) :
    bits .or .u64 ((x : Int) / 2 ^ r) (IntKind.u64.wrap ((y : Int) * 2 ^ (64 - r))) = (((x + 18446744073709551616 * y) / 2 ^ r % 18446744073709551616 : Nat) : Int) := by
  have e1 : (x : Int) / 2 ^ r = ((x / 2 ^ r : Nat) : Int) := by rw [Int.natCast_ediv, Int.natCast_pow]; rfl
  have e2 : IntKind.u64.wrap ((y : Int) * 2 ^ (64 - r)) = ((y * 2 ^ (64 - r) % 18446744073709551616 : Nat) : Int) := by
    rw [IntKind.wrap_u64]
    simp only [Int.natCast_emod, Int.natCast_mul, Int.natCast_pow]
    rfl
  rw [e1, e2, u64_or_nat _ _ (Nat.lt_of_le_of_lt (Nat.div_le_self _ _) hx) (Nat.mod_lt _ (by decide)), rshr_or hx hr]

end Go.Proofs.Ytlkoenpdmlbhlaa

/- the reference of limbs, sixth part: Up. -/
set_option linter.unusedVariables false
set_option linter.unusedSimpArgs false
namespace Go.Proofs.Ytlkoenpdmlbhlaa
open Go.RowKit

theorem rup_bits {x z r : Nat} (hz : z < 18446744073709551616) (hr : r ≤ 63) :
    bits .or .u64 (IntKind.u64.wrap ((x : Int) * 2 ^ r)) ((z : Int) / 2 ^ (64 - r)) = ((z / 2 ^ (64 - r) + x * 2 ^ r % 18446744073709551616 : Nat) : Int) := by
  have e1 : (z : Int) / 2 ^ (64 - r) = ((z / 2 ^ (64 - r) : Nat) : Int) := by rw [Int.natCast_ediv, Int.natCast_pow]; rfl
  have e2 : IntKind.u64.wrap ((x : Int) * 2 ^ r) = ((x * 2 ^ r % 18446744073709551616 : Nat) : Int) := by
    rw [IntKind.wrap_u64]
    simp only [Int.natCast_emod, Int.natCast_mul, Int.natCast_pow]
    rfl
  rw [e1, e2, u64_or_nat _ _ (Nat.mod_lt _ (by decide)) (Nat.lt_of_le_of_lt (Nat.div_le_self _ _) hz), rup_or hr hz]

end Go.Proofs.Ytlkoenpdmlbhlaa

/- the reference of times: both, Grow, Mul, Power. -/
set_option linter.unusedVariables false
set_option linter.unusedSimpArgs false
namespace Go.Proofs.Ytlkoenpdmlbhlaa
open Go.RowKit

theorem mdc (a : Nat) : a * 4294967296 / 4294967296 = a := Nat.mul_div_cancel _ (by decide)
theorem shlN (a : Nat) : IntKind.u64.wrap ((a : Int) * 4294967296) = ((a % 4294967296 * 4294967296 : Nat) : Int) := by rw [IntKind.wrap_u64]; omega

/-- the school method on halves: no step wraps, and what it comes to -/
theorem both_parts (x y : Nat) (hx : x < 18446744073709551616) (hy : y < 18446744073709551616) :
    ∃ p00 p10 p01 p11 : Nat, x % 4294967296 * (y % 4294967296) = p00 ∧ x / 4294967296 * (y % 4294967296) = p10 ∧ x % 4294967296 * (y / 4294967296) = p01 ∧ x / 4294967296 * (y / 4294967296) = p11 ∧
      p00 ≤ 18446744065119617025 ∧ p10 ≤ 18446744065119617025 ∧ p01 ≤ 18446744065119617025 ∧ p11 ≤ 18446744065119617025 ∧ x * y = p11 * 18446744073709551616 + (p10 + p01) * 4294967296 + p00 := by
  refine ⟨_, _, _, _, rfl, rfl, rfl, rfl, Lib.half_mul_le (by omega) (by omega), Lib.half_mul_le (by omega) (by omega), Lib.half_mul_le (by omega) (by omega), Lib.half_mul_le (by omega) (by omega), ?_⟩
  have e := Lib.split_mul (x / 4294967296) (x % 4294967296) (y / 4294967296) (y % 4294967296) 4294967296
  rw [Nat.div_add_mod' x 4294967296, Nat.div_add_mod' y 4294967296] at e
  rw [e]

theorem rgrow_step {o l : List Nat} {x i c s k : Nat} (ho : o.length = i) (h : lo o i + 18446744073709551616 ^ i * c = lo l i * x) (hs : s + 18446744073709551616 * k = D l i * x + c) :
    lo (o ++ [s]) (i + 1) + 18446744073709551616 ^ (i + 1) * k = lo l (i + 1) * x := by
  rw [lo_snoc ho, lo_step l, Nat.add_mul, ← h, Nat.pow_succ, Nat.mul_assoc]
  have e : 18446744073709551616 ^ i * (s + 18446744073709551616 * k) = 18446744073709551616 ^ i * (D l i * x + c) := by rw [hs]
  simp only [Nat.mul_add] at e
  rw [Nat.mul_assoc (18446744073709551616 ^ i) (D l i)]
  omega

end Go.Proofs.Ytlkoenpdmlbhlaa

/- the reference of times: Mul, Power. -/
set_option linter.unusedVariables false
set_option linter.unusedSimpArgs false
namespace Go.Proofs.Ytlkoenpdmlbhlaa
open Go.RowKit

/-- 'append(s, x...)', s the call's own row, x digits: at a step of a region that draws its order -/
theorem step_append_nat {P : Program} {w : World} {ops : Array Oper} {o : Oper} {a : Act} {K : Act → World → Prop} {Q : Exit → Act → World → Prop} {E0 : Prop} (hgd : o.guard = none) (s x : Operand) (T : TypeId)
    (ho : o.op = .call { callee := .builtin .append, args := #[s, x], argTypes := #[T, T] })
    (base E : Nat) (i : TypeInfo) (ht : P.underlying T = some (.slice E)) (hi : P.info? E = some i) (hz : i.zero = some (.int .u64 0)) (hsize : i.size = 1) (hby : i.bytes = 8)
    (v : Value) (n : Nat) (xs : List Value) (hs : a.eval s = v) (hown : w.ownsRow base E 1 v n xs)
    (xa : Option Addr) (m xc : Nat) (l : List Nat) (hx : a.eval x = .slice xa m xc) (hn : NatAt w xa m xc l) (hsz : n + m ≤ 1099511627776) (hbase : base ≤ w.heap.size)
    (h : ∀ a' c' w', w'.ownsRow base E 1 (.slice a' (n + m) c') (n + m) (xs ++ dv l) → w.grownBy w' v.ownBlock → K (a.put o.dst (.slice a' (n + m) c')) w') :
    if Region.wanted o (yielded ops a.tmps) = true then Oper.wp P o a w K Q else E0 := by
  rw [if_pos (by simp [Region.wanted, hgd])]
  cases xa with
  | none =>
    have hc := hn.nilc rfl
    have hm : m = 0 := by have := hn.le; omega
    subst hc
    subst hm
    have hl : l = [] := List.eq_nil_of_length_eq_zero hn.len
    subst hl
    have hrun := run_append_owned_none (P := P) (w := w) base T o.type E i 1 ht hi v n xs hown
    have hshape : ∃ a' c', v = .slice a' n c' := by
      rcases hown.2 with ⟨rfl, hn0⟩ | ⟨g, cap, cur, rfl, _⟩
      · subst hn0; exact ⟨_, _, rfl⟩
      · exact ⟨_, _, rfl⟩
    obtain ⟨a', c', rfl⟩ := hshape
    have hk := h a' c' w (by simpa [dv] using hown) ⟨rfl, rfl, rfl, Nat.le_refl _, fun _ _ _ => rfl⟩
    unfold Oper.wp
    simp [execOp, ho, resolve, invoke, builtin, hs, hx, hrun, Result.andThen]
    exact hk
  | some ad =>
    have hnews : ∀ j u, (dv l)[j]? = some u → w.cell? (ad.add j) = some u := by
      intro j u hu
      have hj : j < l.length := by
        have := (List.getElem?_eq_some_iff.1 hu).1
        rwa [dv_length] at this
      rw [dv_at hj] at hu
      cases hu
      rcases hn.cell with h0 | ⟨b, o, he, hc⟩
      · have := hn.len; omega
      · cases he
        rw [addr_add]
        exact hc j (by have := hn.len; omega)
    refine wp_append_own (w := w) s x T ho base E i (.int .u64 0) 1 8 ht hi hz hsize hby rfl (by decide) v n xs hs hown ad m xc (dv l) hx (by rw [dv_length, hn.len]; omega) hnews (dv_one l)
      (by simp only [maxLen]; omega) (by omega) hbase ?_
    intro v' w' h1 h2 _
    have hshape : ∃ a' c', v' = .slice a' (n + m) c' := by
      rcases h1.2 with ⟨rfl, hn0⟩ | ⟨g, cap, cur, rfl, _⟩
      · rw [hn0]; exact ⟨_, _, rfl⟩
      · exact ⟨_, _, rfl⟩
    obtain ⟨a', c', rfl⟩ := hshape
    exact h a' c' w' h1 h2

theorem OwnAt.ofRow2 {w : World} {B E : Nat} {a : Option Addr} {c : Nat} {n : Nat} {l : List Nat} (h : w.ownsRow B E 1 (.slice a n c) n (dv l)) (hd : Dig l) : OwnAt w B a n c l := by
  obtain ⟨a', c', e, h⟩ := OwnAt.ofRow h hd
  cases e
  exact h

end Go.Proofs.Ytlkoenpdmlbhlaa

/- limbs, ninth part: Len, both texts'. -/
set_option linter.unusedVariables false
set_option linter.unusedSimpArgs false
namespace Go.Proofs.Ytlkoenpdmlbhlaa
open Go.RowKit

theorem len64_any (x : Nat) (w : World) (h : x < 18446744073709551616) :
    Calls Try.prog 101 #[.int .u64 ((x : Nat) : Int)] w fun e w' => e = .returned (.int .i64 ((nbits x : Nat) : Int)) ∧ w = w' := by
  have := len64_kit x w (by omega) (by omega)
  rw [Int.toNat_natCast, bitLen_nbits h] at this
  exact this.mono fun _ _ ⟨h1, h2⟩ => ⟨h1, h2.symm⟩

set_option maxRecDepth 100000 in
theorem len_any (a : Option Addr) (n c : Nat) (l : List Nat) (w : World) (h : NatAt w a n c l) (hs : n ≤ 549755813888) :
    Calls Try.prog 79 #[.slice a n c] w fun e w' => e = .returned (.int .i64 ((nbits (val l) : Nat) : Int)) ∧ w = w' := by
  have h1 := h.digs
  have hle := digs_length_val h.dig
  rw [h.len] at hle
  by_cases h0 : val l = 0
  · have hl : (digs (val l)).length = 0 := digs_len0.2 h0
    have HL := Lib.hid hl
    have e1 : nbits (val l) = 0 := by rw [h0]; rfl
    have E1 := Lib.hid e1
    clear hl h0 e1
    go_enter Try.func79, Try.ntmps79
    go_wp2_with fail
    refine (trimmed_any _ _ _ _ _ h).mono ?_
    rintro e w1 ⟨rfl, rfl⟩
    rw [HL.out]
    go_wp2
    go_ret
    exact ⟨by rw [E1.out]; rfl, rfl⟩
  · have hm0 : (digs (val l)).length ≠ 0 := fun e => h0 (digs_len0.1 e)
    obtain ⟨m, hm⟩ : ∃ m, (digs (val l)).length = m + 1 := ⟨(digs (val l)).length - 1, by omega⟩
    have ht := D_digs_last h0
    rw [hm] at ht h1 hle
    rw [show m + 1 - 1 = m by omega] at ht
    have hv := nbits_top (dig_digs (val l)) hm ht
    rw [val_digs] at hv
    have htr := trimmed_any a n c l w h
    rw [hm] at htr
    have HTR := Lib.hid htr
    have HV := Lib.hid hv
    have hD := (dig_digs (val l)).at_ m
    obtain ⟨L, hL⟩ : ∃ L, digs (val l) = L := ⟨_, rfl⟩
    rw [hL] at h1 hD
    obtain ⟨N, hN⟩ : ∃ N, nbits (D (digs (val l)) m) = N := ⟨_, rfl⟩
    have hNb : N ≤ 64 := by rw [← hN]; exact nbits_le (dig_digs (val l) |>.at_ m)
    have HN := Lib.hid hN
    have HL := Lib.hid hL
    clear htr hv hm ht hm0 h0 hN hL
    rcases h1.parts with h2 | ⟨b, o, rfl, hlt, hc⟩
    · omega
    have hc' := hc m (by omega)
    clear hc
    have t1 : (((m + 1 : Nat) : Int) == 0) = false := by simp only [beq_eq_false_iff_ne]; omega
    have h64 := len64_any (D L m) w hD
    have e64 : nbits (D L m) = N := by rw [← HL.out]; exact HN.out
    rw [e64] at h64
    have H64 := Lib.hid h64
    clear h64 e64
    go_enter Try.func79, Try.ntmps79
    go_wp2_with fail
    refine HTR.out.mono ?_
    rintro e w1 ⟨rfl, rfl⟩
    go_wp2_with fail
    refine H64.out.mono ?_
    rintro e w1 ⟨rfl, rfl⟩
    go_wp2
    go_ret
    refine ⟨ret_int ?_, rfl⟩
    have e1 := HV.out
    rw [HN.out] at e1
    rw [e1]
    omega

end Go.Proofs.Ytlkoenpdmlbhlaa
