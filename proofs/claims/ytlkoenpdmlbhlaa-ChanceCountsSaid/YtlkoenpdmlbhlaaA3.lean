/- several texts as one: Times1, Times2, Times3, Times4. -/
import Derived.Test.YtlkoenpdmlbhlaaA2
import Derived.Test.YtlkoenpdmlbhlaaA1
import Derived.Lib.Mul64
import Derived.Laws.Bits64b
import Derived.Deep.RegionWith
import Derived.BigRegion
import Derived.OwnWalk
import Derived.Lib.MinMax
import Derived.Laws.EntriesVeiled
import Derived.Deep.RegionHeld3
import Derived.Deep.DeepFit
import Derived.IntWalk

/- times, first part: Mul64, line. -/
set_option linter.unusedVariables false
set_option linter.unusedSimpArgs false
namespace Go.Proofs.Ytlkoenpdmlbhlaa
open Go.RowKit

theorem maskN (a : Nat) (ha : a < 18446744073709551616) : bits .and .u64 (a : Int) 4294967295 = ((a % 4294967296 : Nat) : Int) := by
  have h := bits_and_u64_nat a 4294967295 ha (by omega)
  have e : a &&& 4294967295 = a % 4294967296 := Nat.and_two_pow_sub_one_eq_mod a 32
  rw [e] at h
  exact h
theorem divN (a : Nat) : (a : Int) / 4294967296 = ((a / 4294967296 : Nat) : Int) := by omega
theorem mulN (a b : Nat) : (a : Int) * (b : Int) = ((a * b : Nat) : Int) := (Int.natCast_mul a b).symm
theorem addN (a b : Nat) : (a : Int) + (b : Int) = ((a + b : Nat) : Int) := (Int.natCast_add a b).symm
theorem wrapN (a : Nat) (ha : a < 18446744073709551616) : IntKind.u64.wrap (a : Int) = (a : Int) := by rw [IntKind.wrap_u64]; omega
theorem wrapM (a : Nat) : IntKind.u64.wrap (a : Int) = ((a % 18446744073709551616 : Nat) : Int) := by rw [IntKind.wrap_u64]; omega

set_option maxHeartbeats 1000000 in
set_option maxRecDepth 100000 in
theorem mul64_any (x y : Nat) (hx : x < 18446744073709551616) (hy : y < 18446744073709551616) (w : World) :
    Calls Try.prog 122 #[.int .u64 x, .int .u64 y] w fun e w' => e = .returned (.tuple #[.int .u64 ((x * y / 18446744073709551616 : Nat) : Int), .int .u64 ((x * y % 18446744073709551616 : Nat) : Int)]) ∧ w = w' := by
  obtain ⟨bd, bt, bw, hhi⟩ := Lib.mul64_hi x y hx hy
  have ba := Lib.half_mul_le (a := x / 4294967296) (b := y / 4294967296) (by omega) (by omega)
  have bb := Lib.half_mul_le (a := x / 4294967296) (b := y % 4294967296) (by omega) (by omega)
  have bc := Lib.half_mul_le (a := x % 4294967296) (b := y / 4294967296) (by omega) (by omega)
  have ba' : x / 4294967296 * (y / 4294967296) < 18446744073709551616 := by omega
  have bb' : x / 4294967296 * (y % 4294967296) < 18446744073709551616 := by omega
  have bc' : x % 4294967296 * (y / 4294967296) < 18446744073709551616 := by omega
  have bh1 : x / 4294967296 * (y / 4294967296) + (x / 4294967296 * (y % 4294967296) + x % 4294967296 * (y % 4294967296) / 4294967296) / 4294967296 < 18446744073709551616 := by omega
  have bh : x / 4294967296 * (y / 4294967296) + (x / 4294967296 * (y % 4294967296) + x % 4294967296 * (y % 4294967296) / 4294967296) / 4294967296 + ((x / 4294967296 * (y % 4294967296) + x % 4294967296 * (y % 4294967296) / 4294967296) % 4294967296 + x % 4294967296 * (y / 4294967296)) / 4294967296 < 18446744073709551616 := by omega
  go_enter Try.func122, Try.ntmps122
  go_wp2
  simp only [maskN x hx, maskN y hy, divN, mulN, addN, wrapN _ bd, wrapN _ bb', wrapN _ bt, maskN _ bt, wrapN _ bc', wrapN _ bw, wrapN _ ba', wrapN _ bh1, wrapN _ bh, wrapM (x * y)]
  rw [hhi]
  go_ret2
  exact ⟨rfl, rfl⟩

theorem mul64_call (x y : Nat) (hx : x < 18446744073709551616) (hy : y < 18446744073709551616) :
    ∃ g l : Nat, g < 18446744073709551616 ∧ l < 18446744073709551616 ∧ l + 18446744073709551616 * g = x * y ∧
      ∀ w, Calls Try.prog 122 #[.int .u64 x, .int .u64 y] w fun e w' => e = .returned (.tuple #[.int .u64 ((g : Nat) : Int), .int .u64 ((l : Nat) : Int)]) ∧ w = w' := by
  refine ⟨_, _, ?_, ?_, ?_, fun w => mul64_any x y hx hy w⟩
  · have h3 : x * y ≤ 18446744073709551615 * 18446744073709551615 := Nat.mul_le_mul (by omega) (by omega)
    omega
  · omega
  · omega

/-- a line of a product: a digit's product with a number, added from a place on -/
theorem lineb_step {o os l : List Nat} {x p i c s k : Nat} (h : lo o (p + i) + 18446744073709551616 ^ (p + i) * c = lo os (p + i) + 18446744073709551616 ^ p * (x * lo l i)) (hi' : p + i < o.length) (hs : s + 18446744073709551616 * k = x * D l i + D os (p + i) + c) :
    lo (o.set (p + i) s) (p + i + 1) + 18446744073709551616 ^ (p + i + 1) * k = lo os (p + i + 1) + 18446744073709551616 ^ p * (x * lo l (i + 1)) := by
  rw [lo_step, lo_set (Nat.le_refl _), D_set_same hi', lo_step os, lo_step l, Nat.pow_succ, Nat.mul_assoc]
  have e : 18446744073709551616 ^ (p + i) * (s + 18446744073709551616 * k) = 18446744073709551616 ^ (p + i) * (x * D l i + D os (p + i) + c) := by rw [hs]
  simp only [Nat.mul_add] at e ⊢
  have e2 : 18446744073709551616 ^ p * (x * (18446744073709551616 ^ i * D l i)) = 18446744073709551616 ^ (p + i) * (x * D l i) := by rw [Nat.pow_add]; ac_rfl
  rw [e2]
  omega
theorem lineb_end {o os l : List Nat} {x p i : Nat} (h : lo o (p + i) + 18446744073709551616 ^ (p + i) * 0 = lo os (p + i) + 18446744073709551616 ^ p * (x * lo l i)) (hh : hi o (p + i) = hi os (p + i)) (hl : l.length ≤ i) : val o = val os + 18446744073709551616 ^ p * (x * val l) := by
  rw [lo_hi o (p + i), lo_hi os (p + i), hh]
  rw [lo_all hl] at h
  omega
theorem lineb_room {o os l : List Nat} {x p i c n : Nat} (h : lo o (p + i) + 18446744073709551616 ^ (p + i) * c = lo os (p + i) + 18446744073709551616 ^ p * (x * lo l i)) (hl : l.length ≤ i) (hos : os.length = n) (hin : p + i ≤ n) (hc : 0 < c) (hv : val os + 18446744073709551616 ^ p * (x * val l) < 18446744073709551616 ^ n) : p + i < n := by
  rcases Nat.lt_or_ge (p + i) n with h' | h'
  · exact h'
  · obtain rfl : p + i = n := by omega
    rw [lo_all hl, lo_all (l := os) (by omega)] at h
    have := Nat.le_mul_of_pos_right (18446744073709551616 ^ (p + i)) hc
    omega
theorem mul_parts {x y c z : Nat} (hx : x < 18446744073709551616) (hy : y < 18446744073709551616) (hc : c < 18446744073709551616) (hz : z < 18446744073709551616) :
    ∀ s1 k1 s2 k2 : Nat, s1 + 18446744073709551616 * k1 = x * y % 18446744073709551616 + c + 0 → s2 + 18446744073709551616 * k2 = z + s1 + 0 →
      s2 + 18446744073709551616 * (x * y / 18446744073709551616 + k1 + k2) = x * y + z + c ∧ x * y / 18446744073709551616 + k1 + k2 < 18446744073709551616 := by
  intro s1 k1 s2 k2 h1 h2
  have h3 : x * y ≤ 18446744073709551615 * 18446744073709551615 := Nat.mul_le_mul (by omega) (by omega)
  omega

set_option maxHeartbeats 2000000 in
set_option maxRecDepth 100000 in
theorem line_any (b o N c1 : Nat) (os : List Nat) (p : Nat) (a : Option Addr) (n c : Nat) (l : List Nat) (x B : Nat) (w : World) (h : OwnAt w B (some ⟨b, o, none⟩) N c1 os) (h2 : NatAt w a n c l) (hlt : n = 0 ∨ ∀ y, a = some y → y.block < B) (hp : p + n ≤ N) (hx : x < 18446744073709551616) (hb : B ≤ b)
    (hv : val os + 18446744073709551616 ^ p * (x * val l) < 18446744073709551616 ^ N) :
    Calls Try.prog 120 #[.slice (some ⟨b, o + p, none⟩) (N - p) (c1 - p), .slice a n c, .int .u64 x] w fun e w' => e = .returned (.tuple #[]) ∧ Below B w w' ∧ ∃ ds, OwnAt w' B (some ⟨b, o, none⟩) N c1 ds ∧ val ds = val os + 18446744073709551616 ^ p * (x * val l) := by
  have HV := Lib.hid hv
  clear hv
  have hle := h.le
  have hcle := h.cle
  have hle2 := h2.le
  have hcle2 := h2.cle
  go_enter Try.func120, Try.ntmps120
  go_wp2_with fail
  go_loopw [6, 15] (fun cy i wr => ∃ (k y : Nat) (ds : List Nat), k ≤ n ∧ y < 18446744073709551616 ∧ i = .int .i64 k ∧ cy = .int .u64 y ∧ OwnAt wr B (some ⟨b, o, none⟩) N c1 ds ∧ lo ds (p + k) + 18446744073709551616 ^ (p + k) * y = lo os (p + k) + 18446744073709551616 ^ p * (x * lo l k) ∧ hi ds (p + k) = hi os (p + k) ∧ Below B w wr) (fun _ i _ => n - (intOf i).toNat)
  case atStart => exact ⟨0, 0, _, Nat.zero_le _, by decide, rfl, rfl, h, by simp [lo_zero], rfl, Below.refl _ _⟩
  case round =>
    obtain ⟨k, y, ds, hk, hy, rfl, rfl, h4, h5, h5', h6⟩ := hrel
    have H5 := Lib.hid h5
    have H5' := Lib.hid h5'
    clear h5 h5'
    by_cases hlt' : k < n
    · have e2 : NatAt wr a n c l := h2.below h6 hlt
      rcases e2.parts with h' | ⟨ba, oa, rfl, _, hca⟩
      · omega
      have hca' := hca k hlt'
      clear hca
      have d1 := h2.dig.at_ k
      obtain ⟨g, u, hg, hu, hgu, hm⟩ := mul64_call x (D l k) hx d1
      obtain ⟨s1, k1, hs1, hk1, e1, ha1⟩ := add64_call u y 0 hu hy (by decide)
      obtain ⟨s2, k2, hs2, hk2, e2', ha2⟩ := add64_call (D ds (p + k)) s1 0 (h4.dig.at_ _) hs1 (by decide)
      have eD := D_of_hi H5'.out h4.dig h.dig
      have hsum : s2 + 18446744073709551616 * (g + k1 + k2) = x * D l k + D os (p + k) + y := by omega
      have hfit := digit_fits hx d1 hy (h.dig.at_ (p + k)) hsum
      have h9 := lineb_step H5.out (by rw [h4.len]; omega) hsum
      have h10 := hi_of_hi H5'.out h4.dig h.dig
      have H9 := Lib.hid h9
      have H10 := Lib.hid h10
      clear h9 h10 hsum eD e1 e2' hgu
      obtain ⟨q, hq⟩ : ∃ q, g + k1 = q := ⟨_, rfl⟩
      obtain ⟨r, hr⟩ : ∃ r, q + k2 = r := ⟨_, rfl⟩
      have v1 : IntKind.u64.wrap ((g : Int) + (k1 : Int)) = (q : Int) := by rw [IntKind.wrap_u64]; omega
      have v2 : IntKind.u64.wrap ((q : Int) + (k2 : Int)) = (r : Int) := by rw [IntKind.wrap_u64]; omega
      have hr' : r < 18446744073709551616 := by omega
      have HR := Lib.hid (show g + k1 + k2 = r by omega)
      clear hq hr hfit
      have ha1 : ∀ w, (callFunc 111 #[.int .u64 ((u : Nat) : Int), .int .u64 ((y : Nat) : Int), .int .u64 0]).run Try.prog w = .ok (.value (.tuple #[.int .u64 ((s1 : Nat) : Int), .int .u64 ((k1 : Nat) : Int)])) w := ha1
      have ha2 : ∀ w, (callFunc 111 #[.int .u64 ((D ds (p + k) : Nat) : Int), .int .u64 ((s1 : Nat) : Int), .int .u64 0]).run Try.prog w = .ok (.value (.tuple #[.int .u64 ((s2 : Nat) : Int), .int .u64 ((k2 : Nat) : Int)])) w := ha2
      have hcell : wr.cell? ⟨b, o + p + k, none⟩ = some (.int .u64 ((D ds (p + k) : Nat) : Int)) := by
        rcases h4.cell with h' | ⟨b', o', he, hc⟩
        · omega
        · cases he; rw [Nat.add_assoc]; exact hc _ (by omega)
      have hfro : wr.frozen? ⟨b, o + p + k, none⟩ = false := by
        rcases h4.own with h' | ⟨b', o', he, _, hf⟩
        · omega
        · cases he; rw [Nat.add_assoc]; exact hf _ (by omega)
      go_wp2_with fail
      refine (hm _).mono ?_
      rintro e w' ⟨rfl, rfl⟩
      go_wp2_with fail
      have h7 := h4.set (k := p + k) (by omega) hs2
      rw [← Nat.add_assoc] at h7
      have h9 := H9.out
      have h10 := H10.out
      rw [HR.out] at h9
      rw [← hi_set (l := ds) (j := p + k) (x := s2) (Nat.lt_succ_self _)] at h10
      exact ⟨⟨k + 1, r, _, by omega, hr', by go_num, rfl, h7, h9, h10, h6.setCell (p := ⟨b, o + p + k, none⟩) hb _⟩, by simp [intOf]; omega⟩
    · obtain rfl : k = n := by omega
      clear hlt'
      go_wp2_with fail
      go_loopw [6, 12] (fun cy i wr => ∃ (m y : Nat) (ds : List Nat), k ≤ m ∧ p + m ≤ N ∧ y < 18446744073709551616 ∧ i = .int .i64 m ∧ cy = .int .u64 y ∧ OwnAt wr B (some ⟨b, o, none⟩) N c1 ds ∧ lo ds (p + m) + 18446744073709551616 ^ (p + m) * y = lo os (p + m) + 18446744073709551616 ^ p * (x * lo l m) ∧ hi ds (p + m) = hi os (p + m) ∧ Below B w wr) (fun _ i _ => N - (intOf i).toNat)
      case atStart => exact ⟨k, y, ds, Nat.le_refl _, hp, hy, rfl, rfl, h4, H5.out, H5'.out, h6⟩
      case round =>
        clear H5 H5' h4 h6 hy
        obtain ⟨m, y, ds, hk, hkN, hy, rfl, rfl, h4, h5, h5', h6⟩ := hrel
        have H5 := Lib.hid h5
        have H5' := Lib.hid h5'
        clear h5 h5'
        by_cases hy0 : 0 < y
        · have hlm : l.length ≤ m := by rw [h2.len]; exact hk
          have hroom := lineb_room H5.out hlm h.len hkN hy0 HV.out
          obtain ⟨s2, k2, hs2, hk2, e2', ha2⟩ := add64_call (D ds (p + m)) y 0 (h4.dig.at_ _) hy (by decide)
          have eD := D_of_hi H5'.out h4.dig h.dig
          have hsum : s2 + 18446744073709551616 * k2 = x * D l m + D os (p + m) + y := by rw [D_out hlm]; omega
          have h9 := lineb_step H5.out (by rw [h4.len]; omega) hsum
          have h10 := hi_of_hi H5'.out h4.dig h.dig
          have H9 := Lib.hid h9
          have H10 := Lib.hid h10
          clear h9 h10 hsum eD e2' hlm
          have ha2 : ∀ w, (callFunc 111 #[.int .u64 ((D ds (p + m) : Nat) : Int), .int .u64 ((y : Nat) : Int), .int .u64 0]).run Try.prog w = .ok (.value (.tuple #[.int .u64 ((s2 : Nat) : Int), .int .u64 ((k2 : Nat) : Int)])) w := ha2
          have hcell : wr.cell? ⟨b, o + p + m, none⟩ = some (.int .u64 ((D ds (p + m) : Nat) : Int)) := by
            rcases h4.cell with h' | ⟨b', o', he, hc⟩
            · omega
            · cases he; rw [Nat.add_assoc]; exact hc _ (by omega)
          have hfro : wr.frozen? ⟨b, o + p + m, none⟩ = false := by
            rcases h4.own with h' | ⟨b', o', he, _, hf⟩
            · omega
            · cases he; rw [Nat.add_assoc]; exact hf _ (by omega)
          go_wp2_with fail
          have h7 := h4.set (k := p + m) (by omega) hs2
          rw [← Nat.add_assoc] at h7
          have h10 := H10.out
          rw [← hi_set (l := ds) (j := p + m) (x := s2) (Nat.lt_succ_self _)] at h10
          exact ⟨⟨m + 1, k2, _, by omega, by omega, by omega, by go_num, rfl, h7, H9.out, h10, h6.setCell (p := ⟨b, o + p + m, none⟩) hb _⟩, by simp [intOf]; omega⟩
        · obtain rfl : y = 0 := by omega
          have h7 := lineb_end H5.out H5'.out (by rw [h2.len]; exact hk)
          clear hy0 H5
          go_wp2_with fail
          go_end0
          exact ⟨rfl, h6, _, h4, h7⟩

end Go.Proofs.Ytlkoenpdmlbhlaa

/- times, second part: School, Grow. -/
set_option linter.unusedVariables false
set_option linter.unusedSimpArgs false
namespace Go.Proofs.Ytlkoenpdmlbhlaa
open Go.RowKit

theorem school_next {os L : List Nat} {v k : Nat} (h : val os = v * lo L k) : val os + 18446744073709551616 ^ k * (D L k * v) = v * lo L (k + 1) := by
  rw [h, lo_step, Nat.mul_add]; congr 1; ac_rfl
theorem lo_le_val (L : List Nat) (j : Nat) : lo L j ≤ val L := by rw [lo_hi L j]; omega
theorem school_fit {L1 L2 : List Nat} (h1 : Dig L1) (h2 : Dig L2) {N : Nat} (h : L1.length + L2.length ≤ N) (j : Nat) : val L1 * lo L2 j < 18446744073709551616 ^ N := by
  have e1 := val_lt h1
  have e2 := Nat.lt_of_le_of_lt (lo_le_val L2 j) (val_lt h2)
  have e3 := Nat.mul_lt_mul'' e1 e2
  rw [← Nat.pow_add] at e3
  exact Nat.lt_of_lt_of_le e3 (Nat.pow_le_pow_right (by decide) h)

theorem made_own {E : Nat} {w1 w2 : World} {q : Nat} (hr2 : w2.ownsRow w1.heap.size E 1 (.slice (some ⟨w1.heap.size, 0, none⟩) q q) q (List.replicate q (.int .u64 0))) : OwnAt w2 w1.heap.size (some ⟨w1.heap.size, 0, none⟩) q q (List.replicate q 0) := by
  obtain ⟨a, c, e, h⟩ := OwnAt.ofRow (l := List.replicate q 0) (by rw [dv_replicate]; exact hr2) (dig_replicate q)
  cases e
  exact h

set_option maxHeartbeats 1000000 in
set_option maxRecDepth 100000 in
theorem school_any (a : Option Addr) (n c : Nat) (l : List Nat) (a2 : Option Addr) (n2 c2 : Nat) (l2 : List Nat) (w : World) (h : NatAt w a n c l) (h2 : NatAt w a2 n2 c2 l2) (hs : n ≤ 274877906944) (hs2 : n2 ≤ 274877906944) :
    Calls Try.prog 105 #[.slice a n c, .slice a2 n2 c2] w (RetNat w (val l * val l2)) := by
  obtain ⟨i0, hi, hz0, hz1, hz2⟩ := info_parts info73
  go_enter Try.func105, Try.ntmps105
  go_wp2_with fail
  refine (trim_any _ _ _ l _ h (by omega)).mono ?_
  rintro e w1 ⟨a1, n1, c1, rfl, h3, hb1⟩
  have h2 := h2.later hb1 (Nat.le_refl _)
  go_wp2_with fail
  refine (trim_any _ _ _ l2 _ h2 (by omega)).mono ?_
  rintro e w2 ⟨a4, n4, c4, rfl, h4, hb2⟩
  have b1 : n1 ≤ n := by have e1 := h3.len; have e2 := digs_length_val h.dig; rw [h.len] at e2; omega
  have b4 : n4 ≤ n2 := by have e1 := h4.len; have e2 := digs_length_val h2.dig; rw [h2.len] at e2; omega
  have h3 := h3.later hb2 (Nat.le_refl _)
  have hb := below_later hb1 hb2
  obtain ⟨N, hN⟩ : ∃ N, n1 + n4 + 1 = N := ⟨_, rfl⟩
  have hw : (n1 : Int) + n4 + 1 = (N : Int) := by omega
  have hfit := fun j => school_fit (dig_digs (val l)) (dig_digs (val l2)) (N := N) (by have := h3.len; have := h4.len; omega) j
  simp only [val_digs] at hfit
  have HF := Lib.hid hfit
  clear hfit
  go_wp2_with (at_make; refine wpList_make_full _ rfl _ _ 32 rfl w2.heap.size 73 i0 (.int .u64 0) 1 Try.underlying32 hi hz0 hz1 .i64 .i64 _ _ N rfl rfl rfl rfl (by rw [hz2]; omega) (by simp only [maxLen]; omega) (Nat.le_refl _) ?_; intro w3 hr3 hg3)
  have h5 : OwnAt w3 w2.heap.size (some ⟨w2.heap.size, 0, none⟩) N N (List.replicate N 0) := made_own (by rw [← toList_madeCells_one]; rw [Nat.mul_one] at hr3; exact hr3)
  have hb3 : Below w2.heap.size w2 w3 := (Below.refl _ _).grown hg3 (Nat.le_refl _) (fun k e => by cases e)
  clear hr3 hg3 hw
  go_wp2_with fail
  go_loopw [21] (fun i wr => ∃ (k : Nat) (os : List Nat), k ≤ n4 ∧ i = .int .i64 k ∧ OwnAt wr w2.heap.size (some ⟨w2.heap.size, 0, none⟩) N N os ∧ val os = val l * lo (digs (val l2)) k ∧ Below w2.heap.size w2 wr) (fun i _ => n4 - (intOf i).toNat)
  case atStart => exact ⟨0, _, Nat.zero_le _, rfl, h5, by rw [val_replicate, lo_zero, Nat.mul_zero], hb3⟩
  case round =>
    clear hb3 h5
    obtain ⟨k, os, hk, rfl, h6, h7, hb4⟩ := hrel
    have H7 := Lib.hid h7
    clear h7
    by_cases hlt : k < n4
    · have e1 : NatAt wr a1 n1 c1 (digs (val l)) := h3.toNatAt.later hb4 (Nat.le_refl _)
      have e2 : NatAt wr a4 n4 c4 (digs (val l2)) := h4.toNatAt.later hb4 (Nat.le_refl _)
      have d2 := e2.dig.at_ k
      rcases e2.parts with h' | ⟨ba, oa, rfl, _, hca⟩
      · omega
      have hca' := hca k hlt
      clear hca
      have hlow : n1 = 0 ∨ ∀ y, a1 = some y → y.block < w2.heap.size := by
        rcases h3.toNatAt.parts with h' | ⟨b', o', he, hh, _⟩
        · exact .inl h'
        · exact .inr fun y hy => by rw [he] at hy; cases hy; exact hh
      have hnx := school_next H7.out
      have hroom : val os + 18446744073709551616 ^ k * (D (digs (val l2)) k * val (digs (val l))) < 18446744073709551616 ^ N := by rw [val_digs, hnx]; exact HF.out _
      have hline := line_any w2.heap.size 0 N N os k a1 n1 c1 (digs (val l)) (D (digs (val l2)) k) w2.heap.size wr h6 e1 hlow (by omega) d2 (Nat.le_refl _) hroom
      rw [val_digs, hnx, Nat.zero_add] at hline
      have HL := Lib.hid hline
      clear hroom hnx hline
      go_wp2_with fail
      refine HL.out.mono ?_
      rintro e w5 ⟨rfl, hb5, ds, h8, h9⟩
      go_wp2_with fail
      go_roundw
      case rel => exact ⟨k + 1, ds, by omega, by go_num, h8, h9, hb4.trans hb5⟩
      case measure => simp [intOf]; omega
    · obtain rfl : k = n4 := by omega
      clear hlt
      have e : val os = val l * val l2 := by
        have e1 := H7.out
        rwa [lo_all (by rw [h4.len]; exact Nat.le_refl _), val_digs] at e1
      have E := Lib.hid e
      clear e
      go_wp2_with fail
      refine (trim_any _ _ _ os _ h6.toNatAt (by omega)).mono ?_
      rintro e w6 ⟨a6, n6, c6, rfl, h8, hb6⟩
      go_wp2
      go_ret
      rw [E.out] at h8
      exact RetNat.of (below_later hb hb4) ⟨_, _, _, rfl, h8, hb6⟩

set_option maxRecDepth 100000 in
theorem tgrow_any (a : Option Addr) (n c : Nat) (l : List Nat) (x : Nat) (w : World) (h : NatAt w a n c l) (hs : n ≤ 274877906944) (hx : x < 18446744073709551616) :
    Calls Try.prog 92 #[.slice a n c, .int .u64 x] w (RetNat w (val l * x)) := by
  go_enter Try.func92, Try.ntmps92
  go_wp2_with fail
  refine (school_any _ _ _ l _ _ _ [x] _ (h.alloc _) (lit1 w x x rfl hx).toNatAt hs (by decide)).mono ?_
  rintro e w1 ⟨a1, n1, c1, rfl, h3, hb⟩
  go_wp2
  go_ret
  exact RetNat.of ((Below.refl _ _).alloc (Nat.le_refl _) _) ⟨_, _, _, rfl, by simpa [val] using h3, hb⟩

end Go.Proofs.Ytlkoenpdmlbhlaa

/- times, third part: at, less. -/
set_option linter.unusedVariables false
set_option linter.unusedSimpArgs false
namespace Go.Proofs.Ytlkoenpdmlbhlaa
open Go.RowKit

set_option maxRecDepth 100000 in
theorem at_any (a : Option Addr) (n c : Nat) (l : List Nat) (d : Nat) (w : World) (h : NatAt w a n c l) (hs : n ≤ 274877906944) (hd : d ≤ 274877906944) :
    Calls Try.prog 119 #[.slice a n c, .int .i64 (d : Int)] w fun e w' => ∃ a' n' c' L, e = .returned (.slice a' n' c') ∧ OwnAt w' w.heap.size a' n' c' L ∧ val L = 18446744073709551616 ^ d * val l ∧ n' ≤ d + n ∧ Below w.heap.size w w' := by
  obtain ⟨i0, hi, hz0, hz1, hz2⟩ := info_parts info73
  by_cases hn : n = 0
  · subst hn
    have hl : l = [] := List.eq_nil_of_length_eq_zero h.len
    have e : (0 : Nat) = 18446744073709551616 ^ d * val l := by rw [hl]; simp [val]
    have E := Lib.hid e
    clear hl e
    go_enter Try.func119, Try.ntmps119
    go_wp2
    go_ret
    exact ⟨_, _, _, [], rfl, OwnAt.nil _ _, E.out, by omega, Below.refl _ _⟩
  · have t1 : ((n : Int) == 0) = false := by simp only [beq_eq_false_iff_ne]; omega
    clear hn
    go_enter Try.func119, Try.ntmps119
    go_wp2_with (first
      | (at_make; refine wpList_make_full _ rfl _ _ 32 rfl w.heap.size 73 i0 (.int .u64 0) 1 Try.underlying32 hi hz0 hz1 .i64 .i64 _ _ d rfl rfl rfl rfl (by rw [hz2]; omega) (by simp only [maxLen]; omega) (Nat.le_refl _) ?_; intro w2 hr2 hg2)
      | (at_builtin; refine wpList_append_nat rfl _ _ 32 rfl w.heap.size 73 i0 Try.underlying32 hi hz0 hz1 hz2 _ d (dv (List.replicate d 0)) rfl (by rw [dv_replicate, ← toList_madeCells_one]; rw [Nat.mul_one] at hr2; exact hr2) a n c l rfl (h.later ((Below.refl w.heap.size w).grown hg2 (Nat.le_refl _) (fun k e => by cases e)) (Nat.le_refl _)) (by omega) hg2.size ?_; intro a' c' w1 hown hgrow))
    go_ret
    rw [← dv_append] at hown
    obtain ⟨a5, c5, e5, h8⟩ := OwnAt.ofRow hown (dig_append.2 ⟨dig_replicate d, h.dig⟩)
    cases e5
    have hb2 : Below w.heap.size w w2 := (Below.refl _ _).grown hg2 (Nat.le_refl _) (fun k e => by cases e)
    exact ⟨_, _, _, _, rfl, h8, val_shift d l, Nat.le_refl _, hb2.grown hgrow hb2.size (fun k hk => (hr2.lt k hk).1)⟩

theorem D_drop (l : List Nat) (m i : Nat) : D (l.drop m) i = D l (m + i) := by
  simp [D, List.getD_eq_getElem?_getD]
theorem NatAt.drop {w : World} {b o n c : Nat} {l : List Nat} (h : NatAt w (some ⟨b, o, none⟩) n c l) (m : Nat) (hm : m ≤ n) : NatAt w (some ⟨b, o + m, none⟩) (n - m) (c - m) (l.drop m) := by
  refine ⟨by rw [List.length_drop, h.len], by have := h.le; omega, by have := h.cle; omega, h.dig.drop m, ?_, fun e => by cases e⟩
  by_cases h0 : n - m = 0
  · exact .inl h0
  · rcases h.cell with hn | ⟨b', o', he, hc⟩
    · omega
    · cases he
      exact .inr ⟨b, o + m, rfl, fun i hi => by rw [D_drop, Nat.add_assoc]; exact hc (m + i) (by omega)⟩

theorem NatAt.drop_if {w : World} {b o n c : Nat} {l : List Nat} (h : NatAt w (some ⟨b, o, none⟩) n c l) (m : Nat) (hm : m ≤ n) : NatAt w (if c = m then some ⟨b, o, none⟩ else some ⟨b, o + m, none⟩) (n - m) (c - m) (l.drop m) := by
  by_cases e : c = m
  · have h1 := h.drop m hm
    have := h.le
    rw [if_pos e]
    exact ⟨h1.len, h1.le, h1.cle, h1.dig, .inl (by omega), fun e => by cases e⟩
  · rw [if_neg e]; exact h.drop m hm

set_option maxRecDepth 100000 in
/-- the two parts of a number -/
theorem cut_any (BH : Nat) (b o n c g m : Nat) (l : List Nat) (w : World) (hm : min g n = m) (hh : w.cell? ⟨BH, 0, none⟩ = some (.int .i64 (g : Int))) (hl : NatAt w (some ⟨b, o, none⟩) n c l) :
    Calls Try.prog 117 #[.slice (some ⟨b, o, none⟩) n c, .pointer (some ⟨BH, 0, none⟩)] w fun e w' => ∃ a2 n2 c2, e = .returned (.tuple #[.slice (some ⟨b, o, none⟩) m c, .slice a2 n2 c2]) ∧ n2 = n - m ∧ NatAt w' (some ⟨b, o, none⟩) m c (l.take m) ∧ NatAt w' a2 n2 c2 (l.drop m) ∧ Below w.heap.size w w' := by
  have hle := hl.le
  have hcle := hl.cle
  have hm1 : m ≤ n := by omega
  have v1 : min (g : Int) (n : Int) = (m : Int) := by omega
  have hd1 : c = m → NatAt w (some ⟨b, o, none⟩) (n - m) 0 (l.drop m) := fun e => by have := hl.drop_if m hm1; rwa [if_pos e, show c - m = 0 by omega] at this
  have hd2 : ¬ c = m → NatAt w (some ⟨b, o + m, none⟩) (n - m) (c - m) (l.drop m) := fun e => by have := hl.drop_if m hm1; rwa [if_neg e] at this
  have HD1 := Lib.hid hd1
  have HD2 := Lib.hid hd2
  clear hd1 hd2
  go_enter Try.func117, Try.ntmps117
  go_wp2_with fail
  go_quiet (fail)
  go_wp2
  all_goals (first | go_ret2 | skip)
  all_goals
    first
      | (subst h; exact ⟨_, _, _, rfl, rfl, (hl.take hm1).draws _, (HD1.out rfl).draws _, Below.draws (Below.refl _ _) _⟩)
      | exact ⟨_, _, _, rfl, rfl, (hl.take hm1).draws _, (HD2.out h).draws _, Below.draws (Below.refl _ _) _⟩

set_option maxRecDepth 100000 in
/-- a list of two lists -/
theorem less_any (a : Option Addr) (n c : Nat) (l : List Nat) (a1 : Option Addr) (n1 c1 : Nat) (l1 : List Nat) (a2 : Option Addr) (n2 c2 : Nat) (l2 : List Nat) (b o c3 : Nat) (w : World) (h : NatAt w a n c l) (h1 : NatAt w a1 n1 c1 l1) (h2 : NatAt w a2 n2 c2 l2)
    (hc1 : w.cell? ⟨b, o, none⟩ = some (.slice a1 n1 c1)) (hc2 : w.cell? ⟨b, o + 1, none⟩ = some (.slice a2 n2 c2)) (hc3 : 2 ≤ c3 ∧ c3 ≤ 9223372036854775807) (hs : n ≤ 274877906944) (hv : val l1 + val l2 ≤ val l) :
    Calls Try.prog 118 #[.slice a n c, .slice (some ⟨b, o, none⟩) 2 c3] w (RetNat w (val l - val l1 - val l2)) := by
  have hv1 : val l1 ≤ val l := by omega
  have hv2 : val l2 ≤ val (digs (val l - val l1)) := by rw [val_digs]; omega
  have hb := World.block_lt_of_cell? w _ hc1
  go_enter Try.func118, Try.ntmps118
  go_wp2_with fail
  refine wp_loop_rounds 3 ?_
  rw [rounds_succ]
  go_wp2_with fail
  refine (sub_yes _ _ _ l _ _ _ l1 _ h h1 (by omega) hv1).mono ?_
  rintro e w1 ⟨a4, n4, c4, rfl, h4, hb4⟩
  have b4 : n4 ≤ n := by have e1 := h4.len; have e2 := digs_len_mono (Nat.sub_le (val l) (val l1)); have e3 := h.short; omega
  have h2 := h2.later hb4 (Nat.le_refl _)
  have hc2 : w1.cell? ⟨b, o + 1, none⟩ = some (.slice a2 n2 c2) := (hb4.cell (p := ⟨b, o + 1, none⟩) hb).trans hc2
  go_wp2_with fail
  rw [rounds_succ]
  go_wp2_with fail
  refine (sub_yes _ _ _ (digs (val l - val l1)) _ _ _ l2 _ h4.toNatAt h2 (by omega) hv2).mono ?_
  rintro e w2 ⟨a5, n5, c5, rfl, h5, hb5⟩
  rw [val_digs] at h5
  go_wp2_with fail
  rw [rounds_succ]
  go_wp2
  go_ret
  exact RetNat.of hb4 ⟨_, _, _, rfl, h5, hb5⟩

end Go.Proofs.Ytlkoenpdmlbhlaa

/- times, fourth part: halves, Karatsuba, Mul, Square. -/
set_option linter.unusedVariables false
set_option linter.unusedSimpArgs false
namespace Go.Proofs.Ytlkoenpdmlbhlaa
open Go.RowKit

/-- what the closure captures: how many digits at least, and itself -/
structure MulAt (w : World) (BL BM : Nat) (least : Int) : Prop where
  least_ : w.cell? ⟨BL, 0, none⟩ = some (.int .i64 least)
  self_ : w.cell? ⟨BM, 0, none⟩ = some (.func (.func 116) #[] #[.pointer (some ⟨BL, 0, none⟩), .pointer (some ⟨BM, 0, none⟩)])
theorem MulAt.later {w w' : World} {BL BM : Nat} {least : Int} (h : MulAt w BL BM least) (hb : Below w.heap.size w w') : MulAt w' BL BM least := by
  have h1 := World.block_lt_of_cell? w _ h.least_
  have h2 := World.block_lt_of_cell? w _ h.self_
  exact ⟨(hb.cell (p := ⟨BL, 0, none⟩) h1).trans h.least_, (hb.cell (p := ⟨BM, 0, none⟩) h2).trans h.self_⟩
theorem MulAt.alloc {w : World} {BL BM : Nat} {least : Int} (h : MulAt w BL BM least) (o : Obj) : MulAt (w.alloc o) BL BM least := h.later ((Below.refl _ _).alloc (Nat.le_refl _) o)

theorem MulAt.drew {w : World} {BL BM : Nat} {least : Int} (h : MulAt w BL BM least) : MulAt w.drew BL BM least := h.later (Below.refl _ _).drew

/-- a written list of two values -/
structure LitV (w : World) (b : Nat) (x y : Value) : Prop where
  one : w.cell? ⟨b, 0, none⟩ = some x
  two : w.cell? ⟨b, 0 + 1, none⟩ = some y
theorem lit_new {E : Nat} (w : World) (x y : Value) : LitV (w.alloc (.cells #[x, y] E)) w.heap.size x y :=
  ⟨by rw [World.cell?_alloc_at _ _ _ _ rfl]; rfl, by rw [World.cell?_alloc_at _ _ _ _ rfl]; rfl⟩
theorem LitV.past {w w' : World} {b : Nat} {x y : Value} (h : LitV w b x y) (hb : Below w.heap.size w w') : LitV w' b x y := by
  have h1 := World.block_lt_of_cell? w _ h.one
  exact ⟨(hb.cell (p := ⟨b, 0, none⟩) h1).trans h.one, (hb.cell (p := ⟨b, 0 + 1, none⟩) h1).trans h.two⟩
theorem LitV.drew {w : World} {b : Nat} {x y : Value} (h : LitV w b x y) : LitV w.drew b x y := h.past (Below.refl _ _).drew

theorem cut_val {L : List Nat} {g n p : Nat} (hn : L.length = n) (hp : min g n = p) : val L = val (L.take p) + 18446744073709551616 ^ g * val (L.drop p) := by
  subst hn
  subst hp
  rcases Nat.le_total g L.length with h | h
  · rw [Nat.min_eq_left h]; exact lo_hi L g
  · rw [Nat.min_eq_right h, List.drop_length, List.take_length, val_nil, Nat.mul_zero, Nat.add_zero]

set_option maxHeartbeats 4000000 in
set_option maxRecDepth 100000 in
theorem mulc_any (M : Nat) : ∀ (a : Option Addr) (n c : Nat) (l : List Nat) (a2 : Option Addr) (n2 c2 : Nat) (l2 : List Nat) (BL BM : Nat) (least : Int) (w : World), NatAt w a n c l → NatAt w a2 n2 c2 l2 → n ≤ M → n2 ≤ M → M ≤ 68719476736 → MulAt w BL BM least →
    Calls Try.prog 116 #[.slice a n c, .slice a2 n2 c2, .pointer (some ⟨BL, 0, none⟩), .pointer (some ⟨BM, 0, none⟩)] w (RetNat w (val l * val l2)) := by
  induction M using Nat.strongRecOn with
  | _ M ih =>
  intro a n c l a2 n2 c2 l2 BL BM least w h h2 hn hn2 hM hmul
  by_cases hless : min (digs (val l)).length (digs (val l2)).length < max least 4
  · go_enter Try.func116, Try.ntmps116
    go_wp2_with fail
    refine (trim_any _ _ _ l _ h (by omega)).mono ?_
    rintro e w1 ⟨a1, n1, c1, rfl, h3, hb1⟩
    have h2 := h2.later hb1 (Nat.le_refl _)
    have hmul := hmul.later hb1
    go_wp2_with fail
    refine (trim_any _ _ _ l2 _ h2 (by omega)).mono ?_
    rintro e w2 ⟨a4, n4, c4, rfl, h4, hb2⟩
    have h3 := h3.later hb2 (Nat.le_refl _)
    have hmul := hmul.later hb2
    have b1 : n1 ≤ n := by have e1 := h3.len; have e2 := h.short; omega
    have b4 : n4 ≤ n2 := by have e1 := h4.len; have e2 := h2.short; omega
    have hb := below_later hb1 hb2
    have cl := hmul.least_
    have cm := hmul.self_
    have hless' : min (n1 : Int) (n4 : Int) < max least 4 := by have e1 := h3.len; have e2 := h4.len; omega
    go_wp2_with fail
    refine (school_any _ _ _ (digs (val l)) _ _ _ (digs (val l2)) _ h3.toNatAt h4.toNatAt (by omega) (by omega)).mono ?_
    rintro e w3 ⟨a5, n5, c5, rfl, h5, hb5⟩
    rw [val_digs, val_digs] at h5
    go_wp2
    go_ret
    exact RetNat.of hb ⟨_, _, _, rfl, h5, hb5⟩
  · go_enter Try.func116, Try.ntmps116
    go_wp2_with fail
    refine (trim_any _ _ _ l _ h (by omega)).mono ?_
    rintro e w1 ⟨a1, n1, c1, rfl, h3, hb1⟩
    have h2 := h2.later hb1 (Nat.le_refl _)
    have hmul := hmul.later hb1
    go_wp2_with fail
    refine (trim_any _ _ _ l2 _ h2 (by omega)).mono ?_
    rintro e w2 ⟨a4, n4, c4, rfl, h4, hb2⟩
    have h3 := h3.later hb2 (Nat.le_refl _)
    have hmul := hmul.later hb2
    have b1 : n1 ≤ n := by have e1 := h3.len; have e2 := h.short; omega
    have b4 : n4 ≤ n2 := by have e1 := h4.len; have e2 := h2.short; omega
    have hb := below_later hb1 hb2
    have cl := hmul.least_
    have cm := hmul.self_
    have hless' : ¬ min (n1 : Int) (n4 : Int) < max least 4 := by have e1 := h3.len; have e2 := h4.len; omega
    have m1 : 4 ≤ n1 := by omega
    have m4 : 4 ≤ n4 := by omega
    obtain ⟨g, hg⟩ : ∃ g : Nat, (max n1 n4 + 1) / 2 = g := ⟨_, rfl⟩
    have hg1 : (max (n1 : Int) (n4 : Int) + 1) / 2 = (g : Int) := by omega
    have hg2 : g + 2 ≤ M := by omega
    clear hless hg
    go_wp2_with fail
    have ch : (w2.alloc (Obj.cells #[Value.int IntKind.i64 (g : Int)] 3)).cell? ⟨w2.heap.size, 0, none⟩ = some (.int .i64 (g : Int)) := by rw [World.cell?_alloc_at _ _ _ _ rfl]; rfl
    have hb := below_alloc hb (Obj.cells #[Value.int IntKind.i64 (g : Int)] 3)
    have h3 := h3.toNatAt.alloc (Obj.cells #[Value.int IntKind.i64 (g : Int)] 3)
    have h4 := h4.toNatAt.alloc (Obj.cells #[Value.int IntKind.i64 (g : Int)] 3)
    have hmul := hmul.alloc (Obj.cells #[Value.int IntKind.i64 (g : Int)] 3)
    rw [hg1]
    generalize w2.alloc (Obj.cells #[Value.int IntKind.i64 (g : Int)] 3) = W0 at *
    obtain ⟨BH, hBH⟩ : ∃ BH, w2.heap.size = BH := ⟨_, rfl⟩
    rw [hBH] at ch ⊢
    clear hBH
    obtain ⟨p, hp⟩ : ∃ p, min g n1 = p := ⟨_, rfl⟩
    obtain ⟨q, hq⟩ : ∃ q, min g n4 = q := ⟨_, rfl⟩
    rcases h3.parts with h' | ⟨ba, oa, rfl, _, _⟩
    · omega
    rcases h4.parts with h' | ⟨bb, ob, rfl, _, _⟩
    · omega
    have ev := cut_val h3.len hp
    have ev2 := cut_val h4.len hq
    rw [val_digs] at ev ev2
    have EV := Lib.hid ev
    have EV2 := Lib.hid ev2
    clear ev ev2
    refine (cut_any BH ba oa n1 c1 g p _ W0 hp ch h3).mono ?_
    rintro e w3 ⟨a6, n6, c6, rfl, rfl, k1, k2, hb3⟩
    have ch := (hb3.cell (p := ⟨BH, 0, none⟩) (World.block_lt_of_cell? _ _ ch)).trans ch
    have h4 := h4.past hb3
    have hmul := hmul.later hb3
    have hb := below_later hb hb3
    clear hb3
    go_wp2_with fail
    refine (cut_any BH bb ob n4 c4 g q _ w3 hq ch h4).mono ?_
    rintro e w4 ⟨a7, n7, c7, rfl, rfl, k3, k4, hb4⟩
    have k1 := k1.past hb4
    have k2 := k2.past hb4
    have ch := (hb4.cell (p := ⟨BH, 0, none⟩) (World.block_lt_of_cell? _ _ ch)).trans ch
    have hmul := hmul.later hb4
    have hb := below_later hb hb4
    clear hb4 h3 h4 h h2
    generalize (digs (val l)).take p = A0 at *
    generalize (digs (val l)).drop p = A1 at *
    generalize (digs (val l2)).take q = B0 at *
    generalize (digs (val l2)).drop q = B1 at *
    have cm := hmul.self_
    have IH := Lib.hid (ih (M - 1) (by omega))
    have w1 : p ≤ M - 1 := by omega
    have w2 : q ≤ M - 1 := by omega
    have w3 : n1 - p ≤ M - 1 := by omega
    have w4 : n4 - q ≤ M - 1 := by omega
    have w5 : M - 1 ≤ 68719476736 := by omega
    have w6 : n1 - p + 2 ≤ M ∧ n4 - q + 2 ≤ M ∧ p + 2 ≤ M ∧ q + 2 ≤ M ∧ M ≤ 68719476736 ∧ g ≤ 68719476736 := by omega
    have W6 := Lib.hid w6
    have W1 := Lib.hid w1
    have W2 := Lib.hid w2
    have W3 := Lib.hid w3
    have W4 := Lib.hid w4
    have W5 := Lib.hid w5
    clear cl ih w1 w2 w3 w4 w5 w6
    go_wp2_with fail
    clear hless' hn hn2 hM hg1 b1 b4 m1 m4 hp hq hg2
    go_region_held3 (fun w' => w'.cell? ⟨BM, 0, none⟩ = some (.func (.func 116) #[] #[.pointer (some ⟨BL, 0, none⟩), .pointer (some ⟨BM, 0, none⟩)])) (first | assumption)
      (first
        | (go_at_call 116; go_fit (IH.out _ _ _ A0 _ _ _ B0 BL BM least _ k1.drew k3.drew W1.out W2.out W5.out hmul.drew); rintro e w5 ⟨a8, n8, c8, rfl, h8, hb5⟩; have hmul5 := hmul.drew.later hb5; have cm5 := hmul5.self_)
        | (go_at_call 116; go_fit (IH.out _ _ _ A1 _ _ _ B1 BL BM least _ (k2.drew.past hb5) (k4.drew.past hb5) W3.out W4.out W5.out hmul5); rintro e w6 ⟨a9, n9, c9, rfl, h9, hb6⟩; have hmul6 := hmul5.later hb6; have cm6 := hmul6.self_))
    have lBH := World.block_lt_of_cell? w4 _ ch
    have ch := (hb5.cell (p := ⟨BH, 0, none⟩) lBH).trans ch
    have ch := (hb6.cell (p := ⟨BH, 0, none⟩) (World.block_lt_of_cell? w5 _ ch)).trans ch
    have k1 := (k1.drew.past hb5).past hb6
    have k2 := (k2.drew.past hb5).past hb6
    have k3 := (k3.drew.past hb5).past hb6
    have k4 := (k4.drew.past hb5).past hb6
    have h8 := h8.toNatAt.past hb6
    have h9 := h9.toNatAt
    have hb := below_later (below_later hb.drew hb5) hb6
    clear hb5 hb6 lBH cm cm5 hmul hmul5
    obtain ⟨x1, x2, x3, x4, x5, x6⟩ := W6.out
    have s1 := k1.short
    have s2 := k2.short
    have s3 := k3.short
    have s4 := k4.short
    have hA : (digs (val A0 + val A1)).length ≤ M - 1 := by have := digs_len_add (val A0) (val A1); omega
    have hB : (digs (val B0 + val B1)).length ≤ M - 1 := by have := digs_len_add (val B0) (val B1); omega
    have hN : (digs ((val A0 + val A1) * (val B0 + val B1))).length ≤ 137438953472 := by have := digs_len_prod (val A0 + val A1) (val B0 + val B1); omega
    have hL : n8 ≤ 137438953472 := by have := digs_len_prod (val A0) (val B0); have := h8.len; omega
    have hH : n9 ≤ 137438953472 := by have := digs_len_prod (val A1) (val B1); have := h9.len; omega
    have hM : (digs ((val A0 + val A1) * (val B0 + val B1) - val A0 * val B0 - val A1 * val B1)).length ≤ 137438953472 := Nat.le_trans (digs_len_mono (Nat.le_trans (Nat.sub_le _ _) (Nat.sub_le _ _))) hN
    have hV : val (digs (val A0 * val B0)) + val (digs (val A1 * val B1)) ≤ val (digs ((val A0 + val A1) * (val B0 + val B1))) := by
      rw [val_digs, val_digs, val_digs, Nat.add_mul, Nat.mul_add, Nat.mul_add]; omega
    have z1 : p ≤ 549755813888 := by omega
    have z2 : n1 - p ≤ 549755813888 := by omega
    have z3 : q ≤ 549755813888 := by omega
    have z4 : n4 - q ≤ 549755813888 := by omega
    have Z1 := Lib.hid z1
    have Z2 := Lib.hid z2
    have Z3 := Lib.hid z3
    have Z4 := Lib.hid z4
    have HA := Lib.hid hA
    have HB := Lib.hid hB
    have HN := Lib.hid (Nat.le_trans hN (show 137438953472 ≤ 274877906944 by decide))
    have HL := Lib.hid hL
    have HH := Lib.hid hH
    have HM := Lib.hid hM
    have HV := Lib.hid hV
    obtain ⟨g2, hg2⟩ : ∃ g2, 2 * g = g2 := ⟨_, rfl⟩
    have hg3 : g2 ≤ 274877906944 := by omega
    have hg4 : g ≤ 274877906944 := by omega
    have v2 : IntKind.i64.wrap (2 * (g : Int)) = (g2 : Int) := by rw [IntWalk.i64_in _ (by omega)]; omega
    have G2 := Lib.hid hg2
    have G3 := Lib.hid hg3
    have G4 := Lib.hid hg4
    have V2 := Lib.hid v2
    have lBM := World.block_lt_of_cell? w6 _ cm6
    have LBM := Lib.hid lBM
    clear x1 x2 x3 x4 x5 x6 s1 s2 s3 s4 hA hB hN hL hH hM hV z1 z2 z3 z4 hg2 hg3 hg4 v2 lBM
    go_wp2_with fail
    go_region_held3 (fun w' => w'.cell? ⟨BM, 0, none⟩ = some (.func (.func 116) #[] #[.pointer (some ⟨BL, 0, none⟩), .pointer (some ⟨BM, 0, none⟩)]) ∧ Below w6.heap.size w6 w')
      (first
        | exact ⟨cm6, (Below.refl _ _).drew⟩
        | (rename _ ∧ Below w6.heap.size w6 _ => hS
           first
             | exact ⟨((below_later hS.2 hb10).cell (p := ⟨BM, 0, none⟩) LBM.out).trans cm6, below_later hS.2 hb10⟩
             | exact ⟨((below_later hS.2 hb9).cell (p := ⟨BM, 0, none⟩) LBM.out).trans cm6, below_later hS.2 hb9⟩
             | exact ⟨((below_later hS.2 hb8).cell (p := ⟨BM, 0, none⟩) LBM.out).trans cm6, below_later hS.2 hb8⟩
             | exact ⟨((below_later hS.2 hb7).cell (p := ⟨BM, 0, none⟩) LBM.out).trans cm6, below_later hS.2 hb7⟩
             | exact ⟨((below_alloc hS.2 _).cell (p := ⟨BM, 0, none⟩) LBM.out).trans cm6, below_alloc hS.2 _⟩))
      (first
        | (go_at_call 96; rename _ ∧ Below w6.heap.size w6 _ => hS
           go_fit (add_any _ _ _ A0 _ _ _ A1 _ (k1.past hS.2) (k2.past hS.2) Z1.out Z2.out)
           rintro e w7 ⟨a10, n10, c10, rfl, h10, hb7⟩)
        | (go_at_call 96; rename _ ∧ Below w6.heap.size w6 _ => hS
           go_fit (add_any _ _ _ B0 _ _ _ B1 _ (k3.past hS.2) (k4.past hS.2) Z3.out Z4.out)
           rintro e w8 ⟨a11, n11, c11, rfl, h11, hb8⟩)
        | (go_at_call 116; rename _ ∧ Below w6.heap.size w6 _ => hS
           first
             | go_fit (IH.out _ _ _ (digs (val A0 + val A1)) _ _ _ (digs (val B0 + val B1)) BL BM least _ (h10.toNatAt.past hb8) h11.toNatAt (h10.len ▸ HA.out) (h11.len ▸ HB.out) W5.out (hmul6.later hS.2))
             | go_fit (IH.out _ _ _ (digs (val A0 + val A1)) _ _ _ (digs (val B0 + val B1)) BL BM least _ ((h10.toNatAt.alloc _).past hb8) h11.toNatAt (h10.len ▸ HA.out) (h11.len ▸ HB.out) W5.out (hmul6.later hS.2))
             | go_fit (IH.out _ _ _ (digs (val A0 + val A1)) _ _ _ (digs (val B0 + val B1)) BL BM least _ ((h10.toNatAt.past hb8).alloc _) (h11.toNatAt.alloc _) (h10.len ▸ HA.out) (h11.len ▸ HB.out) W5.out (hmul6.later hS.2))
           rintro e w9 ⟨a12, n12, c12, rfl, h12, hb9⟩
           rw [val_digs, val_digs] at h12)
        | (go_at_call 118; rename _ ∧ Below w6.heap.size w6 _ => hS
           first
             | go_fit (less_any _ _ _ (digs ((val A0 + val A1) * (val B0 + val B1))) _ _ _ (digs (val A0 * val B0)) _ _ _ (digs (val A1 * val B1)) _ 0 2 _ (h12.toNatAt.alloc _) (h8.past hS.2) (h9.past hS.2) (lit_new w9 _ _).one (lit_new w9 _ _).two ⟨by decide, by decide⟩ (h12.len ▸ HN.out) HV.out)
             | go_fit (less_any _ _ _ (digs ((val A0 + val A1) * (val B0 + val B1))) _ _ _ (digs (val A0 * val B0)) _ _ _ (digs (val A1 * val B1)) _ 0 2 _ h12.toNatAt (h8.past hS.2) (h9.past hS.2) ((lit_new w8 _ _).past hb9).one ((lit_new w8 _ _).past hb9).two ⟨by decide, by decide⟩ (h12.len ▸ HN.out) HV.out)
             | go_fit (less_any _ _ _ (digs ((val A0 + val A1) * (val B0 + val B1))) _ _ _ (digs (val A0 * val B0)) _ _ _ (digs (val A1 * val B1)) _ 0 2 _ h12.toNatAt (h8.past hS.2) (h9.past hS.2) (((lit_new w7 _ _).past hb8).past hb9).one (((lit_new w7 _ _).past hb8).past hb9).two ⟨by decide, by decide⟩ (h12.len ▸ HN.out) HV.out)
             | go_fit (less_any _ _ _ (digs ((val A0 + val A1) * (val B0 + val B1))) _ _ _ (digs (val A0 * val B0)) _ _ _ (digs (val A1 * val B1)) _ 0 2 _ h12.toNatAt (h8.past hS.2) (h9.past hS.2) ((((lit_new w6 _ _).drew.past hb7).past hb8).past hb9).one ((((lit_new w6 _ _).drew.past hb7).past hb8).past hb9).two ⟨by decide, by decide⟩ (h12.len ▸ HN.out) HV.out)
           rintro e w10 ⟨a13, n13, c13, rfl, h13, hb10⟩
           simp only [val_digs] at h13))
    all_goals
      rename _ ∧ Below w6.heap.size w6 w10 => hS
      have chx := (hS.2.cell (p := ⟨BH, 0, none⟩) (World.block_lt_of_cell? w6 _ ch)).trans ch
      have i8 := h8.past hS.2
      have i9 := h9.past hS.2
      have hbF := below_later hb hS.2
      have fin : val (digs (val A0 * val B0)) + 18446744073709551616 ^ g * val (digs ((val A0 + val A1) * (val B0 + val B1) - val A0 * val B0 - val A1 * val B1)) + 18446744073709551616 ^ g2 * val (digs (val A1 * val B1)) = val l * val l2 := by
        rw [val_digs, val_digs, val_digs, EV.out, EV2.out, ← G2.out, show 2 * g = g + g by omega, Nat.pow_add]
        exact halves_eq _ _ _ _ _
      have FIN := Lib.hid fin
      have lx := World.block_lt_of_cell? w10 _ chx
      have LX := Lib.hid lx
      have v2 := V2.out
      clear hS h8 h9 hb7 hb8 hb9 hb10 h10 h11 h12 k1 k2 k3 k4 hb ch cm6 hmul6 fin lx
      go_wp2_with fail
      go_region_held3 (fun w' => w'.cell? ⟨BH, 0, none⟩ = some (.int .i64 (g : Int)) ∧ Below w10.heap.size w10 w')
        (first
          | exact ⟨chx, (Below.refl _ _).drew⟩
          | (rename _ ∧ Below w10.heap.size w10 _ => hT
             first
               | exact ⟨((below_later hT.2 hb14).cell (p := ⟨BH, 0, none⟩) LX.out).trans chx, below_later hT.2 hb14⟩
               | exact ⟨((below_later hT.2 hb13).cell (p := ⟨BH, 0, none⟩) LX.out).trans chx, below_later hT.2 hb13⟩
               | exact ⟨((below_later hT.2 hb12).cell (p := ⟨BH, 0, none⟩) LX.out).trans chx, below_later hT.2 hb12⟩
               | exact ⟨((below_later hT.2 hb11).cell (p := ⟨BH, 0, none⟩) LX.out).trans chx, below_later hT.2 hb11⟩))
        (first
          | (go_at_call 119; rename _ ∧ Below w10.heap.size w10 _ => hT
             go_fit (at_any _ _ _ (digs ((val A0 + val A1) * (val B0 + val B1) - val A0 * val B0 - val A1 * val B1)) g _ (h13.toNatAt.past hT.2) (h13.len ▸ (Nat.le_trans HM.out (by decide))) G4.out)
             rintro e w11 ⟨a14, n14, c14, L14, rfl, h14, y14, m14, hb11⟩
             have q14 : n14 ≤ 412316860416 := by have e1 := h13.len; have e2 := HM.out; have e3 := G4.out; omega
             have Q14 := Lib.hid q14
             have Y14 := Lib.hid y14
             clear y14 m14 q14)
          | (go_at_call 96; rename _ ∧ Below w10.heap.size w10 _ => hT
             go_fit (add_any _ _ _ (digs (val A0 * val B0)) _ _ _ L14 _ (i8.past hT.2) h14.toNatAt (Nat.le_trans HL.out (by decide)) (Nat.le_trans Q14.out (by decide)))
             rintro e w12 ⟨a15, n15, c15, rfl, h15, hb12⟩
             have q15 : n15 ≤ 549755813888 := by have e1 := h15.len; have e2 := digs_len_add (val (digs (val A0 * val B0))) (val L14); have e3 := h14.toNatAt.short; have e4 := i8.short; have e5 := HL.out; have e6 := Q14.out; omega
             have Q15 := Lib.hid q15
             clear q15)
          | (go_at_call 119; rename _ ∧ Below w10.heap.size w10 _ => hT
             go_fit (at_any _ _ _ (digs (val A1 * val B1)) g2 _ (i9.past hT.2) (Nat.le_trans HH.out (by decide)) G3.out)
             rintro e w13 ⟨a16, n16, c16, L16, rfl, h16, y16, m16, hb13⟩
             have q16 : n16 ≤ 549755813888 := by have e2 := HH.out; have e3 := G3.out; omega
             have Q16 := Lib.hid q16
             have Y16 := Lib.hid y16
             clear y16 m16 q16)
          | (go_at_call 96; rename _ ∧ Below w10.heap.size w10 _ => hT
             go_fit (add_any _ _ _ (digs (val (digs (val A0 * val B0)) + val L14)) _ _ _ L16 _ (h15.toNatAt.past hb13) h16.toNatAt Q15.out Q16.out)
             rintro e w14 ⟨a17, n17, c17, rfl, h17, hb14⟩))
      rename _ ∧ Below w10.heap.size w10 w14 => hT
      rename _ ∧ Below w10.heap.size w10 w13 => hU
      go_wp2
      go_ret
      rw [val_digs, Y14.out, Y16.out, FIN.out] at h17
      exact ⟨_, _, _, rfl, h17.mono (below_later hbF hU.2).size, below_later hbF hT.2⟩

set_option maxRecDepth 100000 in
theorem halves_any (a : Option Addr) (n c : Nat) (l : List Nat) (a2 : Option Addr) (n2 c2 : Nat) (l2 : List Nat) (least : Int) (w : World) (h : NatAt w a n c l) (h2 : NatAt w a2 n2 c2 l2) (hs : n ≤ 68719476736) (hs2 : n2 ≤ 68719476736) :
    Calls Try.prog 103 #[.slice a n c, .slice a2 n2 c2, .int .i64 least] w (RetNat w (val l * val l2)) := by
  have hcell : ((w.alloc (Obj.cells #[Value.int IntKind.i64 least] 3)).alloc (Obj.cells #[Value.nilFunc] 99)).cell? ⟨w.heap.size + 1, 0, none⟩ = some .nilFunc := World.cell?_alloc_at _ _ _ _ (by simp)
  have hfro : ((w.alloc (Obj.cells #[Value.int IntKind.i64 least] 3)).alloc (Obj.cells #[Value.nilFunc] 99)).frozen? ⟨w.heap.size + 1, 0, none⟩ = false := World.frozen?_alloc_at _ _ _ _ (by simp)
  have hbel : Below w.heap.size w ((w.alloc (Obj.cells #[Value.int IntKind.i64 least] 3)).alloc (Obj.cells #[.func (.func 116) #[] #[.pointer (some ⟨w.heap.size, 0, none⟩), .pointer (some ⟨w.heap.size + 1, 0, none⟩)]] 99)) := ((Below.refl _ _).alloc (Nat.le_refl _) _).alloc (by simp) _
  have hmul : MulAt ((w.alloc (Obj.cells #[Value.int IntKind.i64 least] 3)).alloc (Obj.cells #[.func (.func 116) #[] #[.pointer (some ⟨w.heap.size, 0, none⟩), .pointer (some ⟨w.heap.size + 1, 0, none⟩)]] 99)) w.heap.size (w.heap.size + 1) least := by
    refine ⟨?_, ?_⟩
    · rw [World.cell?_alloc_past _ _ _ (by simp), World.cell?_alloc_at _ _ _ _ rfl]; rfl
    · rw [World.cell?_alloc_at _ _ _ _ (by simp)]; rfl
  go_enter Try.func103, Try.ntmps103
  go_wp2_with fail
  refine (mulc_any (max n n2) a n c l a2 n2 c2 l2 w.heap.size (w.heap.size + 1) least _ (h.later hbel (Nat.le_refl _)) (h2.later hbel (Nat.le_refl _)) (by omega) (by omega) (by omega) hmul).mono ?_
  rintro e w1 ⟨a1, n1, c1, rfl, h3, hb1⟩
  go_wp2
  go_ret
  exact RetNat.of hbel ⟨_, _, _, rfl, h3, hb1⟩

set_option maxRecDepth 100000 in
theorem tmul_any (a : Option Addr) (n c : Nat) (l : List Nat) (a2 : Option Addr) (n2 c2 : Nat) (l2 : List Nat) (w : World) (h : NatAt w a n c l) (h2 : NatAt w a2 n2 c2 l2) (hs : n ≤ 68719476736) (hs2 : n2 ≤ 68719476736) :
    Calls Try.prog 85 #[.slice a n c, .slice a2 n2 c2] w (RetNat w (val l * val l2)) := by
  go_enter Try.func85, Try.ntmps85
  go_wp2_with fail
  refine (halves_any _ _ _ l _ _ _ l2 _ _ h h2 hs hs2).mono ?_
  rintro e w1 ⟨a1, n1, c1, rfl, h3, hb1⟩
  go_wp2
  go_ret
  exact ⟨_, _, _, rfl, h3, hb1⟩
end Go.Proofs.Ytlkoenpdmlbhlaa
