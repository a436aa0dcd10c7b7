import Derived.Test.YtoecndogaklngaaGreatDoorS0Df
import Derived.Test.YtoecndogaklngaaGreatDoorRefs1Df
import Derived.Test.YtoecndogaklngaaGreatDoorTimes1Df
set_option linter.unusedVariables false
set_option linter.unusedSimpArgs false
namespace Go.Proofs.YtoecndogaklngaaGreatDoor
open Go.RowKit
theorem mdc (a : Nat) : a * 4294967296 / 4294967296 = a := Nat.mul_div_cancel _ (by decide)
theorem shlN (a : Nat) : IntKind.u64.wrap ((a : Int) * 4294967296) = ((a % 4294967296 * 4294967296 : Nat) : Int) := by rw [IntKind.wrap_u64]; omega
theorem both_parts (x y : Nat) (hx : x < 18446744073709551616) (hy : y < 18446744073709551616) :
 ∃ p00 p10 p01 p11 : Nat, x % 4294967296 * (y % 4294967296) = p00 ∧ x / 4294967296 * (y % 4294967296) = p10 ∧ x % 4294967296 * (y / 4294967296) = p01 ∧ x / 4294967296 * (y / 4294967296) = p11 ∧
  p00 ≤ 18446744065119617025 ∧ p10 ≤ 18446744065119617025 ∧ p01 ≤ 18446744065119617025 ∧ p11 ≤ 18446744065119617025 ∧ x * y = p11 * 18446744073709551616 + (p10 + p01) * 4294967296 + p00 := by
 refine ⟨_, _, _, _, rfl, rfl, rfl, rfl, Lib.half_mul_le (by omega) (by omega), Lib.half_mul_le (by omega) (by omega), Lib.half_mul_le (by omega) (by omega), Lib.half_mul_le (by omega) (by omega), ?_⟩
 have e := Lib.split_mul (x / 4294967296) (x % 4294967296) (y / 4294967296) (y % 4294967296) 4294967296
 rw [Nat.div_add_mod' x 4294967296, Nat.div_add_mod' y 4294967296] at e
 rw [e]
set_option maxHeartbeats 1000000 in
set_option maxRecDepth 100000 in
theorem both_any (x y : Nat) (hx : x < 18446744073709551616) (hy : y < 18446744073709551616) :
 ∃ g u : Nat, g < 18446744073709551616 ∧ u < 18446744073709551616 ∧ u + 18446744073709551616 * g = x * y ∧
  ∀ w, Calls Tryz.prog 79 #[.int .u64 x, .int .u64 y] w fun e w' => e = .returned (.tuple #[.int .u64 ((g : Nat) : Int), .int .u64 ((u : Nat) : Int)]) ∧ w = w' := by
 obtain ⟨p00, p10, p01, p11, e00, e10, e01, e11, b00, b10, b01, b11, hxy⟩ := both_parts x y hx hy
 obtain ⟨one, h1⟩ : ∃ one, p10 + p00 / 4294967296 = one := ⟨_, rfl⟩
 obtain ⟨two, h2⟩ : ∃ two, p01 + one % 4294967296 = two := ⟨_, rfl⟩
 refine ⟨p11 + one / 4294967296 + two / 4294967296, two % 4294967296 * 4294967296 + p00 % 4294967296, ?_, ?_, ?_, fun w => ?_⟩
 · omega
 · omega
 · omega
 · have w00 : IntKind.u64.wrap (p00 : Int) = (p00 : Int) := wrapN _ (by omega)
   have w10 : IntKind.u64.wrap (p10 : Int) = (p10 : Int) := wrapN _ (by omega)
   have w01 : IntKind.u64.wrap (p01 : Int) = (p01 : Int) := wrapN _ (by omega)
   have w11 : IntKind.u64.wrap (p11 : Int) = (p11 : Int) := wrapN _ (by omega)
   have wo : IntKind.u64.wrap (one : Int) = (one : Int) := wrapN _ (by omega)
   have wt : IntKind.u64.wrap (two : Int) = (two : Int) := wrapN _ (by omega)
   have wh1 : IntKind.u64.wrap ((p11 + one / 4294967296 : Nat) : Int) = ((p11 + one / 4294967296 : Nat) : Int) := wrapN _ (by omega)
   have wh2 : IntKind.u64.wrap ((p11 + one / 4294967296 + two / 4294967296 : Nat) : Int) = ((p11 + one / 4294967296 + two / 4294967296 : Nat) : Int) := wrapN _ (by omega)
   have wl : IntKind.u64.wrap ((two % 4294967296 * 4294967296 + p00 % 4294967296 : Nat) : Int) = ((two % 4294967296 * 4294967296 + p00 % 4294967296 : Nat) : Int) := wrapN _ (by omega)
   clear b00 b10 b01 b11 hxy
   go_enter Tryz.func79, Tryz.ntmps79
   go_wp2
   simp only [mdc, divN, mulN, e00, e10, e01, e11, w00, w10, w01, w11, addN, h1, wo, h2, wt, wh1, wh2, shlN, wl]
   go_ret2
   exact ⟨rfl, rfl⟩
theorem rgrow_step {o l : List Nat} {x i c s k : Nat} (ho : o.length = i) (h : lo o i + 18446744073709551616 ^ i * c = lo l i * x) (hs : s + 18446744073709551616 * k = D l i * x + c) :
 lo (o ++ [s]) (i + 1) + 18446744073709551616 ^ (i + 1) * k = lo l (i + 1) * x := by
 rw [lo_snoc ho, lo_step l, Nat.add_mul, ← h, Nat.pow_succ, Nat.mul_assoc]
 have e : 18446744073709551616 ^ i * (s + 18446744073709551616 * k) = 18446744073709551616 ^ i * (D l i * x + c) := by rw [hs]
 simp only [Nat.mul_add] at e
 rw [Nat.mul_assoc (18446744073709551616 ^ i) (D l i)]
 omega
set_option maxHeartbeats 2000000 in
set_option maxRecDepth 100000 in
theorem rgrow_any (a : Option Addr) (n c : Nat) (l : List Nat) (x : Nat) (w : World) (h : NatAt w a n c l) (hs : n ≤ 274877906944) (hx : x < 18446744073709551616) :
 Calls Tryz.prog 58 #[.slice a n c, .int .u64 x] w (RetNat w (val l * x)) := by
 obtain ⟨i0, hi, hz0, hz1, hz2⟩ := info_parts info42
 go_enter Tryz.func58, Tryz.ntmps58
 go_wp2_with fail
 go_loopw [5, 6, 7] (fun v cy i wr => ∃ (k y : Nat) (os : List Nat) (b : Option Addr) (cc : Nat), k ≤ n ∧ y < 18446744073709551616 ∧ i = .int .i64 k ∧ cy = .int .u64 y ∧ v = .slice b k cc ∧ Dig os ∧ os.length = k ∧ wr.ownsRow w.heap.size 42 1 (.slice b k cc) k (dv os) ∧ lo os k + 18446744073709551616 ^ k * y = lo l k * x ∧ Below w.heap.size w wr) (fun _ _ i _ => n - (intOf i).toNat)
 case atStart => exact ⟨0, 0, [], none, 0, Nat.zero_le _, by decide, rfl, rfl, rfl, dig_nil, rfl, World.ownsRow_nil _ _ _ _, by simp [lo_zero], Below.refl _ _⟩
 case round =>
  obtain ⟨k, y, os, b, cc, hk, hy, rfl, rfl, rfl, hdo, hlo, hrow, h5, h6⟩ := hrel
  have H5 := Lib.hid h5
  have HLO := Lib.hid hlo
  clear h5 hlo
  by_cases hlt : k < n
  · have e1 := h.later h6 (Nat.le_refl _)
    have d1 := h.dig.at_ k
    rcases e1.parts with h' | ⟨ba, oa, rfl, _, hca⟩
    · omega
    have hca' := hca k hlt
    clear hca
    obtain ⟨g, u, hg, hu, hgu, hboth⟩ := both_any (D l k) x d1 hx
    obtain ⟨s, hs1, hs2⟩ : ∃ s : Nat, IntKind.u64.wrap ((u : Int) + (y : Int)) = (s : Int) ∧ s = (u + y) % 18446744073709551616 := ⟨_, by rw [IntKind.wrap_u64]; omega, rfl⟩
    have hsB : s < 18446744073709551616 := by omega
    have key1 : s < y → s + 18446744073709551616 * (g + 1) = D l k * x + y := by omega
    have key0 : ¬ s < y → s + 18446744073709551616 * g = D l k * x + y := by omega
    have fit1 : s < y → g + 1 < 18446744073709551616 := fun hc => digit_fits (z := 0) d1 hx hy (by decide) (by have := key1 hc; omega)
    have K1 := Lib.hid key1
    have K0 := Lib.hid key0
    have F1 := Lib.hid fit1
    clear key1 key0 fit1 hs2 hgu
    by_cases t1 : s < y
    · have f1 := F1.out t1
      have v2 : IntKind.u64.wrap ((g : Int) + 1) = ((g + 1 : Nat) : Int) := by rw [IntKind.wrap_u64]; omega
      obtain ⟨g1, hg1⟩ : ∃ g1, g + 1 = g1 := ⟨_, rfl⟩
      rw [hg1] at v2 f1
      have hk1 := K1.out t1
      rw [hg1] at hk1
      have HK1 := Lib.hid hk1
      clear hk1 hg1
      go_wp2_with (first
       | (go_at_call 79; refine (hboth _).mono ?_; rintro e w' ⟨rfl, rfl⟩)
       | (at_builtin; refine wpList_append_nat rfl _ _ 23 rfl w.heap.size 42 i0 Tryz.underlying23 hi hz0 hz1 hz2 _ k (dv os) rfl (hrow.alloc _) _ 1 1 [s] rfl (lit1 wr s s rfl hsB).toNatAt (by omega) (by have := h6.size; simp; omega) ?_; intro b2 cc2 w2 hown2 hgrow2))
      obtain ⟨hr2, hb2⟩ := grown_row _ h6 h6.size hrow hown2 hgrow2
      go_roundw
      case measure => simp [intOf]; omega
      case rel => exact ⟨k + 1, g1, os ++ [s], b2, cc2, by omega, f1, by go_num, rfl, rfl, dig_snoc hdo hsB, by rw [List.length_append, HLO.out]; rfl, hr2, rgrow_step HLO.out H5.out HK1.out, hb2⟩
    · go_wp2_with (first
       | (go_at_call 79; refine (hboth _).mono ?_; rintro e w' ⟨rfl, rfl⟩)
       | (at_builtin; refine wpList_append_nat rfl _ _ 23 rfl w.heap.size 42 i0 Tryz.underlying23 hi hz0 hz1 hz2 _ k (dv os) rfl (hrow.alloc _) _ 1 1 [s] rfl (lit1 wr s s rfl hsB).toNatAt (by omega) (by have := h6.size; simp; omega) ?_; intro b2 cc2 w2 hown2 hgrow2))
      obtain ⟨hr2, hb2⟩ := grown_row _ h6 h6.size hrow hown2 hgrow2
      go_roundw
      case measure => simp [intOf]; omega
      case rel => exact ⟨k + 1, g, os ++ [s], b2, cc2, by omega, hg, by go_num, rfl, rfl, dig_snoc hdo hsB, by rw [List.length_append, HLO.out]; rfl, hr2, rgrow_step HLO.out H5.out (K0.out t1), hb2⟩
  · obtain rfl : k = n := by omega
    have hv : val (os ++ [y]) = val l * x := by
     have e1 := H5.out
     rw [lo_all (l := l) (by rw [h.len]; exact Nat.le_refl _), lo_all (l := os) (by rw [HLO.out]; exact Nat.le_refl _)] at e1
     rw [val_append, HLO.out, ← e1]; simp [val]
    have HVV := Lib.hid hv
    clear hv hlt
    go_wp2_with (at_builtin; refine wpList_append_nat rfl _ _ 23 rfl w.heap.size 42 i0 Tryz.underlying23 hi hz0 hz1 hz2 _ k (dv os) rfl (hrow.alloc _) _ 1 1 [y] rfl (lit1 wr y y rfl hy).toNatAt (by omega) (by have := h6.size; simp; omega) ?_; intro b2 cc2 w2 hown2 hgrow2)
    obtain ⟨hr2, hb2⟩ := grown_row _ h6 h6.size hrow hown2 hgrow2
    obtain ⟨a5, c5, e5, h8⟩ := OwnAt.ofRow hr2 (dig_snoc hdo hy)
    cases e5
    refine (rtrim_any _ _ _ (os ++ [y]) _ h8.toNatAt (by omega)).mono ?_
    rintro e w3 ⟨a3, n3, c3, rfl, h9, hb3⟩
    go_wp2
    go_ret
    rw [HVV.out] at h9
    exact RetNat.of hb2 ⟨_, _, _, rfl, h9, hb3⟩
end Go.Proofs.YtoecndogaklngaaGreatDoor
