/- several texts as one: Div64, Quot1, Quot2, Quot3, Quot4. -/
import Derived.Test.YtlkoenpdmlbhlaaA5
import Derived.Test.YtlkoenpdmlbhlaaA3
import Derived.Test.YtlkoenpdmlbhlaaA1
import Derived.BigQuiet
import Derived.Test.YtlkoenpdmlbhlaaA2
import Derived.ScopeJumps
import Derived.WalkMore
import Derived.Deep.LoopGhost

/- bits.Div64: two digits by one. -/
set_option linter.unusedVariables false
set_option linter.unusedSimpArgs false
namespace Go.Proofs.Ytlkoenpdmlbhlaa
open Go.RowKit

set_option maxRecDepth 100000 in
theorem lz64_any (x : Nat) (w : World) (h : x < 18446744073709551616) :
    Calls Try.prog 106 #[.int .u64 (x : Int)] w fun e w' => e = .returned (.int .i64 ((64 - nbits x : Nat) : Int)) ∧ w = w' := by
  have hb := nbits_le (n := x) (k := 64) (Nat.lt_of_lt_of_le h (by decide))
  go_enter Try.func106, Try.ntmps106
  go_wp2_with fail
  with_reducible refine (len64_any x _ h).mono ?_
  rintro e w' ⟨rfl, rfl⟩
  go_wp2
  go_ret
  exact ⟨ret_int (by omega), rfl⟩

set_option maxRecDepth 100000 in
/-- A call that tells a value, and does nothing but draw. -/
def RetQ (w : World) (v : Value) (e : Ending) (w' : World) : Prop := e = .returned v ∧ ∃ m, w' = w.drewN m
theorem div64_zero (lo y : Nat) (w : World) (hy : 0 < y) (hy2 : y < 18446744073709551616) (hlo : lo < 18446744073709551616) :
    Calls Try.prog 104 #[.int .u64 0, .int .u64 (lo : Int), .int .u64 (y : Int)] w (RetQ w (.tuple #[.int .u64 ((lo / y : Nat) : Int), .int .u64 ((lo % y : Nat) : Int)])) := by
  have h1 : ((y : Int) == 0) = false := by simp; omega
  have h2 : decide ((y : Int) ≤ 0) = false := by simp; omega
  have h3 : ¬ (y : Int) = 0 := by omega
  have v1 : IntKind.u64.wrap ((lo : Int) / (y : Int)) = ((lo / y : Nat) : Int) := by
    have := Nat.div_le_self lo y
    rw [← Int.natCast_ediv]; exact wrapN _ (by omega)
  have V1 := Lib.hid v1
  clear hy hy2 hlo v1
  go_enter Try.func104, Try.ntmps104
  go_wp2_with fail
  go_quiet (fail)
  rw [V1.out]
  go_wp2
  go_ret2
  exact ⟨by rw [Int.natCast_emod]; rfl, _, rfl⟩

/-- what is reckoned, named -/
theorem div64_parts {h lo y s : Nat} (hs : s + nbits y = 64) (hy : h < y) (hy2 : y < 18446744073709551616) (hlo : lo < 18446744073709551616) :
    ∃ Y d1 d0 Hs Ls U L u1 u0 : Nat, IntKind.u64.wrap ((y : Int) * 2 ^ s) = (Y : Int) ∧ (Y : Int) / 4294967296 = (d1 : Int) ∧ bits .and .u64 (Y : Int) 4294967295 = (d0 : Int) ∧
      IntKind.u64.wrap ((h : Int) * 2 ^ s) = (Hs : Int) ∧ (lo : Int) / 2 ^ (64 - s) = (Ls : Int) ∧ bits .or .u64 (Hs : Int) (Ls : Int) = (U : Int) ∧ IntKind.u64.wrap ((lo : Int) * 2 ^ s) = (L : Int) ∧ (L : Int) / 4294967296 = (u1 : Int) ∧ bits .and .u64 (L : Int) 4294967295 = (u0 : Int) ∧
      Y = d1 * 4294967296 + d0 ∧ 2147483648 ≤ d1 ∧ d1 < 4294967296 ∧ d0 < 4294967296 ∧ u1 < 4294967296 ∧ u0 < 4294967296 ∧ U < Y ∧ Y = y * 2 ^ s ∧
      (U * 4294967296 + u1) * 4294967296 + u0 = (h * 18446744073709551616 + lo) * 2 ^ s := by
  have hy0 : y ≠ 0 := by omega
  have hlow := nbits_low hy0
  have hup := nbits_lt y
  have hn1 : 0 < nbits y := nbits_gt (by rw [Nat.pow_zero]; omega)
  have hY : y * 2 ^ s < 18446744073709551616 := by
    have : y * 2 ^ s < 2 ^ nbits y * 2 ^ s := Nat.mul_lt_mul_of_pos_right hup (Nat.pow_pos (by decide))
    rw [← Nat.pow_add, show nbits y + s = 64 by omega] at this
    exact this
  have hY2 : 9223372036854775808 ≤ y * 2 ^ s := by
    have : 2 ^ (nbits y - 1) * 2 ^ s ≤ y * 2 ^ s := Nat.mul_le_mul_right _ hlow
    rw [← Nat.pow_add, show nbits y - 1 + s = 63 by omega] at this
    exact this
  have hH : (h + 1) * 2 ^ s ≤ y * 2 ^ s := Nat.mul_le_mul_right _ hy
  have hps : 0 < 2 ^ s := Nat.pow_pos (by decide)
  have hpe : 2 ^ (64 - s) * 2 ^ s = 18446744073709551616 := by rw [← Nat.pow_add, show 64 - s + s = 64 by omega]
  have hLs : lo / 2 ^ (64 - s) < 2 ^ s := by
    rw [Nat.div_lt_iff_lt_mul (Nat.pow_pos (by decide)), Nat.mul_comm, hpe]; exact hlo
  have hor : (h * 2 ^ s) ||| (lo / 2 ^ (64 - s)) = lo / 2 ^ (64 - s) + h * 2 ^ s := by
    rw [Nat.or_comm, Nat.mul_comm h]
    exact or_add hLs
  rw [Nat.add_mul, Nat.one_mul] at hH
  refine ⟨y * 2 ^ s, y * 2 ^ s / 4294967296, y * 2 ^ s % 4294967296, h * 2 ^ s, lo / 2 ^ (64 - s), lo / 2 ^ (64 - s) + h * 2 ^ s, lo * 2 ^ s % 18446744073709551616, lo * 2 ^ s % 18446744073709551616 / 4294967296, lo * 2 ^ s % 18446744073709551616 % 4294967296,
    ?_, divN _, maskN _ hY, ?_, ?_, ?_, ?_, divN _, maskN _ (Nat.mod_lt _ (by decide)), by omega, by omega, by omega, by omega, by omega, by omega, by omega, rfl, ?_⟩
  · rw [show (y : Int) * 2 ^ s = ((y * 2 ^ s : Nat) : Int) by push_cast; rfl]; exact wrapN _ hY
  · rw [show (h : Int) * 2 ^ s = ((h * 2 ^ s : Nat) : Int) by push_cast; rfl]; exact wrapN _ (by omega)
  · push_cast; rfl
  · rw [u64_or_nat _ _ (by omega) (by omega), hor]
  · rw [show (lo : Int) * 2 ^ s = ((lo * 2 ^ s : Nat) : Int) by push_cast; rfl]; exact wrapM _
  · have e1 := Nat.div_add_mod (lo * 2 ^ s % 18446744073709551616) 4294967296
    have e2 := Nat.div_add_mod (lo * 2 ^ s) 18446744073709551616
    have e3 : lo * 2 ^ s / 18446744073709551616 = lo / 2 ^ (64 - s) := by
      rw [← hpe, Nat.mul_div_mul_right _ _ hps]
    rw [e3] at e2
    rw [Nat.add_mul (h * 18446744073709551616), Nat.mul_assoc h, Nat.mul_comm 18446744073709551616, ← Nat.mul_assoc h]
    generalize lo * 2 ^ s % 18446744073709551616 = p at *
    generalize h * 2 ^ s = q at *
    generalize lo * 2 ^ s = r at *
    generalize lo / 2 ^ (64 - s) = x at *
    omega

/-- the facts of a round: what is compared, and what is made of the guess -/
theorem guess_vals {U u d0 d1 q r : Nat} (g : Guess U 0 u d0 d1 q r) (hd1' : d1 < 4294967296) (hd0 : d0 < 4294967296) (hu : u < 4294967296) :
    IntKind.u64.wrap (4294967296 * (r : Int)) = ((4294967296 * r : Nat) : Int) ∧ IntKind.u64.wrap (((4294967296 * r : Nat) : Int) + (u : Int)) = ((4294967296 * r + u : Nat) : Int) ∧
    (q < 4294967296 → IntKind.u64.wrap ((q : Int) * (d0 : Int)) = ((q * d0 : Nat) : Int)) ∧ IntKind.u64.wrap ((r : Int) + (d1 : Int)) = ((r + d1 : Nat) : Int) ∧ (0 < q → IntKind.u64.wrap ((q : Int) - 1) = ((q - 1 : Nat) : Int)) := by
  have hr := g.lt
  have hq := g.le
  refine ⟨?_, ?_, fun h => ?_, ?_, fun h => ?_⟩
  · rw [IntKind.wrap_u64]; omega
  · rw [IntKind.wrap_u64]; omega
  · rw [mulN]
    have : q * d0 ≤ 4294967296 * 4294967296 - 1 := by
      have h1 : q * d0 ≤ 4294967295 * 4294967295 := Nat.mul_le_mul (by omega) (by omega)
      omega
    exact wrapN _ (by omega)
  · rw [IntKind.wrap_u64]; omega
  · rw [IntKind.wrap_u64]; omega
/-- what is left when a digit is found -/
theorem rest_vals {U u Y Q : Nat} (hY : Y < 18446744073709551616) (hY0 : 0 < Y) (hQ : Q = (U * 4294967296 + u) / Y) :
    IntKind.u64.wrap (IntKind.u64.wrap (IntKind.u64.wrap ((U : Int) * 4294967296) + (u : Int)) - IntKind.u64.wrap ((Q : Int) * (Y : Int))) = (((U * 4294967296 + u) % Y : Nat) : Int) := by
  have h1 := Nat.div_add_mod (U * 4294967296 + u) Y
  rw [← hQ] at h1
  have h2 := Nat.mod_lt (U * 4294967296 + u) hY0
  have e : (Q : Int) * (Y : Int) = ((Y * Q : Nat) : Int) := by rw [mulN, Nat.mul_comm]
  rw [e]
  generalize (U * 4294967296 + u) % Y = R at *
  generalize Y * Q = z at *
  rw [IntKind.wrap_u64, IntKind.wrap_u64, IntKind.wrap_u64, IntKind.wrap_u64]
  omega
theorem ret_two {a b c d : Int} (h1 : a = b) (h2 : c = d) : Ending.returned (.tuple #[.int .u64 a, .int .u64 c]) = .returned (.tuple #[.int .u64 b, .int .u64 d]) := by rw [h1, h2]
theorem div64_yn {Y d1 d0 : Nat} (hY : Y = d1 * 4294967296 + d0) (h1 : 2147483648 ≤ d1) : 0 < Y := by omega

set_option maxRecDepth 100000 in
set_option maxHeartbeats 4000000 in
theorem div64_pos (h lo y s : Nat) (w : World) (hs : 64 - nbits y = s) (hh : 0 < h) (hy : h < y) (hy2 : y < 18446744073709551616) (hlo : lo < 18446744073709551616) :
    Calls Try.prog 104 #[.int .u64 (h : Int), .int .u64 (lo : Int), .int .u64 (y : Int)] w (RetQ w (.tuple #[.int .u64 (((h * 18446744073709551616 + lo) / y : Nat) : Int), .int .u64 (((h * 18446744073709551616 + lo) % y : Nat) : Int)])) := by
  have hb := nbits_le (n := y) (k := 64) (Nat.lt_of_lt_of_le hy2 (by decide))
  have hsm : s ≤ 63 := by
    have : 0 < nbits y := nbits_gt (by rw [Nat.pow_zero]; omega)
    omega
  obtain ⟨Y, d1, d0, Hs, Ls, U, L, u1, u0, v1, v2, v3, v4, v5, v6, v7, v8, v9, eY, k1, k2, k3, k4, k5, hU, eYs, eN⟩ := div64_parts (h := h) (lo := lo) (y := y) (s := s) (by omega) hy hy2 hlo
  have hY0 := div64_yn eY k1
  have hYlt : Y < 18446744073709551616 := by omega
  have g0 := guess_start (h := U) (u := u1) k1 k2 k3 k4 (by rw [← eY]; exact hU)
  have b1 : IntKind.u64.wrap ((U : Int) / (d1 : Int)) = ((U / d1 : Nat) : Int) := by
    have := Nat.div_le_self U d1
    rw [← Int.natCast_ediv]; exact wrapN _ (by omega)
  have b2 : IntKind.u64.wrap ((U : Int) - IntKind.u64.wrap (((U / d1 : Nat) : Int) * (d1 : Int))) = ((U % d1 : Nat) : Int) := by
    have e1 := Nat.div_add_mod U d1
    rw [show ((U / d1 : Nat) : Int) * (d1 : Int) = ((d1 * (U / d1) : Nat) : Int) by rw [mulN, Nat.mul_comm]]
    generalize d1 * (U / d1) = z at *
    rw [IntKind.wrap_u64, IntKind.wrap_u64]
    omega
  obtain ⟨R, hR⟩ : ∃ R, (U * 4294967296 + u1) % Y = R := ⟨_, rfl⟩
  have hRY : R < Y := by rw [← hR]; exact Nat.mod_lt _ hY0
  obtain ⟨Q1, hQ1⟩ : ∃ Q1, (U * 4294967296 + u1) / Y = Q1 := ⟨_, rfl⟩
  obtain ⟨Q0, hQ0⟩ : ∃ Q0, (R * 4294967296 + u0) / Y = Q0 := ⟨_, rfl⟩
  have g1 := guess_start (h := R) (u := u0) k1 k2 k3 k5 (by rw [← eY]; exact hRY)
  have hQ1lt : Q1 < 4294967296 := by rw [← hQ1, eY]; exact guess_pre k1 k2 k3 k4 (by rw [← eY]; exact hU)
  have hQ0lt : Q0 < 4294967296 := by rw [← hQ0, eY]; exact guess_pre k1 k2 k3 k5 (by rw [← eY]; exact hRY)
  have r1 := rest_vals (U := U) (u := u1) hYlt hY0 hQ1.symm
  rw [hR] at r1
  have c1 : IntKind.u64.wrap ((R : Int) / (d1 : Int)) = ((R / d1 : Nat) : Int) := by
    have := Nat.div_le_self R d1
    rw [← Int.natCast_ediv]; exact wrapN _ (by omega)
  have c2 : IntKind.u64.wrap ((R : Int) - IntKind.u64.wrap (((R / d1 : Nat) : Int) * (d1 : Int))) = ((R % d1 : Nat) : Int) := by
    have e1 := Nat.div_add_mod R d1
    rw [show ((R / d1 : Nat) : Int) * (d1 : Int) = ((d1 * (R / d1) : Nat) : Int) by rw [mulN, Nat.mul_comm]]
    generalize d1 * (R / d1) = z at *
    rw [IntKind.wrap_u64, IntKind.wrap_u64]
    omega
  have r0 := rest_vals (U := R) (u := u0) hYlt hY0 hQ0.symm
  obtain ⟨d1', d2'⟩ := div_halves (h := U) (u1 := u1) (u0 := u0) hY0
  rw [hR] at d1' d2'
  have hfin := div_moved (n := h * 18446744073709551616 + lo) (y := y) (s := s) (by omega)
  rw [← eN, ← eYs, d1', d2', hQ1, hQ0] at hfin
  have o1 : IntKind.u64.wrap (IntKind.u64.wrap ((Q1 : Int) * 4294967296) + (Q0 : Int)) = ((Q1 * 4294967296 + Q0 : Nat) : Int) := by
    rw [IntKind.wrap_u64, IntKind.wrap_u64]; omega
  have o2 : (((R * 4294967296 + u0) % Y : Nat) : Int) / 2 ^ s = (((R * 4294967296 + u0) % Y / 2 ^ s : Nat) : Int) := by rw [Int.natCast_ediv _ (2 ^ s), Int.natCast_pow]; rfl
  have o1a : IntKind.u64.wrap ((Q1 : Int) * 4294967296 + (Q0 : Int)) = ((Q1 * 4294967296 + Q0 : Nat) : Int) := by rw [IntKind.wrap_u64]; omega
  have o1b : (Q1 : Int) * 4294967296 + (Q0 : Int) = ((Q1 * 4294967296 + Q0 : Nat) : Int) := by omega
  obtain ⟨Z, hZ⟩ : ∃ Z, (R * 4294967296 + u0) % Y = Z := ⟨_, rfl⟩
  rw [hZ] at r0 o2 hfin
  obtain ⟨O, hO⟩ : ∃ O, Q1 * 4294967296 + Q0 = O := ⟨_, rfl⟩
  obtain ⟨PP, hPP⟩ : ∃ PP, Z / 2 ^ s = PP := ⟨_, rfl⟩
  rw [hO] at o1 o1a o1b hfin
  rw [hPP] at o2 hfin
  obtain ⟨q0, hq0⟩ : ∃ q0, U / d1 = q0 := ⟨_, rfl⟩
  obtain ⟨m0, hm0⟩ : ∃ m0, U % d1 = m0 := ⟨_, rfl⟩
  obtain ⟨q0', hq0'⟩ : ∃ q0, R / d1 = q0 := ⟨_, rfl⟩
  obtain ⟨m0', hm0'⟩ : ∃ m0, R % d1 = m0 := ⟨_, rfl⟩
  rw [hq0] at b1 b2 g0
  rw [hm0] at b2 g0
  rw [hq0'] at c1 c2 g1
  rw [hm0'] at c2 g1
  rw [← hfin.1, ← hfin.2]
  have h1 : ((y : Int) == 0) = false := beq_eq_false_iff_ne.2 (by omega)
  have h2 : decide (y ≤ h) = false := decide_eq_false (by omega)
  have h3 : ((h : Int) == 0) = false := beq_eq_false_iff_ne.2 (by omega)
  have h4 : ¬ (d1 : Int) = 0 := by omega
  have h5 : ((d1 : Int) == 0) = false := beq_eq_false_iff_ne.2 (by omega)
  have eyr : IntKind.u64.wrap (64 - (s : Int)) = 64 - (s : Int) := by rw [IntKind.wrap_u64]; omega
  have ey64 : (64 - (s : Int)).toNat = 64 - s := by omega
  have HS := Lib.hid hs
  have HY2 := Lib.hid hy2
  have V1 := Lib.hid v1
  have V2 := Lib.hid v2
  have V3 := Lib.hid v3
  have V4 := Lib.hid v4
  have V5 := Lib.hid v5
  have V6 := Lib.hid v6
  have V7 := Lib.hid v7
  have V8 := Lib.hid v8
  have V9 := Lib.hid v9
  have B1 := Lib.hid b1
  have B2 := Lib.hid b2
  have C1 := Lib.hid c1
  have C2 := Lib.hid c2
  have R1 := Lib.hid r1
  have R0 := Lib.hid r0
  have O1 := Lib.hid o1
  have O1a := Lib.hid o1a
  have O1b := Lib.hid o1b
  have O2 := Lib.hid o2
  have G0 := Lib.hid g0
  have G1 := Lib.hid g1
  have K1 := Lib.hid k1
  have K2 := Lib.hid k2
  have K3 := Lib.hid k3
  have K4 := Lib.hid k4
  have K5 := Lib.hid k5
  have HU := Lib.hid hU
  have EY := Lib.hid eY
  have HQ1 := Lib.hid hQ1
  have HQ0 := Lib.hid hQ0
  have HQ1L := Lib.hid hQ1lt
  have HQ0L := Lib.hid hQ0lt
  have HRY := Lib.hid hRY
  clear hs hb hh hy hy2 hlo v1 v2 v3 v4 v5 v6 v7 v8 v9 eY k1 k2 k3 k4 k5 hU eYs eN hY0 hYlt g0 b1 b2 hR hRY hQ1 hQ0 g1 hQ1lt hQ0lt r1 c1 c2 r0 d1' d2' hfin o1 o1a o1b o2 hZ hO hPP hq0 hm0 hq0' hm0'
  go_enter Try.func104, Try.ntmps104
  go_wp2_with fail
  with_reducible refine (lz64_any y _ HY2.out).mono ?_
  rintro e w' ⟨rfl, rfl⟩
  rw [HS.out]
  have v1 := V1.out
  have v2 := V2.out
  have v3 := V3.out
  have v4 := V4.out
  have v5 := V5.out
  have v6 := V6.out
  have v7 := V7.out
  have v8 := V8.out
  have v9 := V9.out
  have b1 := B1.out
  have b2 := B2.out
  go_wp2
  clear v1 v2 v3 v4 v5 v6 v7 v8 v9 b1 b2
  go_loop [15, 16] (fun q r => ∃ q' r' : Nat, q = .int .u64 (q' : Int) ∧ r = .int .u64 (r' : Int) ∧ Guess U 0 u1 d0 d1 q' r') (fun q _ => (intOf q).toNat)
  case atStart => exact ⟨_, _, rfl, rfl, G0.out⟩
  case round =>
    obtain ⟨q, r, rfl, rfl, g⟩ := hrel
    obtain ⟨e1, e2, e3, e4, e5⟩ := guess_vals g K2.out K3.out K4.out
    obtain ⟨S, hS⟩ : ∃ S, 4294967296 * r = S := ⟨_, rfl⟩
    rw [hS] at e1 e2
    obtain ⟨T, hT⟩ : ∃ T, S + u1 = T := ⟨_, rfl⟩
    rw [hT] at e2
    obtain ⟨r2, hr2⟩ : ∃ r2, r + d1 = r2 := ⟨_, rfl⟩
    rw [hr2] at e4
    obtain ⟨q2, hq2⟩ : ∃ q2, q - 1 = q2 := ⟨_, rfl⟩
    rw [hq2] at e5
    obtain ⟨Z1, hZ1⟩ : ∃ Z1, q * d0 = Z1 := ⟨_, rfl⟩
    rw [hZ1] at e3
    have hTr : T = 4294967296 * r + u1 := by omega
    have hUY : U < d1 * 4294967296 + d0 := by rw [← EY.out]; exact HU.out
    have hgv := g.le
    have HT := Lib.hid hTr
    have HR2 := Lib.hid hr2
    have HQ2 := Lib.hid hq2
    have HZ1 := Lib.hid hZ1
    have HG := Lib.hid g
    clear hS hT hr2 hq2 hZ1 hTr g
    by_cases hq : q < 4294967296
    · have e3 := e3 hq
      have hqd : decide (4294967296 ≤ (q : Int)) = false := decide_eq_false (by omega)
      by_cases hcc : T < Z1
      · have hcd : decide (T < Z1) = true := decide_eq_true hcc
        have hc : 4294967296 ≤ q ∨ 4294967296 * r + u1 < q * d0 := .inr (by rw [← HT.out, HZ1.out]; exact hcc)
        obtain ⟨m1, m2, m3, m4⟩ := guess_down HG.out K1.out K2.out K3.out K4.out hUY hc
        have e5 := e5 m1
        have HC := Lib.hid hc
        by_cases hr : r2 < 4294967296
        · have g2 := guess_next HG.out K1.out K2.out K3.out K4.out hUY HC.out (by rw [HR2.out]; exact hr)
          rw [HQ2.out, HR2.out] at g2
          have hrd : decide (4294967296 ≤ (r2 : Int)) = false := decide_eq_false (by omega)
          have hlt : q2 < q := by have := HQ2.out; omega
          clear hc m1 m2 m3 m4 hr hUY hgv
          go_wp2
          go_round
          case rel => exact ⟨q2, r2, rfl, rfl, g2⟩
          case measure => simp [intOf]; omega
        · have hrd : decide (4294967296 ≤ (r2 : Int)) = true := decide_eq_true (by omega)
          have hend := guess_stop HG.out K1.out K2.out K3.out K4.out hUY HC.out (by rw [HR2.out]; omega)
          rw [HQ2.out, ← EY.out, HQ1.out] at hend
          obtain rfl : Q1 = q2 := hend.symm
          clear hc m1 m2 m3 m4 hr hUY hgv
          have x1 := R1.out
          have c1 := C1.out
          have c2 := C2.out
          go_wp2
          clear e1 e2 e4 e5 hqd
          try clear e3
          try clear hcd
          try clear hrd
          clear x1 c1 c2
          go_loop [18, 16] (fun q r => ∃ q' r' : Nat, q = .int .u64 (q' : Int) ∧ r = .int .u64 (r' : Int) ∧ Guess R 0 u0 d0 d1 q' r') (fun q _ => (intOf q).toNat)
          case atStart => exact ⟨_, _, rfl, rfl, G1.out⟩
          case round =>
            obtain ⟨q, r, rfl, rfl, g⟩ := hrel
            obtain ⟨e1, e2, e3, e4, e5⟩ := guess_vals g K2.out K3.out K5.out
            obtain ⟨S, hS⟩ : ∃ S, 4294967296 * r = S := ⟨_, rfl⟩
            rw [hS] at e1 e2
            obtain ⟨T, hT⟩ : ∃ T, S + u0 = T := ⟨_, rfl⟩
            rw [hT] at e2
            obtain ⟨r2, hr2⟩ : ∃ r2, r + d1 = r2 := ⟨_, rfl⟩
            rw [hr2] at e4
            obtain ⟨q2, hq2⟩ : ∃ q2, q - 1 = q2 := ⟨_, rfl⟩
            rw [hq2] at e5
            obtain ⟨Z1, hZ1⟩ : ∃ Z1, q * d0 = Z1 := ⟨_, rfl⟩
            rw [hZ1] at e3
            have hTr : T = 4294967296 * r + u0 := by omega
            have hUY : R < d1 * 4294967296 + d0 := by rw [← EY.out]; exact HRY.out
            have hgv := g.le
            have HT := Lib.hid hTr
            have HR2 := Lib.hid hr2
            have HQ2 := Lib.hid hq2
            have HZ1 := Lib.hid hZ1
            have HG := Lib.hid g
            clear hS hT hr2 hq2 hZ1 hTr g
            by_cases hq : q < 4294967296
            · have e3 := e3 hq
              have hqd : decide (4294967296 ≤ (q : Int)) = false := decide_eq_false (by omega)
              by_cases hcc : T < Z1
              · have hcd : decide (T < Z1) = true := decide_eq_true hcc
                have hc : 4294967296 ≤ q ∨ 4294967296 * r + u0 < q * d0 := .inr (by rw [← HT.out, HZ1.out]; exact hcc)
                obtain ⟨m1, m2, m3, m4⟩ := guess_down HG.out K1.out K2.out K3.out K5.out hUY hc
                have e5 := e5 m1
                have HC := Lib.hid hc
                by_cases hr : r2 < 4294967296
                · have g2 := guess_next HG.out K1.out K2.out K3.out K5.out hUY HC.out (by rw [HR2.out]; exact hr)
                  rw [HQ2.out, HR2.out] at g2
                  have hrd : decide (4294967296 ≤ (r2 : Int)) = false := decide_eq_false (by omega)
                  have hlt : q2 < q := by have := HQ2.out; omega
                  clear hc m1 m2 m3 m4 hr hUY hgv
                  go_wp2
                  go_round
                  case rel => exact ⟨q2, r2, rfl, rfl, g2⟩
                  case measure => simp [intOf]; omega
                · have hrd : decide (4294967296 ≤ (r2 : Int)) = true := decide_eq_true (by omega)
                  have hend := guess_stop HG.out K1.out K2.out K3.out K5.out hUY HC.out (by rw [HR2.out]; omega)
                  rw [HQ2.out, ← EY.out, HQ0.out] at hend
                  obtain rfl : Q0 = q2 := hend.symm
                  clear hc m1 m2 m3 m4 hr hUY hgv
                  have z0 := R0.out
                  have o2 := O2.out
                  go_wp2
                  go_ret2
                  exact ⟨ret_two (by first | exact O1.out | exact O1b.out | exact O1a.out) (by rfl), 0, rfl⟩
              · have hcd : decide (T < Z1) = false := decide_eq_false hcc
                have hend := guess_end HG.out K1.out (by rw [← HT.out, HZ1.out]; omega)
                rw [← EY.out, HQ0.out] at hend
                obtain rfl : Q0 = q := hend.symm
                clear hUY hgv
                have z0 := R0.out
                have o2 := O2.out
                go_wp2
                go_ret2
                exact ⟨ret_two (by first | exact O1.out | exact O1b.out | exact O1a.out) (by rfl), 0, rfl⟩
            · have hqd : decide (4294967296 ≤ (q : Int)) = true := decide_eq_true (by omega)
              clear e3
              have hc : 4294967296 ≤ q ∨ 4294967296 * r + u0 < q * d0 := .inl (by omega)
              obtain ⟨m1, m2, m3, m4⟩ := guess_down HG.out K1.out K2.out K3.out K5.out hUY hc
              have e5 := e5 m1
              have HC := Lib.hid hc
              by_cases hr : r2 < 4294967296
              · have g2 := guess_next HG.out K1.out K2.out K3.out K5.out hUY HC.out (by rw [HR2.out]; exact hr)
                rw [HQ2.out, HR2.out] at g2
                have hrd : decide (4294967296 ≤ (r2 : Int)) = false := decide_eq_false (by omega)
                have hlt : q2 < q := by have := HQ2.out; omega
                clear hc m1 m2 m3 m4 hr hUY hgv
                go_wp2
                go_round
                case rel => exact ⟨q2, r2, rfl, rfl, g2⟩
                case measure => simp [intOf]; omega
              · have hrd : decide (4294967296 ≤ (r2 : Int)) = true := decide_eq_true (by omega)
                have hend := guess_stop HG.out K1.out K2.out K3.out K5.out hUY HC.out (by rw [HR2.out]; omega)
                rw [HQ2.out, ← EY.out, HQ0.out] at hend
                obtain rfl : Q0 = q2 := hend.symm
                clear hc m1 m2 m3 m4 hr hUY hgv
                have z0 := R0.out
                have o2 := O2.out
                go_wp2
                go_ret2
                exact ⟨ret_two (by first | exact O1.out | exact O1b.out | exact O1a.out) (by rfl), 0, rfl⟩
      · have hcd : decide (T < Z1) = false := decide_eq_false hcc
        have hend := guess_end HG.out K1.out (by rw [← HT.out, HZ1.out]; omega)
        rw [← EY.out, HQ1.out] at hend
        obtain rfl : Q1 = q := hend.symm
        clear hUY hgv
        have x1 := R1.out
        have c1 := C1.out
        have c2 := C2.out
        go_wp2
        clear e1 e2 e4 e5 hqd
        try clear e3
        try clear hcd
        try clear hrd
        clear x1 c1 c2
        go_loop [18, 16] (fun q r => ∃ q' r' : Nat, q = .int .u64 (q' : Int) ∧ r = .int .u64 (r' : Int) ∧ Guess R 0 u0 d0 d1 q' r') (fun q _ => (intOf q).toNat)
        case atStart => exact ⟨_, _, rfl, rfl, G1.out⟩
        case round =>
          obtain ⟨q, r, rfl, rfl, g⟩ := hrel
          obtain ⟨e1, e2, e3, e4, e5⟩ := guess_vals g K2.out K3.out K5.out
          obtain ⟨S, hS⟩ : ∃ S, 4294967296 * r = S := ⟨_, rfl⟩
          rw [hS] at e1 e2
          obtain ⟨T, hT⟩ : ∃ T, S + u0 = T := ⟨_, rfl⟩
          rw [hT] at e2
          obtain ⟨r2, hr2⟩ : ∃ r2, r + d1 = r2 := ⟨_, rfl⟩
          rw [hr2] at e4
          obtain ⟨q2, hq2⟩ : ∃ q2, q - 1 = q2 := ⟨_, rfl⟩
          rw [hq2] at e5
          obtain ⟨Z1, hZ1⟩ : ∃ Z1, q * d0 = Z1 := ⟨_, rfl⟩
          rw [hZ1] at e3
          have hTr : T = 4294967296 * r + u0 := by omega
          have hUY : R < d1 * 4294967296 + d0 := by rw [← EY.out]; exact HRY.out
          have hgv := g.le
          have HT := Lib.hid hTr
          have HR2 := Lib.hid hr2
          have HQ2 := Lib.hid hq2
          have HZ1 := Lib.hid hZ1
          have HG := Lib.hid g
          clear hS hT hr2 hq2 hZ1 hTr g
          by_cases hq : q < 4294967296
          · have e3 := e3 hq
            have hqd : decide (4294967296 ≤ (q : Int)) = false := decide_eq_false (by omega)
            by_cases hcc : T < Z1
            · have hcd : decide (T < Z1) = true := decide_eq_true hcc
              have hc : 4294967296 ≤ q ∨ 4294967296 * r + u0 < q * d0 := .inr (by rw [← HT.out, HZ1.out]; exact hcc)
              obtain ⟨m1, m2, m3, m4⟩ := guess_down HG.out K1.out K2.out K3.out K5.out hUY hc
              have e5 := e5 m1
              have HC := Lib.hid hc
              by_cases hr : r2 < 4294967296
              · have g2 := guess_next HG.out K1.out K2.out K3.out K5.out hUY HC.out (by rw [HR2.out]; exact hr)
                rw [HQ2.out, HR2.out] at g2
                have hrd : decide (4294967296 ≤ (r2 : Int)) = false := decide_eq_false (by omega)
                have hlt : q2 < q := by have := HQ2.out; omega
                clear hc m1 m2 m3 m4 hr hUY hgv
                go_wp2
                go_round
                case rel => exact ⟨q2, r2, rfl, rfl, g2⟩
                case measure => simp [intOf]; omega
              · have hrd : decide (4294967296 ≤ (r2 : Int)) = true := decide_eq_true (by omega)
                have hend := guess_stop HG.out K1.out K2.out K3.out K5.out hUY HC.out (by rw [HR2.out]; omega)
                rw [HQ2.out, ← EY.out, HQ0.out] at hend
                obtain rfl : Q0 = q2 := hend.symm
                clear hc m1 m2 m3 m4 hr hUY hgv
                have z0 := R0.out
                have o2 := O2.out
                go_wp2
                go_ret2
                exact ⟨ret_two (by first | exact O1.out | exact O1b.out | exact O1a.out) (by rfl), 0, rfl⟩
            · have hcd : decide (T < Z1) = false := decide_eq_false hcc
              have hend := guess_end HG.out K1.out (by rw [← HT.out, HZ1.out]; omega)
              rw [← EY.out, HQ0.out] at hend
              obtain rfl : Q0 = q := hend.symm
              clear hUY hgv
              have z0 := R0.out
              have o2 := O2.out
              go_wp2
              go_ret2
              exact ⟨ret_two (by first | exact O1.out | exact O1b.out | exact O1a.out) (by rfl), 0, rfl⟩
          · have hqd : decide (4294967296 ≤ (q : Int)) = true := decide_eq_true (by omega)
            clear e3
            have hc : 4294967296 ≤ q ∨ 4294967296 * r + u0 < q * d0 := .inl (by omega)
            obtain ⟨m1, m2, m3, m4⟩ := guess_down HG.out K1.out K2.out K3.out K5.out hUY hc
            have e5 := e5 m1
            have HC := Lib.hid hc
            by_cases hr : r2 < 4294967296
            · have g2 := guess_next HG.out K1.out K2.out K3.out K5.out hUY HC.out (by rw [HR2.out]; exact hr)
              rw [HQ2.out, HR2.out] at g2
              have hrd : decide (4294967296 ≤ (r2 : Int)) = false := decide_eq_false (by omega)
              have hlt : q2 < q := by have := HQ2.out; omega
              clear hc m1 m2 m3 m4 hr hUY hgv
              go_wp2
              go_round
              case rel => exact ⟨q2, r2, rfl, rfl, g2⟩
              case measure => simp [intOf]; omega
            · have hrd : decide (4294967296 ≤ (r2 : Int)) = true := decide_eq_true (by omega)
              have hend := guess_stop HG.out K1.out K2.out K3.out K5.out hUY HC.out (by rw [HR2.out]; omega)
              rw [HQ2.out, ← EY.out, HQ0.out] at hend
              obtain rfl : Q0 = q2 := hend.symm
              clear hc m1 m2 m3 m4 hr hUY hgv
              have z0 := R0.out
              have o2 := O2.out
              go_wp2
              go_ret2
              exact ⟨ret_two (by first | exact O1.out | exact O1b.out | exact O1a.out) (by rfl), 0, rfl⟩
    · have hqd : decide (4294967296 ≤ (q : Int)) = true := decide_eq_true (by omega)
      clear e3
      have hc : 4294967296 ≤ q ∨ 4294967296 * r + u1 < q * d0 := .inl (by omega)
      obtain ⟨m1, m2, m3, m4⟩ := guess_down HG.out K1.out K2.out K3.out K4.out hUY hc
      have e5 := e5 m1
      have HC := Lib.hid hc
      by_cases hr : r2 < 4294967296
      · have g2 := guess_next HG.out K1.out K2.out K3.out K4.out hUY HC.out (by rw [HR2.out]; exact hr)
        rw [HQ2.out, HR2.out] at g2
        have hrd : decide (4294967296 ≤ (r2 : Int)) = false := decide_eq_false (by omega)
        have hlt : q2 < q := by have := HQ2.out; omega
        clear hc m1 m2 m3 m4 hr hUY hgv
        go_wp2
        go_round
        case rel => exact ⟨q2, r2, rfl, rfl, g2⟩
        case measure => simp [intOf]; omega
      · have hrd : decide (4294967296 ≤ (r2 : Int)) = true := decide_eq_true (by omega)
        have hend := guess_stop HG.out K1.out K2.out K3.out K4.out hUY HC.out (by rw [HR2.out]; omega)
        rw [HQ2.out, ← EY.out, HQ1.out] at hend
        obtain rfl : Q1 = q2 := hend.symm
        clear hc m1 m2 m3 m4 hr hUY hgv
        have x1 := R1.out
        have c1 := C1.out
        have c2 := C2.out
        go_wp2
        clear e1 e2 e4 e5 hqd
        try clear e3
        try clear hcd
        try clear hrd
        clear x1 c1 c2
        go_loop [18, 16] (fun q r => ∃ q' r' : Nat, q = .int .u64 (q' : Int) ∧ r = .int .u64 (r' : Int) ∧ Guess R 0 u0 d0 d1 q' r') (fun q _ => (intOf q).toNat)
        case atStart => exact ⟨_, _, rfl, rfl, G1.out⟩
        case round =>
          obtain ⟨q, r, rfl, rfl, g⟩ := hrel
          obtain ⟨e1, e2, e3, e4, e5⟩ := guess_vals g K2.out K3.out K5.out
          obtain ⟨S, hS⟩ : ∃ S, 4294967296 * r = S := ⟨_, rfl⟩
          rw [hS] at e1 e2
          obtain ⟨T, hT⟩ : ∃ T, S + u0 = T := ⟨_, rfl⟩
          rw [hT] at e2
          obtain ⟨r2, hr2⟩ : ∃ r2, r + d1 = r2 := ⟨_, rfl⟩
          rw [hr2] at e4
          obtain ⟨q2, hq2⟩ : ∃ q2, q - 1 = q2 := ⟨_, rfl⟩
          rw [hq2] at e5
          obtain ⟨Z1, hZ1⟩ : ∃ Z1, q * d0 = Z1 := ⟨_, rfl⟩
          rw [hZ1] at e3
          have hTr : T = 4294967296 * r + u0 := by omega
          have hUY : R < d1 * 4294967296 + d0 := by rw [← EY.out]; exact HRY.out
          have hgv := g.le
          have HT := Lib.hid hTr
          have HR2 := Lib.hid hr2
          have HQ2 := Lib.hid hq2
          have HZ1 := Lib.hid hZ1
          have HG := Lib.hid g
          clear hS hT hr2 hq2 hZ1 hTr g
          by_cases hq : q < 4294967296
          · have e3 := e3 hq
            have hqd : decide (4294967296 ≤ (q : Int)) = false := decide_eq_false (by omega)
            by_cases hcc : T < Z1
            · have hcd : decide (T < Z1) = true := decide_eq_true hcc
              have hc : 4294967296 ≤ q ∨ 4294967296 * r + u0 < q * d0 := .inr (by rw [← HT.out, HZ1.out]; exact hcc)
              obtain ⟨m1, m2, m3, m4⟩ := guess_down HG.out K1.out K2.out K3.out K5.out hUY hc
              have e5 := e5 m1
              have HC := Lib.hid hc
              by_cases hr : r2 < 4294967296
              · have g2 := guess_next HG.out K1.out K2.out K3.out K5.out hUY HC.out (by rw [HR2.out]; exact hr)
                rw [HQ2.out, HR2.out] at g2
                have hrd : decide (4294967296 ≤ (r2 : Int)) = false := decide_eq_false (by omega)
                have hlt : q2 < q := by have := HQ2.out; omega
                clear hc m1 m2 m3 m4 hr hUY hgv
                go_wp2
                go_round
                case rel => exact ⟨q2, r2, rfl, rfl, g2⟩
                case measure => simp [intOf]; omega
              · have hrd : decide (4294967296 ≤ (r2 : Int)) = true := decide_eq_true (by omega)
                have hend := guess_stop HG.out K1.out K2.out K3.out K5.out hUY HC.out (by rw [HR2.out]; omega)
                rw [HQ2.out, ← EY.out, HQ0.out] at hend
                obtain rfl : Q0 = q2 := hend.symm
                clear hc m1 m2 m3 m4 hr hUY hgv
                have z0 := R0.out
                have o2 := O2.out
                go_wp2
                go_ret2
                exact ⟨ret_two (by first | exact O1.out | exact O1b.out | exact O1a.out) (by rfl), 0, rfl⟩
            · have hcd : decide (T < Z1) = false := decide_eq_false hcc
              have hend := guess_end HG.out K1.out (by rw [← HT.out, HZ1.out]; omega)
              rw [← EY.out, HQ0.out] at hend
              obtain rfl : Q0 = q := hend.symm
              clear hUY hgv
              have z0 := R0.out
              have o2 := O2.out
              go_wp2
              go_ret2
              exact ⟨ret_two (by first | exact O1.out | exact O1b.out | exact O1a.out) (by rfl), 0, rfl⟩
          · have hqd : decide (4294967296 ≤ (q : Int)) = true := decide_eq_true (by omega)
            clear e3
            have hc : 4294967296 ≤ q ∨ 4294967296 * r + u0 < q * d0 := .inl (by omega)
            obtain ⟨m1, m2, m3, m4⟩ := guess_down HG.out K1.out K2.out K3.out K5.out hUY hc
            have e5 := e5 m1
            have HC := Lib.hid hc
            by_cases hr : r2 < 4294967296
            · have g2 := guess_next HG.out K1.out K2.out K3.out K5.out hUY HC.out (by rw [HR2.out]; exact hr)
              rw [HQ2.out, HR2.out] at g2
              have hrd : decide (4294967296 ≤ (r2 : Int)) = false := decide_eq_false (by omega)
              have hlt : q2 < q := by have := HQ2.out; omega
              clear hc m1 m2 m3 m4 hr hUY hgv
              go_wp2
              go_round
              case rel => exact ⟨q2, r2, rfl, rfl, g2⟩
              case measure => simp [intOf]; omega
            · have hrd : decide (4294967296 ≤ (r2 : Int)) = true := decide_eq_true (by omega)
              have hend := guess_stop HG.out K1.out K2.out K3.out K5.out hUY HC.out (by rw [HR2.out]; omega)
              rw [HQ2.out, ← EY.out, HQ0.out] at hend
              obtain rfl : Q0 = q2 := hend.symm
              clear hc m1 m2 m3 m4 hr hUY hgv
              have z0 := R0.out
              have o2 := O2.out
              go_wp2
              go_ret2
              exact ⟨ret_two (by first | exact O1.out | exact O1b.out | exact O1a.out) (by rfl), 0, rfl⟩

theorem div64_quiet (h lo y : Nat) (w : World) (hy : h < y) (hy2 : y < 18446744073709551616) (hlo : lo < 18446744073709551616) :
    Calls Try.prog 104 #[.int .u64 (h : Int), .int .u64 (lo : Int), .int .u64 (y : Int)] w (RetQ w (.tuple #[.int .u64 (((h * 18446744073709551616 + lo) / y : Nat) : Int), .int .u64 (((h * 18446744073709551616 + lo) % y : Nat) : Int)])) := by
  by_cases hh : 0 < h
  · exact div64_pos h lo y _ w rfl hh hy hy2 hlo
  · obtain rfl : h = 0 := by omega
    rw [Nat.zero_mul, Nat.zero_add]
    exact div64_zero lo y w hy hy2 hlo
theorem div64_any (h lo y : Nat) (w : World) (hy : h < y) (hy2 : y < 18446744073709551616) (hlo : lo < 18446744073709551616) :
    Calls Try.prog 104 #[.int .u64 (h : Int), .int .u64 (lo : Int), .int .u64 (y : Int)] w (RetVal w (.tuple #[.int .u64 (((h * 18446744073709551616 + lo) / y : Nat) : Int), .int .u64 (((h * 18446744073709551616 + lo) % y : Nat) : Int)])) :=
  (div64_quiet h lo y w hy hy2 hlo).mono fun e w' ⟨he, m, hm⟩ => ⟨he, by rw [hm]; exact Below.draws (Below.refl _ _) m⟩

end Go.Proofs.Ytlkoenpdmlbhlaa

/- quot, first part: Part. -/
set_option linter.unusedVariables false
set_option linter.unusedSimpArgs false
namespace Go.Proofs.Ytlkoenpdmlbhlaa
open Go.RowKit

theorem part_zero (a : Option Addr) (n c : Nat) (w : World) :
    Calls Try.prog 91 #[.slice a n c, .int .u64 0] w (RetVal w (.tuple #[.slice none 0 0, .int .u64 0, .int .i64 5])) := by
  go_enter Try.func91, Try.ntmps91
  go_wp2
  go_ret3
  exact ⟨rfl, Below.refl _ _⟩

/-- a digit of the quotient by a digit -/
theorem part_step {l os : List Nat} {x j : Nat} (hx : 0 < x) (hj : j < os.length) (h : hi os (j + 1) = hi l (j + 1) / x) :
    hi (os.set j ((hi l (j + 1) % x * 18446744073709551616 + D l j) / x)) j = hi l j / x ∧ (hi l (j + 1) % x * 18446744073709551616 + D l j) % x = hi l j % x := by
  obtain ⟨h1, h2⟩ := div_part (v := hi l (j + 1)) (B := 18446744073709551616) (u0 := D l j) hx
  have e : hi l j = hi l (j + 1) * 18446744073709551616 + D l j := by rw [hi_step l j]; omega
  rw [e]
  refine ⟨?_, h2.symm⟩
  rw [hi_step, D_set_same hj, hi_set (Nat.lt_succ_self j), h, h1]
  omega

/-- A call that tells a quotient and what is left. -/
def RetPart (w : World) (N R : Nat) (e : Ending) (w' : World) : Prop :=
  ∃ a n c, e = .returned (.tuple #[.slice a n c, .int .u64 ((R : Nat) : Int), .int .i64 0]) ∧ OwnAt w' w.heap.size a n c (digs N) ∧ Below w.heap.size w w'

set_option maxRecDepth 100000 in
set_option maxHeartbeats 1000000 in
theorem part_yes (a : Option Addr) (n c : Nat) (l : List Nat) (x : Nat) (w : World) (h : NatAt w a n c l) (hs : n ≤ 274877906944) (hx0 : 0 < x) (hx : x < 18446744073709551616) :
    Calls Try.prog 91 #[.slice a n c, .int .u64 (x : Int)] w (RetPart w (val l / x) (val l % x)) := by
  obtain ⟨i0, hi, hz0, hz1, hz2⟩ := info_parts info73
  have hxb : ((x : Int) == 0) = false := beq_eq_false_iff_ne.2 (by omega)
  have HX := Lib.hid hx
  have HX0 := Lib.hid hx0
  clear hx hx0
  go_enter Try.func91, Try.ntmps91
  go_wp2_with (at_make; refine wpList_make_full _ rfl _ _ 32 rfl w.heap.size 73 i0 (.int .u64 0) 1 Try.underlying32 hi hz0 hz1 .i64 .i64 _ _ n rfl rfl rfl rfl (by rw [hz2]; omega) (by simp only [maxLen]; omega) (Nat.le_refl _) ?_; intro w3 hr3 hg3)
  have h5 : OwnAt w3 w.heap.size (some ⟨w.heap.size, 0, none⟩) n n (List.replicate n 0) := made_own (by rw [← toList_madeCells_one]; rw [Nat.mul_one] at hr3; exact hr3)
  have hb3 : Below w.heap.size w w3 := (Below.refl _ _).grown hg3 (Nat.le_refl _) (fun k e => by cases e)
  clear hr3 hg3 hi hz0 hz1 hz2
  have hln := h.len
  have HLN := Lib.hid hln
  clear hln
  go_wp2_with fail
  go_loopw [8, 9] (fun lf i wr => ∃ (k : Nat) (os : List Nat), k ≤ n ∧ i = .int .i64 ((k : Int) - 1) ∧ lf = .int .u64 ((Go.Proofs.Ytlkoenpdmlbhlaa.hi l k % x : Nat) : Int) ∧ OwnAt wr w.heap.size (some ⟨w.heap.size, 0, none⟩) n n os ∧ Go.Proofs.Ytlkoenpdmlbhlaa.hi os k = Go.Proofs.Ytlkoenpdmlbhlaa.hi l k / x ∧ Below w.heap.size w wr) (fun _ i _ => (intOf i + 1).toNat)
  case atStart =>
    refine ⟨n, _, Nat.le_refl _, rfl, ?_, h5, ?_, hb3⟩
    · rw [hi_all (by rw [HLN.out]; exact Nat.le_refl _), Nat.zero_mod]; rfl
    · rw [hi_all (by simp), hi_all (by rw [HLN.out]; exact Nat.le_refl _), Nat.zero_div]
  case round =>
    clear hb3 h5
    obtain ⟨k, os, hk, rfl, rfl, h6, h7, hb4⟩ := hrel
    have H7 := Lib.hid h7
    clear h7
    by_cases hlt : 0 < k
    · obtain ⟨j, rfl⟩ : ∃ j, k = j + 1 := ⟨k - 1, by omega⟩
      have ej : ((j + 1 : Nat) : Int) - 1 = (j : Int) := by omega
      rw [ej]
      have e1 := h.later hb4 (Nat.le_refl _)
      have d1 := h.dig.at_ j
      rcases e1.parts with h' | ⟨ba, oa, rfl, _, hca⟩
      · omega
      have hca' := hca j (by omega)
      clear hca
      rcases h6.cell with h' | ⟨b', o', he, hco⟩
      · omega
      cases he
      have hco' := hco j (by omega)
      clear hco
      rcases h6.own with h' | ⟨b', o', he, hBo, hfo⟩
      · omega
      cases he
      have hfo' := hfo j (by omega)
      clear hfo
      obtain ⟨s1, s2⟩ := part_step HX0.out (by rw [h6.len]; omega) H7.out
      have hlm : Go.Proofs.Ytlkoenpdmlbhlaa.hi l (j + 1) % x < x := Nat.mod_lt _ HX0.out
      have hcall := fun w => div64_any (Go.Proofs.Ytlkoenpdmlbhlaa.hi l (j + 1) % x) (D l j) x w hlm HX.out d1
      rw [s2] at hcall
      have hq : (Go.Proofs.Ytlkoenpdmlbhlaa.hi l (j + 1) % x * 18446744073709551616 + D l j) / x < 18446744073709551616 := by
        rw [Nat.div_lt_iff_lt_mul HX0.out]
        have : (Go.Proofs.Ytlkoenpdmlbhlaa.hi l (j + 1) % x + 1) * 18446744073709551616 ≤ x * 18446744073709551616 := Nat.mul_le_mul_right _ hlm
        rw [Nat.mul_comm 18446744073709551616 x]
        omega
      generalize (Go.Proofs.Ytlkoenpdmlbhlaa.hi l (j + 1) % x * 18446744073709551616 + D l j) / x = q at *
      generalize Go.Proofs.Ytlkoenpdmlbhlaa.hi l (j + 1) % x = r at *
      have S1 := Lib.hid s1
      have HQ := Lib.hid hq
      have HC := Lib.hid hcall
      clear s1 s2 hq hlm d1 hcall ej
      have hj0 : (0 : Int) ≤ (j : Int) := by omega
      go_wp2_with fail
      refine (HC.out _).mono ?_
      rintro e w5 ⟨rfl, hb5⟩
      have h8 := (h6.later hb5 (Nat.le_refl _)).set (k := j) (by omega) HQ.out
      have hc5 := (hb5.cell (p := ⟨w.heap.size, 0 + j, none⟩) (World.block_lt_of_cell? _ _ hco')).trans hco'
      have hf5 := (hb5.frozen (p := ⟨w.heap.size, 0 + j, none⟩) (World.block_lt_of_cell? _ _ hco')).trans hfo'
      have hbF := (below_later hb4 hb5).setCell (p := ⟨w.heap.size, 0 + j, none⟩) (Nat.le_refl _) (.int .u64 (q : Int))
      clear hb5 hco' hfo'
      rw [Nat.zero_add] at hc5 hf5 h8 hbF
      go_wp2
      go_roundw
      case rel => exact ⟨j, _, by omega, rfl, rfl, h8, S1.out, hbF⟩
      case measure => simp [intOf] <;> omega
    · obtain rfl : k = 0 := by omega
      rw [hi_zero, hi_zero] at H7
      rw [hi_zero]
      go_wp2_with fail
      with_reducible refine (trim_any _ _ _ _ _ h6.toNatAt (by omega)).mono ?_
      rintro e w6 ⟨a6, n6, c6, rfl, h9, hb6⟩
      rw [H7.out] at h9
      go_wp2
      go_ret3
      exact ⟨_, _, _, rfl, h9.mono hb4.size, below_later hb4 hb6⟩

end Go.Proofs.Ytlkoenpdmlbhlaa

/- quot, second part: step. -/
set_option linter.unusedVariables false
set_option linter.unusedSimpArgs false
namespace Go.Proofs.Ytlkoenpdmlbhlaa
open Go.RowKit

/-- A call that tells a quotient's digit, and leaves what is left in the place of the first list. -/
def RetStep (w : World) (b o n : Nat) (q r : Nat) (e : Ending) (w' : World) : Prop :=
  ∃ wk, e = .returned (.int .u64 ((q : Nat) : Int)) ∧ Below w.heap.size w wk ∧ w' = (wk.setCells b o (dv (List.replicate (n + 1) 0))).setCells b o (dv (digs r))

theorem cell_setCells_some {w : World} {b o : Nat} : ∀ (vs : List Value) (s : Nat) {p : Addr}, (w.cell? p).isSome = true → ((w.setCells b s vs).cell? p).isSome = true := by
  intro vs
  induction vs generalizing w with
  | nil => intro s p h; exact h
  | cons v r ih =>
    intro s p h
    rw [World.setCells]
    apply ih
    obtain ⟨u, hu⟩ := Option.isSome_iff_exists.1 h
    by_cases e : (⟨b, s, none⟩ : Addr) = p
    · subst e; rw [World.cell?_setCell_same _ _ _ hu]; rfl
    · rw [World.cell?_setCell_other _ _ _ _ e, hu]; rfl

/-- the last two statements: noughts, then what is left -/
theorem step_end {w : World} {b o n c : Nat} {us : List Nat} {B : Nat} (h : OwnAt w B (some ⟨b, o, none⟩) (n + 1) c us) {ar : Option Addr} {nr cr : Nat} {R : Nat} (hr : OwnAt w w.heap.size ar nr cr (digs R) ∨ True) : True := trivial

set_option maxRecDepth 100000 in
set_option maxHeartbeats 4000000 in
theorem step_a (b o n c : Nat) (us : List Nat) (bv ov c2 : Nat) (vs : List Nat) (B : Nat) (w : World) (h : OwnAt w B (some ⟨b, o, none⟩) (n + 1) c us) (h2 : NatAt w (some ⟨bv, ov, none⟩) n c2 vs) (hs : n ≤ 137438953472) (hn : 0 < n) (ht : 0 < D vs (n - 1)) (hv : val us < val vs * 18446744073709551616)
    (hg : D us n < D vs (n - 1)) :
    Calls Try.prog 108 #[.slice (some ⟨b, o, none⟩) (n + 1) c, .slice (some ⟨bv, ov, none⟩) n c2] w (RetStep w b o n (val us / val vs) (val us % val vs)) := by
  have hlu := h.len
  have hlv := h2.len
  have hdu := h.dig
  have hdv := h2.dig
  obtain ⟨hq1, hq2⟩ := guess_ok hdu hdv hlu hlv hn ht hv
  have hvp : 0 < val vs := by
    rcases Nat.eq_zero_or_pos (val vs) with h0 | h0
    · rw [h0] at hv; omega
    · exact h0
  have hrl : (digs (val us % val vs)).length ≤ n := by
    refine Nat.le_trans (digs_len_mono (Nat.le_of_lt (Nat.mod_lt _ hvp))) ?_
    have := digs_length_val hdv; omega
  have HRL := Lib.hid hrl
  have HVP := Lib.hid hvp
  clear hrl
  rcases h.cell with h' | ⟨b', o', he, hc⟩
  · omega
  cases he
  have hbw : b < w.heap.size := World.block_lt_of_cell? w _ (hc 0 (by omega))
  have hbb : ∀ x, w.heap.size ≤ x → x ≠ b := fun x hx e => by omega
  have HBB := Lib.hid hbb
  rcases h2.parts with h' | ⟨bv', ov', he, _, hcv⟩
  · omega
  cases he
  have hc1 := hc n (by omega)
  have hc0 := hc (n - 1) (by omega)
  have hv0 := hcv (n - 1) (by omega)
  have en : ((n : Int) - 1).toNat = n - 1 := by omega
  have en2 : (0 : Int) ≤ (n : Int) - 1 := by omega
  have en3 : (n : Int) - 1 < (n : Int) := by omega
  have en4 : (n : Int) - 1 < (n : Int) + 1 := by omega
  have en5 : (0 : Int) ≤ (n : Int) := by omega
  have en6 : (n : Int) < (n : Int) + 1 := by omega
  have eg : guessN us vs n = (D us n * 18446744073709551616 + D us (n - 1)) / D vs (n - 1) := if_pos hg
  rw [eg] at hq1 hq2
  have hcall := fun w => div64_quiet (D us n) (D us (n - 1)) (D vs (n - 1)) w hg (hdv.at_ _) (hdu.at_ _)
  generalize (D us n * 18446744073709551616 + D us (n - 1)) / D vs (n - 1) = g0 at *
  generalize (D us n * 18446744073709551616 + D us (n - 1)) % D vs (n - 1) = r0 at *
  have HC := Lib.hid hcall
  have hgd : decide (D us n < D vs (n - 1)) = true := decide_eq_true hg
  have HQ1 := Lib.hid hq1
  have HQ2 := Lib.hid hq2
  clear hc hcv hlu hlv hdu hdv eg hg hq1 hq2 hcall hvp hv ht hbb
  go_enter Try.func108, Try.ntmps108
  go_wp2
  refine wp_scope_jumps 0 (fun a' w' => ∃ (g : Nat) (ap : Option Addr) (np cp : Nat) (u2 u3 u8 u9 u10 u11 u12 u13 u14 u15 u16 u17 u18 u19 u20 u21 u22 u23 u24 u25 u26 u27 u28 u29 u30 u31 u32 u33 u34 u35 u36 u37 u38 u39 u40 u41 u42 u43 u44 u45 u46 u47 u48 u49 u50 u51 u52 u53 u54 u55 u56 u57 u58 u59 u60 u61 u62 u63 u64 u65 : Value), a' = { tmps := #[.slice (some ⟨b, o, none⟩) (n + 1) c, .slice (some ⟨bv, ov, none⟩) n c2, u2, u3, .int .u64 0, .int .i64 (n : Int), .int .u64 (g : Int), .slice ap np cp, u8, u9, u10, u11, u12, u13, u14, u15, u16, u17, u18, u19, u20, u21, u22, u23, u24, u25, u26, u27, u28, u29, u30, u31, u32, u33, u34, u35, u36, u37, u38, u39, u40, u41, u42, u43, u44, u45, u46, u47, u48, u49, u50, u51, u52, u53, u54, u55, u56, u57, u58, u59, u60, u61, u62, u63, u64, u65], defers := [] } ∧ val us / val vs ≤ g ∧ g < 18446744073709551616 ∧ OwnAt w' w.heap.size ap np cp (digs (val vs * g)) ∧ Below w.heap.size w w') (fun a' _ => (intOf (a'.tmps.getD 6 undef)).toNat) rfl ?_ ?_
  · go_wp2_with fail
    go_quiet (fail)
    go_wp2_with fail
    obtain ⟨w1, hw1⟩ : ∃ w1, w.drewN nq = w1 := ⟨_, rfl⟩
    have hB1 : Below w.heap.size w w1 := by rw [← hw1]; exact Below.draws (Below.refl _ _) _
    have hc1 : w1.cell? ⟨b, o + n, none⟩ = some (.int .u64 ((D us n : Nat) : Int)) := by rw [← hw1]; exact hc1
    have hc0 : w1.cell? ⟨b, o + (n - 1), none⟩ = some (.int .u64 ((D us (n - 1) : Nat) : Int)) := by rw [← hw1]; exact hc0
    have hv0 : w1.cell? ⟨bv, ov + (n - 1), none⟩ = some (.int .u64 ((D vs (n - 1) : Nat) : Int)) := by rw [← hw1]; exact hv0
    rw [hw1]
    clear hw1
    go_quiet ((go_at_call 104; exact Calls.quiet_of (HC.out _)))
    have hB := Below.draws hB1 nq
    go_wp2_with fail
    with_reducible refine (tgrow_any _ _ _ vs _ _ (h2.later hB (Nat.le_refl _)) (by omega) HQ2.out).mono ?_
    rintro e w2 ⟨ap, np, cp, rfl, hp, hbp⟩
    have hp := hp.mono hB.size
    have hB := below_later hB hbp
    have q1 := HQ1.out
    have q2 := HQ2.out
    have hvp := HVP.out
    clear hbp
    go_wp2_with fail
    go_step3
    have uW := h.later hB (Nat.le_refl _)
    have vW := h2.later hB (Nat.le_refl _)
    have lP : np ≤ 274877906944 := by have := hp.len; have := digs_len_prod (val vs) g0; have := vW.short; have := digs_length_le.2 (show g0 < 18446744073709551616 ^ 1 by simpa using q2); omega
    have lP2 := Lib.hid lP
    clear lP
    go_wp2_with fail
    with_reducible refine (cmp_any _ _ _ (digs (val vs * g0)) _ _ _ us _ hp.toNatAt uW.toNatAt).mono ?_
    rintro e wc ⟨rfl, hbc⟩
    rw [val_digs]
    have hBc := below_later hB hbc
    have pC := hp.later hbc (Nat.le_refl _)
    have uC := uW.later hbc (Nat.le_refl _)
    have vC := vW.later hbc (Nat.le_refl _)
    clear hbc uW vW
    by_cases hgt : val us < val vs * g0
    · rw [cmpI_gt hgt]
      obtain ⟨m1, m2, m3⟩ := guess_less q1 hgt
      have hle : val vs ≤ val (digs (val vs * g0)) := by
        rw [val_digs]
        exact Nat.le_mul_of_pos_right _ m1
      have HLE := Lib.hid hle
      have M3 := Lib.hid m3
      have M2 := Lib.hid m2
      obtain ⟨g2, hg2⟩ : ∃ g2, g0 - 1 = g2 := ⟨_, rfl⟩
      have eg : IntKind.u64.wrap ((g0 : Int) - 1) = (g2 : Int) := by rw [IntKind.wrap_u64]; omega
      have hg3 : g2 < g0 := by omega
      have hg4 : g2 < 18446744073709551616 := by omega
      rw [hg2] at M2 M3
      have HG3 := Lib.hid hg3
      have HG4 := Lib.hid hg4
      have GX := Lib.hid hg2
      clear m1 m2 m3 hle hgt hg2 hg3 hg4 q1 q2
      go_wp2_with fail
      with_reducible refine (sub_yes _ _ _ (digs (val vs * g0)) _ _ _ vs _ pC.toNatAt vC (by have := lP2.out; omega) HLE.out).mono ?_
      rintro e wd ⟨ad, nd, cd, rfl, hd, hbd⟩
      rw [val_digs, M3.out] at hd
      have hBd := below_later hBc hbd
      have hd := hd.mono hBc.size
      clear hbd pC uC vC
      go_wp2
      go_step3
      refine ⟨rfl, g2, ad, nd, cd, _, _, _, _, _, _, _, _, _, _, _, _, _, _, _, _, _, _, _, _, _, _, _, _, _, _, _, _, _, _, _, _, _, _, _, _, _, _, _, _, _, _, _, _, _, _, _, _, _, _, _, _, _, _, _, _, _, _, _, _, rfl, M2.out, HG4.out, hd, hBd⟩
    · have hcm : cmpI (val vs * g0) (val us) ≤ 0 := by unfold cmpI; split <;> (try split) <;> omega
      obtain ⟨K, hK⟩ : ∃ K, cmpI (val vs * g0) (val us) = K := ⟨_, rfl⟩
      rw [hK] at hcm ⊢
      clear hK
      obtain ⟨e1, e2⟩ := guess_last hvp q1 (by omega)
      have hle : val (digs (val vs * g0)) ≤ val us := by rw [val_digs]; omega
      have HLE := Lib.hid hle
      have E1 := Lib.hid e1
      have E2 := Lib.hid e2
      clear e1 e2 hle hgt q1 q2
      go_wp2_with fail
      with_reducible refine (sub_yes _ _ _ us _ _ _ (digs (val vs * g0)) _ uC.toNatAt pC.toNatAt (by omega) HLE.out).mono ?_
      rintro e wd ⟨ad, nd, cd, rfl, hd, hbd⟩
      rw [val_digs, E2.out] at hd
      have hBd := below_later hBc hbd
      have uD := uC.later hbd (Nat.le_refl _)
      clear hbd pC uC vC
      have hnd : nd ≤ n := by rw [← hd.len]; exact HRL.out
      obtain ⟨wz, hwz⟩ : ∃ wz, wd.setCells b o (dv (List.replicate (n + 1) 0)) = wz := ⟨_, rfl⟩
      have hcl := fun ty => Lib.run_clear_slice (P := Try.prog) wd 32 73 ty (.int .u64 0) Try.underlying32 zero73 rfl rfl b o (n + 1) c (by omega) (fun j hj => by
        rcases uD.cell with h2 | ⟨b', o', he, hc⟩
        · omega
        · cases he; rw [hc j hj]; rfl) (fun j hj => by
        rcases uD.own with h2 | ⟨b', o', he, _, hf⟩
        · omega
        · cases he; exact hf j hj)
      rw [← dv_replicate, hwz] at hcl
      have uZ := uD.setAll (l' := List.replicate (n + 1) 0) (by simp) (dig_replicate _)
      rw [hwz] at uZ
      have hcp : ∀ ty, (Builtin.copy_ #[32, 32] ty #[.slice (some ⟨b, o, none⟩) (n + 1) c, .slice ad nd cd]).run Try.prog wz = .ok (goInt ((nd : Nat) : Int)) (wz.setCells b o (dv (digs (val us % val vs)))) := by
        intro ty
        have hisz : (Try.prog.info? 73).map (·.size) = some 1 := by kernel_rfl
        by_cases h0 : nd = 0
        · subst h0
          have e0 : digs (val us % val vs) = [] := List.eq_nil_of_length_eq_zero hd.len
          rw [e0]
          exact run_copy_none wz _ _ ty _ _ _ _ _ _ _ Try.underlying32 hisz (by simp)
        · rcases hd.cell with h' | ⟨bd, od, rfl, hcd⟩
          · exact absurd h' h0
          rcases hd.own with h' | ⟨bd', od', he, hBd', _⟩
          · exact absurd h' h0
          cases he
          have hlen : (dv (digs (val us % val vs))).length = nd := by rw [dv_length]; exact hd.len
          have := run_copy_cells (P := Try.prog) wz 32 32 ty 73 b o (n + 1) c ⟨bd, od, none⟩ nd cd (dv (digs (val us % val vs))) Try.underlying32 hisz (by rw [hlen]; exact (Nat.min_eq_left (by omega)).symm)
            (fun j v hj => ?_) (fun j hj => ?_) (fun j hj => ?_) (dv_one _)
          · rw [hlen] at this; exact this
          · have hjl : j < nd := by have := (List.getElem?_eq_some_iff.1 hj).1; rwa [hlen] at this
            rw [dv_at (by rw [hd.len]; exact hjl)] at hj
            cases hj
            rw [addr_add, ← hwz, World.cell?_setCells_out _ _ _ _ _ (fun e => absurd e (HBB.out bd (Nat.le_trans hBc.size hBd')))]
            exact hcd j hjl
          · rcases uZ.cell with h' | ⟨b', o', he, hc⟩
            · omega
            · cases he; rw [hc j (by rw [hlen] at hj; omega)]; rfl
          · rcases uZ.own with h' | ⟨b', o', he, _, hf⟩
            · omega
            · cases he; exact hf j (by rw [hlen] at hj; omega)
      clear uD uZ hd
      go_wp2
      simp only [Exit.jump]
      go_ret
      exact ⟨wd, by first | exact rfl | (rw [E1.out]; exact rfl), hBd, by rw [hwz]⟩
  · rintro a' wr ⟨g, ap, np, cp, u2, u3, u8, u9, u10, u11, u12, u13, u14, u15, u16, u17, u18, u19, u20, u21, u22, u23, u24, u25, u26, u27, u28, u29, u30, u31, u32, u33, u34, u35, u36, u37, u38, u39, u40, u41, u42, u43, u44, u45, u46, u47, u48, u49, u50, u51, u52, u53, u54, u55, u56, u57, u58, u59, u60, u61, u62, u63, u64, u65, rfl, q1, q2, hp, hB⟩
    have hvp := HVP.out
    have uW := h.later hB (Nat.le_refl _)
    have vW := h2.later hB (Nat.le_refl _)
    have lP : np ≤ 274877906944 := by have := hp.len; have := digs_len_prod (val vs) g; have := vW.short; have := digs_length_le.2 (show g < 18446744073709551616 ^ 1 by simpa using q2); omega
    have lP2 := Lib.hid lP
    clear lP
    go_wp2_with fail
    with_reducible refine (cmp_any _ _ _ (digs (val vs * g)) _ _ _ us _ hp.toNatAt uW.toNatAt).mono ?_
    rintro e wc ⟨rfl, hbc⟩
    rw [val_digs]
    have hBc := below_later hB hbc
    have pC := hp.later hbc (Nat.le_refl _)
    have uC := uW.later hbc (Nat.le_refl _)
    have vC := vW.later hbc (Nat.le_refl _)
    clear hbc uW vW
    by_cases hgt : val us < val vs * g
    · rw [cmpI_gt hgt]
      obtain ⟨m1, m2, m3⟩ := guess_less q1 hgt
      have hle : val vs ≤ val (digs (val vs * g)) := by
        rw [val_digs]
        exact Nat.le_mul_of_pos_right _ m1
      have HLE := Lib.hid hle
      have M3 := Lib.hid m3
      have M2 := Lib.hid m2
      obtain ⟨g2, hg2⟩ : ∃ g2, g - 1 = g2 := ⟨_, rfl⟩
      have eg : IntKind.u64.wrap ((g : Int) - 1) = (g2 : Int) := by rw [IntKind.wrap_u64]; omega
      have hg3 : g2 < g := by omega
      have hg4 : g2 < 18446744073709551616 := by omega
      rw [hg2] at M2 M3
      have HG3 := Lib.hid hg3
      have HG4 := Lib.hid hg4
      have GX := Lib.hid hg2
      clear m1 m2 m3 hle hgt hg2 hg3 hg4 q1 q2
      go_wp2_with fail
      with_reducible refine (sub_yes _ _ _ (digs (val vs * g)) _ _ _ vs _ pC.toNatAt vC (by have := lP2.out; omega) HLE.out).mono ?_
      rintro e wd ⟨ad, nd, cd, rfl, hd, hbd⟩
      rw [val_digs, M3.out] at hd
      have hBd := below_later hBc hbd
      have hd := hd.mono hBc.size
      clear hbd pC uC vC
      go_wp2
      go_step3
      refine ⟨rfl, ⟨g2, ad, nd, cd, _, _, _, _, _, _, _, _, _, _, _, _, _, _, _, _, _, _, _, _, _, _, _, _, _, _, _, _, _, _, _, _, _, _, _, _, _, _, _, _, _, _, _, _, _, _, _, _, _, _, _, _, _, _, _, _, _, _, _, _, rfl, M2.out, HG4.out, hd, hBd⟩, ?_⟩
      have := HG3.out
      simp [intOf]
      try omega
    · have hcm : cmpI (val vs * g) (val us) ≤ 0 := by unfold cmpI; split <;> (try split) <;> omega
      obtain ⟨K, hK⟩ : ∃ K, cmpI (val vs * g) (val us) = K := ⟨_, rfl⟩
      rw [hK] at hcm ⊢
      clear hK
      obtain ⟨e1, e2⟩ := guess_last hvp q1 (by omega)
      have hle : val (digs (val vs * g)) ≤ val us := by rw [val_digs]; omega
      have HLE := Lib.hid hle
      have E1 := Lib.hid e1
      have E2 := Lib.hid e2
      clear e1 e2 hle hgt q1 q2
      go_wp2_with fail
      with_reducible refine (sub_yes _ _ _ us _ _ _ (digs (val vs * g)) _ uC.toNatAt pC.toNatAt (by omega) HLE.out).mono ?_
      rintro e wd ⟨ad, nd, cd, rfl, hd, hbd⟩
      rw [val_digs, E2.out] at hd
      have hBd := below_later hBc hbd
      have uD := uC.later hbd (Nat.le_refl _)
      clear hbd pC uC vC
      have hnd : nd ≤ n := by rw [← hd.len]; exact HRL.out
      obtain ⟨wz, hwz⟩ : ∃ wz, wd.setCells b o (dv (List.replicate (n + 1) 0)) = wz := ⟨_, rfl⟩
      have hcl := fun ty => Lib.run_clear_slice (P := Try.prog) wd 32 73 ty (.int .u64 0) Try.underlying32 zero73 rfl rfl b o (n + 1) c (by omega) (fun j hj => by
        rcases uD.cell with h2 | ⟨b', o', he, hc⟩
        · omega
        · cases he; rw [hc j hj]; rfl) (fun j hj => by
        rcases uD.own with h2 | ⟨b', o', he, _, hf⟩
        · omega
        · cases he; exact hf j hj)
      rw [← dv_replicate, hwz] at hcl
      have uZ := uD.setAll (l' := List.replicate (n + 1) 0) (by simp) (dig_replicate _)
      rw [hwz] at uZ
      have hcp : ∀ ty, (Builtin.copy_ #[32, 32] ty #[.slice (some ⟨b, o, none⟩) (n + 1) c, .slice ad nd cd]).run Try.prog wz = .ok (goInt ((nd : Nat) : Int)) (wz.setCells b o (dv (digs (val us % val vs)))) := by
        intro ty
        have hisz : (Try.prog.info? 73).map (·.size) = some 1 := by kernel_rfl
        by_cases h0 : nd = 0
        · subst h0
          have e0 : digs (val us % val vs) = [] := List.eq_nil_of_length_eq_zero hd.len
          rw [e0]
          exact run_copy_none wz _ _ ty _ _ _ _ _ _ _ Try.underlying32 hisz (by simp)
        · rcases hd.cell with h' | ⟨bd, od, rfl, hcd⟩
          · exact absurd h' h0
          rcases hd.own with h' | ⟨bd', od', he, hBd', _⟩
          · exact absurd h' h0
          cases he
          have hlen : (dv (digs (val us % val vs))).length = nd := by rw [dv_length]; exact hd.len
          have := run_copy_cells (P := Try.prog) wz 32 32 ty 73 b o (n + 1) c ⟨bd, od, none⟩ nd cd (dv (digs (val us % val vs))) Try.underlying32 hisz (by rw [hlen]; exact (Nat.min_eq_left (by omega)).symm)
            (fun j v hj => ?_) (fun j hj => ?_) (fun j hj => ?_) (dv_one _)
          · rw [hlen] at this; exact this
          · have hjl : j < nd := by have := (List.getElem?_eq_some_iff.1 hj).1; rwa [hlen] at this
            rw [dv_at (by rw [hd.len]; exact hjl)] at hj
            cases hj
            rw [addr_add, ← hwz, World.cell?_setCells_out _ _ _ _ _ (fun e => absurd e (HBB.out bd (Nat.le_trans hBc.size hBd')))]
            exact hcd j hjl
          · rcases uZ.cell with h' | ⟨b', o', he, hc⟩
            · omega
            · cases he; rw [hc j (by rw [hlen] at hj; omega)]; rfl
          · rcases uZ.own with h' | ⟨b', o', he, _, hf⟩
            · omega
            · cases he; exact hf j (by rw [hlen] at hj; omega)
      clear uD uZ hd
      go_wp2
      simp only [Exit.jump]
      go_ret
      exact ⟨wd, by first | exact rfl | (rw [E1.out]; exact rfl), hBd, by rw [hwz]⟩

set_option maxRecDepth 100000 in
set_option maxHeartbeats 4000000 in
theorem step_b (b o n c : Nat) (us : List Nat) (bv ov c2 : Nat) (vs : List Nat) (B : Nat) (w : World) (h : OwnAt w B (some ⟨b, o, none⟩) (n + 1) c us) (h2 : NatAt w (some ⟨bv, ov, none⟩) n c2 vs) (hs : n ≤ 137438953472) (hn : 0 < n) (ht : 0 < D vs (n - 1)) (hv : val us < val vs * 18446744073709551616)
    (hg : ¬ D us n < D vs (n - 1)) :
    Calls Try.prog 108 #[.slice (some ⟨b, o, none⟩) (n + 1) c, .slice (some ⟨bv, ov, none⟩) n c2] w (RetStep w b o n (val us / val vs) (val us % val vs)) := by
  have hlu := h.len
  have hlv := h2.len
  have hdu := h.dig
  have hdv := h2.dig
  obtain ⟨hq1, hq2⟩ := guess_ok hdu hdv hlu hlv hn ht hv
  have hvp : 0 < val vs := by
    rcases Nat.eq_zero_or_pos (val vs) with h0 | h0
    · rw [h0] at hv; omega
    · exact h0
  have hrl : (digs (val us % val vs)).length ≤ n := by
    refine Nat.le_trans (digs_len_mono (Nat.le_of_lt (Nat.mod_lt _ hvp))) ?_
    have := digs_length_val hdv; omega
  have HRL := Lib.hid hrl
  have HVP := Lib.hid hvp
  clear hrl
  rcases h.cell with h' | ⟨b', o', he, hc⟩
  · omega
  cases he
  have hbw : b < w.heap.size := World.block_lt_of_cell? w _ (hc 0 (by omega))
  have hbb : ∀ x, w.heap.size ≤ x → x ≠ b := fun x hx e => by omega
  have HBB := Lib.hid hbb
  rcases h2.parts with h' | ⟨bv', ov', he, _, hcv⟩
  · omega
  cases he
  have hc1 := hc n (by omega)
  have hc0 := hc (n - 1) (by omega)
  have hv0 := hcv (n - 1) (by omega)
  have en : ((n : Int) - 1).toNat = n - 1 := by omega
  have en2 : (0 : Int) ≤ (n : Int) - 1 := by omega
  have en3 : (n : Int) - 1 < (n : Int) := by omega
  have en4 : (n : Int) - 1 < (n : Int) + 1 := by omega
  have en5 : (0 : Int) ≤ (n : Int) := by omega
  have en6 : (n : Int) < (n : Int) + 1 := by omega
  have eg : guessN us vs n = 18446744073709551615 := if_neg hg
  obtain ⟨g0, hg0⟩ : ∃ g0, guessN us vs n = g0 := ⟨_, rfl⟩
  rw [hg0] at hq1 hq2 eg
  have egi : (18446744073709551615 : Int) = (g0 : Int) := by rw [eg]; rfl
  have EGI := Lib.hid egi
  clear hg0 egi
  have hgd : decide (D us n < D vs (n - 1)) = false := decide_eq_false hg
  have HQ1 := Lib.hid hq1
  have HQ2 := Lib.hid hq2
  clear hc hcv hlu hlv hdu hdv eg hg hq1 hq2  hvp hv ht hbb
  go_enter Try.func108, Try.ntmps108
  go_wp2
  refine wp_scope_jumps 0 (fun a' w' => ∃ (g : Nat) (ap : Option Addr) (np cp : Nat) (u2 u3 u8 u9 u10 u11 u12 u13 u14 u15 u16 u17 u18 u19 u20 u21 u22 u23 u24 u25 u26 u27 u28 u29 u30 u31 u32 u33 u34 u35 u36 u37 u38 u39 u40 u41 u42 u43 u44 u45 u46 u47 u48 u49 u50 u51 u52 u53 u54 u55 u56 u57 u58 u59 u60 u61 u62 u63 u64 u65 : Value), a' = { tmps := #[.slice (some ⟨b, o, none⟩) (n + 1) c, .slice (some ⟨bv, ov, none⟩) n c2, u2, u3, .int .u64 0, .int .i64 (n : Int), .int .u64 (g : Int), .slice ap np cp, u8, u9, u10, u11, u12, u13, u14, u15, u16, u17, u18, u19, u20, u21, u22, u23, u24, u25, u26, u27, u28, u29, u30, u31, u32, u33, u34, u35, u36, u37, u38, u39, u40, u41, u42, u43, u44, u45, u46, u47, u48, u49, u50, u51, u52, u53, u54, u55, u56, u57, u58, u59, u60, u61, u62, u63, u64, u65], defers := [] } ∧ val us / val vs ≤ g ∧ g < 18446744073709551616 ∧ OwnAt w' w.heap.size ap np cp (digs (val vs * g)) ∧ Below w.heap.size w w') (fun a' _ => (intOf (a'.tmps.getD 6 undef)).toNat) rfl ?_ ?_
  · go_wp2_with fail
    go_quiet (fail)
    have hB := Below.draws (Below.refl w.heap.size w) nq
    rw [EGI.out]
    go_wp2_with fail
    with_reducible refine (tgrow_any _ _ _ vs _ _ (h2.later hB (Nat.le_refl _)) (by omega) HQ2.out).mono ?_
    rintro e w2 ⟨ap, np, cp, rfl, hp, hbp⟩
    have hp := hp.mono hB.size
    have hB := below_later hB hbp
    have q1 := HQ1.out
    have q2 := HQ2.out
    have hvp := HVP.out
    clear hbp
    go_wp2_with fail
    go_step3
    have uW := h.later hB (Nat.le_refl _)
    have vW := h2.later hB (Nat.le_refl _)
    have lP : np ≤ 274877906944 := by have := hp.len; have := digs_len_prod (val vs) g0; have := vW.short; have := digs_length_le.2 (show g0 < 18446744073709551616 ^ 1 by simpa using q2); omega
    have lP2 := Lib.hid lP
    clear lP
    go_wp2_with fail
    with_reducible refine (cmp_any _ _ _ (digs (val vs * g0)) _ _ _ us _ hp.toNatAt uW.toNatAt).mono ?_
    rintro e wc ⟨rfl, hbc⟩
    rw [val_digs]
    have hBc := below_later hB hbc
    have pC := hp.later hbc (Nat.le_refl _)
    have uC := uW.later hbc (Nat.le_refl _)
    have vC := vW.later hbc (Nat.le_refl _)
    clear hbc uW vW
    by_cases hgt : val us < val vs * g0
    · rw [cmpI_gt hgt]
      obtain ⟨m1, m2, m3⟩ := guess_less q1 hgt
      have hle : val vs ≤ val (digs (val vs * g0)) := by
        rw [val_digs]
        exact Nat.le_mul_of_pos_right _ m1
      have HLE := Lib.hid hle
      have M3 := Lib.hid m3
      have M2 := Lib.hid m2
      obtain ⟨g2, hg2⟩ : ∃ g2, g0 - 1 = g2 := ⟨_, rfl⟩
      have eg : IntKind.u64.wrap ((g0 : Int) - 1) = (g2 : Int) := by rw [IntKind.wrap_u64]; omega
      have hg3 : g2 < g0 := by omega
      have hg4 : g2 < 18446744073709551616 := by omega
      rw [hg2] at M2 M3
      have HG3 := Lib.hid hg3
      have HG4 := Lib.hid hg4
      have GX := Lib.hid hg2
      clear m1 m2 m3 hle hgt hg2 hg3 hg4 q1 q2
      go_wp2_with fail
      with_reducible refine (sub_yes _ _ _ (digs (val vs * g0)) _ _ _ vs _ pC.toNatAt vC (by have := lP2.out; omega) HLE.out).mono ?_
      rintro e wd ⟨ad, nd, cd, rfl, hd, hbd⟩
      rw [val_digs, M3.out] at hd
      have hBd := below_later hBc hbd
      have hd := hd.mono hBc.size
      clear hbd pC uC vC
      go_wp2
      go_step3
      refine ⟨rfl, g2, ad, nd, cd, _, _, _, _, _, _, _, _, _, _, _, _, _, _, _, _, _, _, _, _, _, _, _, _, _, _, _, _, _, _, _, _, _, _, _, _, _, _, _, _, _, _, _, _, _, _, _, _, _, _, _, _, _, _, _, _, _, _, _, _, rfl, M2.out, HG4.out, hd, hBd⟩
    · have hcm : cmpI (val vs * g0) (val us) ≤ 0 := by unfold cmpI; split <;> (try split) <;> omega
      obtain ⟨K, hK⟩ : ∃ K, cmpI (val vs * g0) (val us) = K := ⟨_, rfl⟩
      rw [hK] at hcm ⊢
      clear hK
      obtain ⟨e1, e2⟩ := guess_last hvp q1 (by omega)
      have hle : val (digs (val vs * g0)) ≤ val us := by rw [val_digs]; omega
      have HLE := Lib.hid hle
      have E1 := Lib.hid e1
      have E2 := Lib.hid e2
      clear e1 e2 hle hgt q1 q2
      go_wp2_with fail
      with_reducible refine (sub_yes _ _ _ us _ _ _ (digs (val vs * g0)) _ uC.toNatAt pC.toNatAt (by omega) HLE.out).mono ?_
      rintro e wd ⟨ad, nd, cd, rfl, hd, hbd⟩
      rw [val_digs, E2.out] at hd
      have hBd := below_later hBc hbd
      have uD := uC.later hbd (Nat.le_refl _)
      clear hbd pC uC vC
      have hnd : nd ≤ n := by rw [← hd.len]; exact HRL.out
      obtain ⟨wz, hwz⟩ : ∃ wz, wd.setCells b o (dv (List.replicate (n + 1) 0)) = wz := ⟨_, rfl⟩
      have hcl := fun ty => Lib.run_clear_slice (P := Try.prog) wd 32 73 ty (.int .u64 0) Try.underlying32 zero73 rfl rfl b o (n + 1) c (by omega) (fun j hj => by
        rcases uD.cell with h2 | ⟨b', o', he, hc⟩
        · omega
        · cases he; rw [hc j hj]; rfl) (fun j hj => by
        rcases uD.own with h2 | ⟨b', o', he, _, hf⟩
        · omega
        · cases he; exact hf j hj)
      rw [← dv_replicate, hwz] at hcl
      have uZ := uD.setAll (l' := List.replicate (n + 1) 0) (by simp) (dig_replicate _)
      rw [hwz] at uZ
      have hcp : ∀ ty, (Builtin.copy_ #[32, 32] ty #[.slice (some ⟨b, o, none⟩) (n + 1) c, .slice ad nd cd]).run Try.prog wz = .ok (goInt ((nd : Nat) : Int)) (wz.setCells b o (dv (digs (val us % val vs)))) := by
        intro ty
        have hisz : (Try.prog.info? 73).map (·.size) = some 1 := by kernel_rfl
        by_cases h0 : nd = 0
        · subst h0
          have e0 : digs (val us % val vs) = [] := List.eq_nil_of_length_eq_zero hd.len
          rw [e0]
          exact run_copy_none wz _ _ ty _ _ _ _ _ _ _ Try.underlying32 hisz (by simp)
        · rcases hd.cell with h' | ⟨bd, od, rfl, hcd⟩
          · exact absurd h' h0
          rcases hd.own with h' | ⟨bd', od', he, hBd', _⟩
          · exact absurd h' h0
          cases he
          have hlen : (dv (digs (val us % val vs))).length = nd := by rw [dv_length]; exact hd.len
          have := run_copy_cells (P := Try.prog) wz 32 32 ty 73 b o (n + 1) c ⟨bd, od, none⟩ nd cd (dv (digs (val us % val vs))) Try.underlying32 hisz (by rw [hlen]; exact (Nat.min_eq_left (by omega)).symm)
            (fun j v hj => ?_) (fun j hj => ?_) (fun j hj => ?_) (dv_one _)
          · rw [hlen] at this; exact this
          · have hjl : j < nd := by have := (List.getElem?_eq_some_iff.1 hj).1; rwa [hlen] at this
            rw [dv_at (by rw [hd.len]; exact hjl)] at hj
            cases hj
            rw [addr_add, ← hwz, World.cell?_setCells_out _ _ _ _ _ (fun e => absurd e (HBB.out bd (Nat.le_trans hBc.size hBd')))]
            exact hcd j hjl
          · rcases uZ.cell with h' | ⟨b', o', he, hc⟩
            · omega
            · cases he; rw [hc j (by rw [hlen] at hj; omega)]; rfl
          · rcases uZ.own with h' | ⟨b', o', he, _, hf⟩
            · omega
            · cases he; exact hf j (by rw [hlen] at hj; omega)
      clear uD uZ hd
      go_wp2
      simp only [Exit.jump]
      go_ret
      exact ⟨wd, by first | exact rfl | (rw [E1.out]; exact rfl), hBd, by rw [hwz]⟩
  · rintro a' wr ⟨g, ap, np, cp, u2, u3, u8, u9, u10, u11, u12, u13, u14, u15, u16, u17, u18, u19, u20, u21, u22, u23, u24, u25, u26, u27, u28, u29, u30, u31, u32, u33, u34, u35, u36, u37, u38, u39, u40, u41, u42, u43, u44, u45, u46, u47, u48, u49, u50, u51, u52, u53, u54, u55, u56, u57, u58, u59, u60, u61, u62, u63, u64, u65, rfl, q1, q2, hp, hB⟩
    have hvp := HVP.out
    have uW := h.later hB (Nat.le_refl _)
    have vW := h2.later hB (Nat.le_refl _)
    have lP : np ≤ 274877906944 := by have := hp.len; have := digs_len_prod (val vs) g; have := vW.short; have := digs_length_le.2 (show g < 18446744073709551616 ^ 1 by simpa using q2); omega
    have lP2 := Lib.hid lP
    clear lP
    go_wp2_with fail
    with_reducible refine (cmp_any _ _ _ (digs (val vs * g)) _ _ _ us _ hp.toNatAt uW.toNatAt).mono ?_
    rintro e wc ⟨rfl, hbc⟩
    rw [val_digs]
    have hBc := below_later hB hbc
    have pC := hp.later hbc (Nat.le_refl _)
    have uC := uW.later hbc (Nat.le_refl _)
    have vC := vW.later hbc (Nat.le_refl _)
    clear hbc uW vW
    by_cases hgt : val us < val vs * g
    · rw [cmpI_gt hgt]
      obtain ⟨m1, m2, m3⟩ := guess_less q1 hgt
      have hle : val vs ≤ val (digs (val vs * g)) := by
        rw [val_digs]
        exact Nat.le_mul_of_pos_right _ m1
      have HLE := Lib.hid hle
      have M3 := Lib.hid m3
      have M2 := Lib.hid m2
      obtain ⟨g2, hg2⟩ : ∃ g2, g - 1 = g2 := ⟨_, rfl⟩
      have eg : IntKind.u64.wrap ((g : Int) - 1) = (g2 : Int) := by rw [IntKind.wrap_u64]; omega
      have hg3 : g2 < g := by omega
      have hg4 : g2 < 18446744073709551616 := by omega
      rw [hg2] at M2 M3
      have HG3 := Lib.hid hg3
      have HG4 := Lib.hid hg4
      have GX := Lib.hid hg2
      clear m1 m2 m3 hle hgt hg2 hg3 hg4 q1 q2
      go_wp2_with fail
      with_reducible refine (sub_yes _ _ _ (digs (val vs * g)) _ _ _ vs _ pC.toNatAt vC (by have := lP2.out; omega) HLE.out).mono ?_
      rintro e wd ⟨ad, nd, cd, rfl, hd, hbd⟩
      rw [val_digs, M3.out] at hd
      have hBd := below_later hBc hbd
      have hd := hd.mono hBc.size
      clear hbd pC uC vC
      go_wp2
      go_step3
      refine ⟨rfl, ⟨g2, ad, nd, cd, _, _, _, _, _, _, _, _, _, _, _, _, _, _, _, _, _, _, _, _, _, _, _, _, _, _, _, _, _, _, _, _, _, _, _, _, _, _, _, _, _, _, _, _, _, _, _, _, _, _, _, _, _, _, _, _, _, _, _, _, rfl, M2.out, HG4.out, hd, hBd⟩, ?_⟩
      have := HG3.out
      simp [intOf]
      try omega
    · have hcm : cmpI (val vs * g) (val us) ≤ 0 := by unfold cmpI; split <;> (try split) <;> omega
      obtain ⟨K, hK⟩ : ∃ K, cmpI (val vs * g) (val us) = K := ⟨_, rfl⟩
      rw [hK] at hcm ⊢
      clear hK
      obtain ⟨e1, e2⟩ := guess_last hvp q1 (by omega)
      have hle : val (digs (val vs * g)) ≤ val us := by rw [val_digs]; omega
      have HLE := Lib.hid hle
      have E1 := Lib.hid e1
      have E2 := Lib.hid e2
      clear e1 e2 hle hgt q1 q2
      go_wp2_with fail
      with_reducible refine (sub_yes _ _ _ us _ _ _ (digs (val vs * g)) _ uC.toNatAt pC.toNatAt (by omega) HLE.out).mono ?_
      rintro e wd ⟨ad, nd, cd, rfl, hd, hbd⟩
      rw [val_digs, E2.out] at hd
      have hBd := below_later hBc hbd
      have uD := uC.later hbd (Nat.le_refl _)
      clear hbd pC uC vC
      have hnd : nd ≤ n := by rw [← hd.len]; exact HRL.out
      obtain ⟨wz, hwz⟩ : ∃ wz, wd.setCells b o (dv (List.replicate (n + 1) 0)) = wz := ⟨_, rfl⟩
      have hcl := fun ty => Lib.run_clear_slice (P := Try.prog) wd 32 73 ty (.int .u64 0) Try.underlying32 zero73 rfl rfl b o (n + 1) c (by omega) (fun j hj => by
        rcases uD.cell with h2 | ⟨b', o', he, hc⟩
        · omega
        · cases he; rw [hc j hj]; rfl) (fun j hj => by
        rcases uD.own with h2 | ⟨b', o', he, _, hf⟩
        · omega
        · cases he; exact hf j hj)
      rw [← dv_replicate, hwz] at hcl
      have uZ := uD.setAll (l' := List.replicate (n + 1) 0) (by simp) (dig_replicate _)
      rw [hwz] at uZ
      have hcp : ∀ ty, (Builtin.copy_ #[32, 32] ty #[.slice (some ⟨b, o, none⟩) (n + 1) c, .slice ad nd cd]).run Try.prog wz = .ok (goInt ((nd : Nat) : Int)) (wz.setCells b o (dv (digs (val us % val vs)))) := by
        intro ty
        have hisz : (Try.prog.info? 73).map (·.size) = some 1 := by kernel_rfl
        by_cases h0 : nd = 0
        · subst h0
          have e0 : digs (val us % val vs) = [] := List.eq_nil_of_length_eq_zero hd.len
          rw [e0]
          exact run_copy_none wz _ _ ty _ _ _ _ _ _ _ Try.underlying32 hisz (by simp)
        · rcases hd.cell with h' | ⟨bd, od, rfl, hcd⟩
          · exact absurd h' h0
          rcases hd.own with h' | ⟨bd', od', he, hBd', _⟩
          · exact absurd h' h0
          cases he
          have hlen : (dv (digs (val us % val vs))).length = nd := by rw [dv_length]; exact hd.len
          have := run_copy_cells (P := Try.prog) wz 32 32 ty 73 b o (n + 1) c ⟨bd, od, none⟩ nd cd (dv (digs (val us % val vs))) Try.underlying32 hisz (by rw [hlen]; exact (Nat.min_eq_left (by omega)).symm)
            (fun j v hj => ?_) (fun j hj => ?_) (fun j hj => ?_) (dv_one _)
          · rw [hlen] at this; exact this
          · have hjl : j < nd := by have := (List.getElem?_eq_some_iff.1 hj).1; rwa [hlen] at this
            rw [dv_at (by rw [hd.len]; exact hjl)] at hj
            cases hj
            rw [addr_add, ← hwz, World.cell?_setCells_out _ _ _ _ _ (fun e => absurd e (HBB.out bd (Nat.le_trans hBc.size hBd')))]
            exact hcd j hjl
          · rcases uZ.cell with h' | ⟨b', o', he, hc⟩
            · omega
            · cases he; rw [hc j (by rw [hlen] at hj; omega)]; rfl
          · rcases uZ.own with h' | ⟨b', o', he, _, hf⟩
            · omega
            · cases he; exact hf j (by rw [hlen] at hj; omega)
      clear uD uZ hd
      go_wp2
      simp only [Exit.jump]
      go_ret
      exact ⟨wd, by first | exact rfl | (rw [E1.out]; exact rfl), hBd, by rw [hwz]⟩

end Go.Proofs.Ytlkoenpdmlbhlaa

/- quot, third part: Div. -/
set_option linter.unusedVariables false
set_option linter.unusedSimpArgs false
namespace Go.Proofs.Ytlkoenpdmlbhlaa
open Go.RowKit

/-- A call that tells a quotient and what is left, both in new memory. -/
def RetDiv (w : World) (Q R : Nat) (e : Ending) (w' : World) : Prop :=
  ∃ a n c a' n' c', e = .returned (.tuple #[.slice a n c, .slice a' n' c', .int .i64 0]) ∧ OwnAt w' w.heap.size a n c (digs Q) ∧ OwnAt w' w.heap.size a' n' c' (digs R) ∧ Below w.heap.size w w'

theorem step_any (b o n c : Nat) (us : List Nat) (bv ov c2 : Nat) (vs : List Nat) (B : Nat) (w : World) (h : OwnAt w B (some ⟨b, o, none⟩) (n + 1) c us) (h2 : NatAt w (some ⟨bv, ov, none⟩) n c2 vs) (hs : n ≤ 137438953472) (hn : 0 < n) (ht : 0 < D vs (n - 1)) (hv : val us < val vs * 18446744073709551616) :
    Calls Try.prog 108 #[.slice (some ⟨b, o, none⟩) (n + 1) c, .slice (some ⟨bv, ov, none⟩) n c2] w (RetStep w b o n (val us / val vs) (val us % val vs)) := by
  by_cases hg : D us n < D vs (n - 1)
  · exact step_a b o n c us bv ov c2 vs B w h h2 hs hn ht hv hg
  · exact step_b b o n c us bv ov c2 vs B w h h2 hs hn ht hv hg

/-- the divisor, moved up as far as it goes, has as many digits -/
theorem norm_len {b m s : Nat} (hl : (digs b).length = m + 1) (hs : 64 - nbits (D (digs b) m) = s) : (digs (b * 2 ^ s)).length = m + 1 ∧ 0 < D (digs (b * 2 ^ s)) m ∧ 18446744073709551616 ^ m ≤ b ∧ s ≤ 63 := by
  have hb : b ≠ 0 := fun e => by rw [digs_len0.2 e] at hl; omega
  have ht : D (digs b) m ≠ 0 := by have := D_digs_last hb; rwa [hl, Nat.add_sub_cancel] at this
  have hn := nbits_top (dig_digs b) hl ht
  rw [val_digs] at hn
  have h1 : 0 < nbits (D (digs b) m) := nbits_gt (by rw [Nat.pow_zero]; omega)
  have h2 : nbits (D (digs b) m) ≤ 64 := nbits_le (Nat.lt_of_lt_of_le ((dig_digs b).at_ m) (by decide))
  have hup : b * 2 ^ s < 18446744073709551616 ^ (m + 1) := by
    rw [B_pow]
    have h3 : b * 2 ^ s < 2 ^ nbits b * 2 ^ s := Nat.mul_lt_mul_of_pos_right (nbits_lt b) (Nat.pow_pos (by decide))
    rw [← Nat.pow_add, hn, show 64 * m + nbits (D (digs b) m) + s = 64 * (m + 1) by omega] at h3
    exact h3
  have hps : 0 < 2 ^ s := Nat.pow_pos (by decide)
  have hlen : (digs (b * 2 ^ s)).length = m + 1 := by
    have h3 := digs_length_le.2 hup
    have h4 := digs_len_mono (a := b) (b := b * 2 ^ s) (Nat.le_mul_of_pos_right _ hps)
    omega
  have hne : b * 2 ^ s ≠ 0 := Nat.mul_ne_zero hb (by omega)
  refine ⟨hlen, ?_, ?_, by omega⟩
  · have := D_digs_last hne
    rw [hlen, Nat.add_sub_cancel] at this
    omega
  · rcases Nat.lt_or_ge b (18446744073709551616 ^ m) with h5 | h5
    · have := digs_length_le.2 h5
      omega
    · exact h5

/-- a round's store of what is left into the moved dividend -/
theorem put_own {W wk : World} {B bu ou N cu m j R : Nat} {us : List Nat} (h : OwnAt W B (some ⟨bu, ou, none⟩) N cu us) (hb : Below W.heap.size W wk) (hj : j + (m + 1) ≤ N) (hr : (digs R).length ≤ m + 1) :
    OwnAt ((wk.setCells bu (ou + j) (dv (List.replicate (m + 1) 0))).setCells bu (ou + j) (dv (digs R))) B (some ⟨bu, ou, none⟩) N cu (put us j m R) := by
  have hk := h.later hb (Nat.le_refl _)
  have hlu := hk.len
  rcases hk.cell with h' | ⟨b', o', he, hc⟩
  · omega
  cases he
  rcases hk.own with h' | ⟨b', o', he, hB, hf⟩
  · omega
  cases he
  refine ⟨⟨by rw [put_len (by omega) hr]; exact hlu, hk.le, hk.cle, put_dig hk.dig, .inr ⟨bu, ou, rfl, fun i hi => ?_⟩, fun e => by cases e⟩, .inr ⟨bu, ou, rfl, hB, fun i hi => by rw [World.frozen?_setCells, World.frozen?_setCells]; exact hf i hi⟩⟩
  have hz : ∀ i, i < N → ((wk.setCells bu (ou + j) (dv (List.replicate (m + 1) 0))).cell? ⟨bu, ou + i, none⟩) = some (.int .u64 ((if j ≤ i ∧ i < j + (m + 1) then 0 else D us i : Nat) : Int)) := by
    intro i hi
    by_cases hin : j ≤ i ∧ i < j + (m + 1)
    · rw [if_pos hin]
      obtain ⟨d, rfl⟩ : ∃ d, i = j + d := ⟨i - j, by omega⟩
      rw [← Nat.add_assoc, World.cell?_setCells_in bu _ (ou + j) wk (fun q hq => by rw [dv_length, List.length_replicate] at hq; have := hc (j + q) (by omega); rw [Nat.add_assoc, this]; rfl) d (by rw [dv_length, List.length_replicate]; omega)]
      simp [dv]
    · rw [if_neg hin, World.cell?_setCells_out _ _ _ _ _ (fun _ _ => by rw [dv_length, List.length_replicate]; show ou + i < ou + j ∨ _ ≤ ou + i; omega)]
      exact hc i hi
  by_cases hin : j ≤ i ∧ i < j + (digs R).length
  · obtain ⟨d, rfl⟩ : ∃ d, i = j + d := ⟨i - j, by omega⟩
    have hdl : d < (dv (digs R)).length := by rw [dv_length]; omega
    rw [← Nat.add_assoc, World.cell?_setCells_in bu _ (ou + j) _ (fun q hq => by rw [dv_length] at hq; rw [Nat.add_assoc, hz _ (by omega)]; rfl) d hdl]
    have e1 := dv_at (l := digs R) (i := d) (by omega)
    rw [List.getElem?_eq_getElem hdl] at e1
    rw [e1]
    rw [put_mid (by omega) (by omega)]
  · rw [World.cell?_setCells_out _ _ _ _ _ (fun _ _ => by rw [dv_length]; show ou + i < ou + j ∨ _ ≤ ou + i; omega), hz i hi, put_rest (by omega) hr hin]
theorem OwnAt.sub {w : World} {B b o n c : Nat} {l : List Nat} (h : OwnAt w B (some ⟨b, o, none⟩) n c l) {j p : Nat} (hj : j + p ≤ n) : OwnAt w B (some ⟨b, o + j, none⟩) p (c - j) ((l.drop j).take p) := by
  have hd := h.toNatAt.drop j (by omega)
  refine ⟨hd.take (by omega), ?_⟩
  rcases h.own with h0 | ⟨b', o', he, hB, hf⟩
  · exact .inl (by omega)
  · cases he
    exact .inr ⟨b, o + j, rfl, hB, fun i hi => by rw [Nat.add_assoc]; exact hf (j + i) (by omega)⟩
theorem OwnAt.setOther {w : World} {B b o n c bu s : Nat} {l : List Nat} (h : OwnAt w B (some ⟨b, o, none⟩) n c l) (hb : b ≠ bu) (vs : List Value) : OwnAt (w.setCells bu s vs) B (some ⟨b, o, none⟩) n c l := by
  refine ⟨⟨h.len, h.le, h.cle, h.dig, ?_, h.nilc⟩, ?_⟩
  · rcases h.cell with h0 | ⟨b', o', he, hc⟩
    · exact .inl h0
    · cases he
      exact .inr ⟨b, o, rfl, fun i hi => by rw [World.cell?_setCells_out _ _ _ _ _ (fun e => absurd e hb)]; exact hc i hi⟩
  · rcases h.own with h0 | ⟨b', o', he, hB, hf⟩
    · exact .inl h0
    · cases he
      exact .inr ⟨b, o, rfl, hB, fun i hi => by rw [World.frozen?_setCells]; exact hf i hi⟩
theorem OwnAt.setDigitOther {w : World} {B b o n c bu s : Nat} {l : List Nat} (h : OwnAt w B (some ⟨b, o, none⟩) n c l) (hb : b ≠ bu) (v : Value) : OwnAt (w.setCell ⟨bu, s, none⟩ v) B (some ⟨b, o, none⟩) n c l := by
  have := h.setOther (s := s) hb [v]
  exact this

theorem div_zero (a : Option Addr) (n c : Nat) (l : List Nat) (a2 : Option Addr) (n2 c2 : Nat) (l2 : List Nat) (w : World) (h : NatAt w a n c l) (h2 : NatAt w a2 n2 c2 l2) (hs : n ≤ 68719476736) (hs2 : n2 ≤ 68719476736) (hz : val l2 = 0) :
    Calls Try.prog 95 #[.slice a n c, .slice a2 n2 c2] w (RetVal w (.tuple #[.slice none 0 0, .slice none 0 0, .int .i64 5])) := by
  go_enter Try.func95, Try.ntmps95
  go_wp2_with fail
  with_reducible refine (trim_any _ _ _ l _ h (by omega)).mono ?_
  rintro e w1 ⟨a1, n1, c1, rfl, h3, hb1⟩
  have h2 := h2.later hb1 (Nat.le_refl _)
  go_wp2_with fail
  with_reducible refine (trim_any _ _ _ l2 _ h2 (by omega)).mono ?_
  rintro e w2 ⟨a4, n4, c4, rfl, h4, hb2⟩
  have b1 : n1 ≤ n := by have e1 := h3.len; have e2 := digs_length_val h.dig; rw [h.len] at e2; omega
  have b4 : n4 ≤ n2 := by have e1 := h4.len; have e2 := digs_length_val h2.dig; rw [h2.len] at e2; omega
  have h3 := h3.later hb2 (Nat.le_refl _)
  have hb := below_later hb1 hb2
  have h4 := h4.mono hb1.size
  clear hb1 hb2
  obtain rfl : n4 = 0 := by rw [← h4.len, hz]; rfl
  go_wp2
  go_ret3
  exact ⟨rfl, hb⟩

theorem div_less (a : Option Addr) (n c : Nat) (l : List Nat) (a2 : Option Addr) (n2 c2 : Nat) (l2 : List Nat) (w : World) (h : NatAt w a n c l) (h2 : NatAt w a2 n2 c2 l2) (hs : n ≤ 68719476736) (hs2 : n2 ≤ 68719476736) (hz : val l2 ≠ 0) (hv : val l < val l2) :
    Calls Try.prog 95 #[.slice a n c, .slice a2 n2 c2] w (RetDiv w 0 (val l)) := by
  go_enter Try.func95, Try.ntmps95
  go_wp2_with fail
  with_reducible refine (trim_any _ _ _ l _ h (by omega)).mono ?_
  rintro e w1 ⟨a1, n1, c1, rfl, h3, hb1⟩
  have h2 := h2.later hb1 (Nat.le_refl _)
  go_wp2_with fail
  with_reducible refine (trim_any _ _ _ l2 _ h2 (by omega)).mono ?_
  rintro e w2 ⟨a4, n4, c4, rfl, h4, hb2⟩
  have b1 : n1 ≤ n := by have e1 := h3.len; have e2 := digs_length_val h.dig; rw [h.len] at e2; omega
  have b4 : n4 ≤ n2 := by have e1 := h4.len; have e2 := digs_length_val h2.dig; rw [h2.len] at e2; omega
  have h3 := h3.later hb2 (Nat.le_refl _)
  have hb := below_later hb1 hb2
  have h4 := h4.mono hb1.size
  clear hb1 hb2
  have hn4 : ((n4 : Int) == 0) = false := beq_eq_false_iff_ne.2 (by
    have h5 := h4.len
    have h6 := digs_len0 (n := val l2)
    intro e
    exact hz (h6.1 (by omega)))
  have HV := Lib.hid (cmpI_lt hv)
  clear hz hv
  go_wp2_with fail
  with_reducible refine (cmp_any _ _ _ (digs (val l)) _ _ _ (digs (val l2)) _ h3.toNatAt h4.toNatAt).mono ?_
  rintro e w3 ⟨rfl, hb3⟩
  rw [val_digs, val_digs, HV.out]
  go_wp2
  go_ret3
  exact ⟨_, _, _, _, _, _, rfl, OwnAt.nil _ _, h3.later hb3 (Nat.le_refl _), below_later hb hb3⟩

theorem div_one (a : Option Addr) (n c : Nat) (l : List Nat) (a2 : Option Addr) (n2 c2 : Nat) (l2 : List Nat) (w : World) (h : NatAt w a n c l) (h2 : NatAt w a2 n2 c2 l2) (hs : n ≤ 68719476736) (hs2 : n2 ≤ 68719476736) (hz : val l2 ≠ 0) (hv : val l2 ≤ val l) (h1 : val l2 < 18446744073709551616) :
    Calls Try.prog 95 #[.slice a n c, .slice a2 n2 c2] w (RetDiv w (val l / val l2) (val l % val l2)) := by
  obtain ⟨R, hR⟩ : ∃ R, val l % val l2 = R := ⟨_, rfl⟩
  have hrl : R < 18446744073709551616 := by rw [← hR]; exact Nat.lt_trans (Nat.mod_lt _ (by omega)) h1
  rw [hR]
  have HR := Lib.hid hR
  have HRL := Lib.hid hrl
  clear hR hrl
  go_enter Try.func95, Try.ntmps95
  go_wp2_with fail
  with_reducible refine (trim_any _ _ _ l _ h (by omega)).mono ?_
  rintro e w1 ⟨a1, n1, c1, rfl, h3, hb1⟩
  have h2 := h2.later hb1 (Nat.le_refl _)
  go_wp2_with fail
  with_reducible refine (trim_any _ _ _ l2 _ h2 (by omega)).mono ?_
  rintro e w2 ⟨a4, n4, c4, rfl, h4, hb2⟩
  have b1 : n1 ≤ n := by have e1 := h3.len; have e2 := digs_length_val h.dig; rw [h.len] at e2; omega
  have b4 : n4 ≤ n2 := by have e1 := h4.len; have e2 := digs_length_val h2.dig; rw [h2.len] at e2; omega
  have h3 := h3.later hb2 (Nat.le_refl _)
  have hb := below_later hb1 hb2
  have h4 := h4.mono hb1.size
  clear hb1 hb2
  have hK : 0 ≤ cmpI (val l) (val l2) := by unfold cmpI; split <;> (try split) <;> omega
  obtain ⟨K, hK2⟩ : ∃ K, cmpI (val l) (val l2) = K := ⟨_, rfl⟩
  rw [hK2] at hK
  have HK := Lib.hid hK2
  have hd : digs (val l2) = [val l2] := digs_small hz h1
  obtain rfl : n4 = 1 := by rw [← h4.len, hd]; rfl
  have HZ := Lib.hid hz
  have H1 := Lib.hid h1
  have HD := Lib.hid hd
  clear hK2 hz hv h1 hd
  go_wp2_with fail
  with_reducible refine (cmp_any _ _ _ (digs (val l)) _ _ _ (digs (val l2)) _ h3.toNatAt h4.toNatAt).mono ?_
  rintro e w3 ⟨rfl, hb3⟩
  rw [val_digs, val_digs, HK.out]
  have h3 := h3.later hb3 (Nat.le_refl _)
  have h4 := h4.later hb3 (Nat.le_refl _)
  have hb := below_later hb hb3
  clear hb3
  rcases h4.toNatAt.parts with h' | ⟨b4', o4, rfl, _, hc4⟩
  · omega
  have hc := hc4 0 (by omega)
  rw [HD.out, D_one, Nat.add_zero] at hc
  clear hc4
  go_wp2_with fail
  with_reducible refine (part_yes _ _ _ (digs (val l)) (val l2) _ h3.toNatAt (by omega) (by have := HZ.out; omega) H1.out).mono ?_
  rintro e w5 ⟨a5, n5, c5, rfl, h5, hb5⟩
  rw [val_digs] at h5 ⊢
  rw [HR.out]
  go_wp2_with fail
  with_reducible refine (of_any _ _ HRL.out).mono ?_
  rintro e w6 ⟨a6, n6, c6, rfl, h6, hb6⟩
  go_wp2
  go_ret3
  exact ⟨_, _, _, _, _, _, rfl, (h5.later hb6 (Nat.le_refl _)).mono hb.size, h6.mono (Nat.le_trans hb.size hb5.size), below_later (below_later hb hb5) hb6⟩

set_option maxRecDepth 100000 in
set_option maxHeartbeats 4000000 in
theorem div_long (a : Option Addr) (n c : Nat) (l : List Nat) (a2 : Option Addr) (n2 c2 : Nat) (l2 : List Nat) (w : World) (h : NatAt w a n c l) (h2 : NatAt w a2 n2 c2 l2) (hs : n ≤ 68719476736) (hs2 : n2 ≤ 68719476736) (hv : val l2 ≤ val l) (h1 : 18446744073709551616 ≤ val l2) :
    Calls Try.prog 95 #[.slice a n c, .slice a2 n2 c2] w (RetDiv w (val l / val l2) (val l % val l2)) := by
  obtain ⟨i0, hi, hz0, hz1, hz2⟩ := info_parts info73
  have ht : Try.prog.underlying 3 = some (.int .i64) := Try.underlying3
  go_enter Try.func95, Try.ntmps95
  go_wp2_with fail
  with_reducible refine (trim_any _ _ _ l _ h (by omega)).mono ?_
  rintro e w1 ⟨a1, n1, c1, rfl, h3, hb1⟩
  have h2 := h2.later hb1 (Nat.le_refl _)
  go_wp2_with fail
  with_reducible refine (trim_any _ _ _ l2 _ h2 (by omega)).mono ?_
  rintro e w2 ⟨a4, n4, c4, rfl, h4, hb2⟩
  have b1 : n1 ≤ n := by have e1 := h3.len; have e2 := digs_length_val h.dig; rw [h.len] at e2; omega
  have b4 : n4 ≤ n2 := by have e1 := h4.len; have e2 := digs_length_val h2.dig; rw [h2.len] at e2; omega
  have h3 := h3.later hb2 (Nat.le_refl _)
  have hb := below_later hb1 hb2
  have h4 := h4.mono hb1.size
  clear hb1 hb2
  have hK : 0 ≤ cmpI (val l) (val l2) := by unfold cmpI; split <;> (try split) <;> omega
  obtain ⟨K, hK2⟩ : ∃ K, cmpI (val l) (val l2) = K := ⟨_, rfl⟩
  rw [hK2] at hK
  have HK := Lib.hid hK2
  obtain ⟨m, hm⟩ : ∃ m, n4 = m + 2 := by
    have h5 := h4.len
    have h6 : ¬ (digs (val l2)).length ≤ 1 := fun h => by have := digs_length_le.1 h; rw [Nat.pow_one] at this; omega
    exact ⟨n4 - 2, by omega⟩
  subst hm
  obtain ⟨s, hs3⟩ : ∃ s, 64 - nbits (D (digs (val l2)) (m + 1)) = s := ⟨_, rfl⟩
  obtain ⟨k1, k2, k3, k4⟩ := norm_len (m := m + 1) h4.len hs3
  have hmn : m + 2 ≤ n1 := by rw [← h3.len, ← h4.len]; exact digs_len_mono hv
  have kA : (digs (val l * 2 ^ s)).length ≤ n1 + 1 := by have := digs_len_shift (val l) (s := s) (k := 1) (by omega); rw [h3.len] at this; exact this
  have hApos : 0 < (digs (val l * 2 ^ s)).length := by
    rcases Nat.eq_zero_or_pos (digs (val l * 2 ^ s)).length with h0 | h0
    · have := digs_len0.1 h0
      have hps : 0 < 2 ^ s := Nat.pow_pos (by decide)
      rcases Nat.mul_eq_zero.1 this with h' | h' <;> omega
    · exact h0
  have hAlt : val l < 18446744073709551616 ^ n1 := digs_length_le.1 (by rw [h3.len]; exact Nat.le_refl _)
  have hVpos : 0 < val l2 * 2 ^ s := Nat.mul_pos (by omega) (Nat.pow_pos (by decide))
  have hVlt : val l2 * 2 ^ s < 18446744073709551616 ^ (m + 2) := digs_length_le.1 (by rw [k1]; exact Nat.le_refl _)
  have hmoved := div_moved (n := val l) (y := val l2) (s := s) (by omega)
  have hdt := (dig_digs (val l2)).at_ (m + 1)
  have HS3 := Lib.hid hs3
  have HK1 := Lib.hid k1
  have HK2 := Lib.hid k2
  have HK3 := Lib.hid k3
  have HKA := Lib.hid kA
  have HAP := Lib.hid hApos
  have HAL := Lib.hid hAlt
  have HVP := Lib.hid hVpos
  have HVL := Lib.hid hVlt
  have HMV := Lib.hid hmoved
  have HDT := Lib.hid hdt
  clear hK2 hs3 k1 k2 k3 kA hApos hAlt hVpos hVlt hmoved hdt hv h1
  go_wp2_with fail
  with_reducible refine (cmp_any _ _ _ (digs (val l)) _ _ _ (digs (val l2)) _ h3.toNatAt h4.toNatAt).mono ?_
  rintro e w3 ⟨rfl, hb3⟩
  rw [val_digs, val_digs, HK.out]
  have h3 := h3.later hb3 (Nat.le_refl _)
  have h4 := h4.later hb3 (Nat.le_refl _)
  have hb := below_later hb hb3
  clear hb3
  rcases h4.toNatAt.parts with h' | ⟨b4', o4, rfl, _, hc4⟩
  · omega
  have hc := hc4 (m + 1) (by omega)
  clear hc4
  have em0 : ((m : Int) + 2 - 1).toNat = m + 1 := by omega
  have em1 : (0 : Int) ≤ (m : Int) + 2 - 1 := by omega
  have em2 : (m : Int) + 2 - 1 < (m : Int) + 2 := by omega
  have em3 : ((m : Int) + 2 == 1) = false := beq_eq_false_iff_ne.2 (by omega)
  have em4 : ((m : Int) + 2 == 0) = false := beq_eq_false_iff_ne.2 (by omega)
  go_wp2_with fail
  with_reducible refine (lz64_any _ _ HDT.out).mono ?_
  rintro e w' ⟨rfl, rfl⟩
  rw [HS3.out]
  clear hc em0 em1 em2 em3 em4
  have es : ((s : Nat) : Int).toNat = s := Int.toNat_natCast s
  have ES := Lib.hid es
  clear es
  go_wp2_with fail
  with_reducible refine (shiftUp_clip _ _ _ (digs (val l2)) _ _ h4.toNatAt (by omega) (by omega) (by omega)).mono ?_
  rintro e w5 ⟨a5, n5, rfl, h5, hb5⟩
  rw [val_digs, ES.out] at h5
  obtain rfl : n5 = m + 2 := by rw [← h5.len, HK1.out]
  have h5 := h5.mono hb.size
  have h3 := h3.later hb5 (Nat.le_refl _)
  have hb := below_later hb hb5
  clear hb5 h4
  have hbW5 := Lib.hid hb.size
  obtain ⟨b5, o5, rfl, hlt5⟩ : ∃ b5 o5, a5 = some ⟨b5, o5, none⟩ ∧ b5 < w5.heap.size := by
    rcases h5.toNatAt.parts with h' | ⟨b5, o5, he, hlt, _⟩
    · omega
    · exact ⟨b5, o5, he, hlt⟩
  go_wp2_with fail
  with_reducible refine (shiftUp_clip _ _ _ (digs (val l)) _ _ h3.toNatAt (by omega) (by omega) (by omega)).mono ?_
  rintro e w6 ⟨a6, n6, rfl, h6, hb6⟩
  rw [val_digs, ES.out] at h6
  have hn6 : n6 ≤ n1 + 1 := by rw [← h6.len]; exact HKA.out
  have hn60 : 0 < n6 := by rw [← h6.len]; exact HAP.out
  obtain ⟨z, hz⟩ : ∃ z, n6 + z = n1 + 1 := ⟨n1 + 1 - n6, by omega⟩
  have ez : (n1 : Int) + 1 - (n6 : Int) = (z : Int) := by omega
  obtain ⟨bu, ou, cu, wu, us0, hrun, hown, hbu, hval0, hlt⟩ : ∃ bu ou cu wu us0, (∀ ty, (Builtin.append_ #[32, 3] ty #[.slice a6 n6 n6, .int .i64 (z : Int)]).run Try.prog w6 = .ok (.slice (some ⟨bu, ou, none⟩) (n1 + 1) cu) wu) ∧ OwnAt wu w5.heap.size (some ⟨bu, ou, none⟩) (n1 + 1) cu us0 ∧ Below w6.heap.size w6 wu ∧ val us0 = val l * 2 ^ s ∧ bu < wu.heap.size := by
    rcases h6.cell with h' | ⟨b6, o6, rfl, hc6⟩
    · omega
    by_cases hz0' : z = 0
    · subst hz0'
      obtain rfl : n6 = n1 + 1 := by omega
      exact ⟨b6, o6, n1 + 1, w6, _, fun ty => run_append_none w6 _ _ ty _ i0 .i64 .i64 Try.underlying32 ht hi _ _ _ (Nat.le_refl _), h6, Below.refl _ _, val_digs _, World.block_lt_of_cell? _ _ (hc6 0 (by omega))⟩
    · refine ⟨w6.heap.size, 0, grownCap w6 (n6 + z) n6 73, w6.drew.alloc (.cells ((dv (digs (val l * 2 ^ s))).toArray ++ Builtin.zeroCells (Value.int .u64 0).cells z ++ Builtin.zeroCells (Value.int .u64 0).cells (grownCap w6 (n6 + z) n6 73 - (n6 + z))) 73), digs (val l * 2 ^ s) ++ List.replicate z 0, fun ty => ?_, ?_, (Below.refl _ _).drew.alloc (Nat.le_refl _) _, ?_, by simp⟩
      · rw [← hz]
        exact run_append_zeros (P := Try.prog) w6 32 3 ty 73 i0 (.int .u64 0) .i64 .i64 Try.underlying32 ht hi hz0 hz1 hz2 ⟨b6, o6, none⟩ n6 n6 (dv (digs (val l * 2 ^ s))) (by rw [dv_length]; exact h6.len) (fun q v hq => by
          have hql : q < (digs (val l * 2 ^ s)).length := by have := (List.getElem?_eq_some_iff.1 hq).1; rwa [dv_length] at this
          rw [dv_at hql] at hq
          cases hq
          rw [addr_add]
          exact hc6 q (by rw [h6.len] at hql; exact hql)) z (by omega) (by omega) (by omega)
      · rw [← hz]
        exact (appended_own (E := 73) (w := w6) (m := n6) (n := z) (cap := n6) (l := digs (val l * 2 ^ s)) h6.len (dig_digs _) (by omega)).mono hb6.size
      · rw [val_append, val_digs, val_replicate, Nat.mul_zero, Nat.add_zero]
  have h5 := (h5.later hb6 (Nat.le_refl _)).later hbu (Nat.le_refl _)
  have hb := below_later (below_later hb hb6) hbu
  obtain ⟨nq, hnq⟩ : ∃ nq, nq + (m + 2) = n1 + 1 := ⟨n1 + 1 - (m + 2), by omega⟩
  have eq1 : (n1 : Int) - ((m : Int) + 2) + 1 = (nq : Int) := by omega
  have eq2 : ((nq : Int) - 1).toNat = nq - 1 := by omega
  have hlen0 := hown.len
  have hst : Go.Proofs.Ytlkoenpdmlbhlaa.hi us0 nq < val l2 * 2 ^ s := by
    have := long_start (u0 := us0) (N := n1 + 1) (m := m + 2) hown.dig hval0 HK3.out (by omega) HAL.out (by omega) hlen0
    rwa [show n1 + 1 - (m + 2) = nq by omega] at this
  have HST := Lib.hid hst
  have HV0 := Lib.hid hval0
  have HLEN0 := Lib.hid hlen0
  have HNQ := Lib.hid hnq
  clear h6 hb6 hbu hz hst hval0 hlen0 hnq
  go_wp2_with (first
    | (at_builtin; refine Lib.wpList_append_run _ rfl _ _ 32 3 rfl _ _ rfl rfl _ _ (hrun _) ?_; clear hrun)
    | (at_make; refine wpList_make_full _ rfl _ _ 32 rfl wu.heap.size 73 i0 (.int .u64 0) 1 Try.underlying32 hi hz0 hz1 .i64 .i64 _ _ nq rfl rfl rfl rfl (by rw [hz2]; omega) (by simp only [maxLen]; omega) (Nat.le_refl _) ?_; intro w7 hr7 hg7))
  have h8 : OwnAt w7 wu.heap.size (some ⟨wu.heap.size, 0, none⟩) nq nq (List.replicate nq 0) := made_own (by rw [← toList_madeCells_one]; rw [Nat.mul_one] at hr7; exact hr7)
  have hb7 : Below wu.heap.size wu w7 := (Below.refl _ _).grown hg7 (Nat.le_refl _) (fun k e => by cases e)
  have hbu5 : w5.heap.size ≤ bu := by
    rcases hown.own with h' | ⟨b', o', he, hB, _⟩
    · omega
    · cases he; exact hB
  have HV := Lib.hid (show val (digs (val l2 * 2 ^ s)) = val l2 * 2 ^ s from val_digs _)
  obtain ⟨V, hV⟩ : ∃ V, val l2 * 2 ^ s = V := ⟨_, rfl⟩
  rw [hV] at h5 HST HVP HVL HK2 HMV HV
  have HVV := Lib.hid hV
  clear hr7 hg7 hi hz0 hz1 hz2 ht eq1 eq2 ez hV
  go_loopw [16] (fun i wr => ∃ (k : Nat) (us qs : List Nat), k ≤ nq ∧ i = .int .i64 ((k : Int) - 1) ∧ OwnAt wr w5.heap.size (some ⟨bu, ou, none⟩) (n1 + 1) cu us ∧ OwnAt wr wu.heap.size (some ⟨wu.heap.size, 0, none⟩) nq nq qs ∧ OwnAt wr w.heap.size (some ⟨b5, o5, none⟩) (m + 2) (m + 2) (digs V) ∧ (∀ i, i < k → D us i = D us0 i) ∧ Go.Proofs.Ytlkoenpdmlbhlaa.hi us k = Go.Proofs.Ytlkoenpdmlbhlaa.hi us0 k % V ∧ Go.Proofs.Ytlkoenpdmlbhlaa.hi qs k = Go.Proofs.Ytlkoenpdmlbhlaa.hi us0 k / V ∧ Below w.heap.size w wr) (fun i _ => (intOf i + 1).toNat)
  case atStart => exact ⟨nq, us0, _, Nat.le_refl _, rfl, hown.later hb7 (Nat.le_refl _), h8, h5.later hb7 (Nat.le_refl _), fun _ _ => rfl, (Nat.mod_eq_of_lt HST.out).symm, by rw [hi_all (by simp), Nat.div_eq_of_lt HST.out], below_later hb hb7⟩
  case round =>
    have hbw5 := hb.size
    have hb5w := hbW5.out
    clear hb7 h8 hown h5 hb
    obtain ⟨k, us, qs, hk, rfl, hU, hQ, hV, hlow, hh, hq, hBr⟩ := hrel
    by_cases hlt0 : 0 < k
    · obtain ⟨j, rfl⟩ : ∃ j, k = j + 1 := ⟨k - 1, by omega⟩
      have ej : ((j + 1 : Nat) : Int) - 1 = (j : Int) := by omega
      rw [ej]
      have hjm : j + (m + 2 + 1) ≤ n1 + 1 := by have := HNQ.out; omega
      obtain ⟨s1, s2, s3, s4, s5, s6, s7⟩ := long_step (u0 := us0) (us := us) (qs := qs) (V := V) (m := m + 2) (j := j) HVP.out HVL.out hU.dig (by rw [hU.len]; exact hjm) (by rw [hQ.len]; omega) (hlow j (Nat.lt_succ_self j)) hh hq
      have hsub := hU.sub (j := j) (p := m + 2 + 1) hjm
      have hstep := step_any bu (ou + j) (m + 2) (cu - j) ((us.drop j).take (m + 2 + 1)) b5 o5 (m + 2) (digs V) w5.heap.size wr hsub hV.toNatAt (by omega) (by omega) (by have := HK2.out; exact this) (by rw [HV.out, s1]; exact s2)
      rw [HV.out, s1] at hstep
      have hncu : ¬ cu = j := by have := hU.le; omega
      obtain ⟨qd, hqd⟩ : ∃ qd, Go.Proofs.Ytlkoenpdmlbhlaa.hi us j / V = qd := ⟨_, rfl⟩
      obtain ⟨rd, hrd⟩ : ∃ rd, Go.Proofs.Ytlkoenpdmlbhlaa.hi us j % V = rd := ⟨_, rfl⟩
      rw [hqd, hrd] at hstep
      rw [hqd] at s5 s6
      rw [hrd] at s4 s7
      have hlow2 : ∀ i, i < j → D (put us j (m + 2) rd) i = D us0 i := fun i hi => by rw [put_low (by rw [hU.len]; exact hjm) hi]; exact hlow i (by omega)
      have hh2 : Go.Proofs.Ytlkoenpdmlbhlaa.hi (put us j (m + 2) rd) j = Go.Proofs.Ytlkoenpdmlbhlaa.hi us0 j % V := by rw [put_hi (by rw [hU.len]; exact hjm) s7, s3, Nat.mul_zero, Nat.add_zero, s4]
      have hle1 := hU.le
      have hle2 := hU.cle
      have HST2 := Lib.hid hstep
      have HS5 := Lib.hid s5
      have HS6 := Lib.hid s6
      have HS7 := Lib.hid s7
      have HL2 := Lib.hid hlow2
      have HH2 := Lib.hid hh2
      clear s1 s2 s3 s4 s5 s6 s7 hstep hqd hrd hlow2 hh2 hsub hlow hh hq ej
      have ea1 : (j : Int) + ((m : Int) + 2) + 1 = ((j + (m + 2 + 1) : Nat) : Int) := by omega
      have ea2 : j + (m + 2 + 1) - j = m + 2 + 1 := by omega
      go_wp2_with fail
      with_reducible refine (HST2.out).mono ?_
      rintro e w' ⟨wk, rfl, hbk, rfl⟩
      have hne1 : wu.heap.size ≠ bu := by omega
      have hne2 : b5 ≠ bu := by omega
      have hU2 := put_own hU hbk hjm HS7.out
      have hQ2 := ((hQ.later hbk (Nat.le_refl _)).setOther (s := ou + j) hne1 (dv (List.replicate (m + 2 + 1) 0))).setOther (s := ou + j) hne1 (dv (digs rd))
      have hV2 := ((hV.later hbk (Nat.le_refl _)).setOther (s := ou + j) hne2 (dv (List.replicate (m + 2 + 1) 0))).setOther (s := ou + j) hne2 (dv (digs rd))
      have hB2 := ((below_later hBr hbk).trans (below_setCells w.heap.size bu (Nat.le_trans hb5w hbu5) (dv (List.replicate (m + 2 + 1) 0)) (ou + j) wk)).trans (below_setCells w.heap.size bu (Nat.le_trans hb5w hbu5) (dv (digs rd)) (ou + j) _)
      generalize ((wk.setCells bu (ou + j) (dv (List.replicate (m + 2 + 1) 0))).setCells bu (ou + j) (dv (digs rd))) = W at *
      clear hbk hU hQ hV hBr
      have hjq : j < nq := by omega
      rcases hQ2.cell with h' | ⟨b', o', he, hco⟩
      · omega
      cases he
      have hco' := hco j hjq
      clear hco
      rcases hQ2.own with h' | ⟨b', o', he, hBo, hfo⟩
      · omega
      cases he
      have hfo' := hfo j hjq
      clear hfo
      rw [Nat.zero_add] at hco' hfo'
      have hQ3 := hQ2.set (k := j) hjq HS6.out
      have hU3 := hU2.setDigitOther (s := 0 + j) (bu := wu.heap.size) (fun e => hne1 e.symm) (.int .u64 (qd : Int))
      have hV3 := hV2.setDigitOther (s := 0 + j) (bu := wu.heap.size) (by omega) (.int .u64 (qd : Int))
      have hB3 := hB2.setCell (p := ⟨wu.heap.size, 0 + j, none⟩) hbw5 (.int .u64 (qd : Int))
      rw [Nat.zero_add] at hQ3 hU3 hV3 hB3
      clear hU2 hQ2 hV2 hB2 ea1 ea2 hncu
      go_wp2
      go_roundw
      case rel => exact ⟨j, _, _, by omega, rfl, hU3, hQ3, hV3, HL2.out, HH2.out, HS5.out, hB3⟩
      case measure => simp [intOf] <;> omega
    · obtain rfl : k = 0 := by omega
      rw [hi_zero, hi_zero, HV0.out] at hh
      rw [hi_zero, hi_zero, HV0.out] at hq
      have hm := HMV.out
      have HH := Lib.hid hh
      have HQ := Lib.hid hq
      have HM := Lib.hid hm
      clear hh hq hm hlow hV
      go_wp2_with fail
      with_reducible refine (trim_any _ _ _ _ _ hU.toNatAt (by omega)).mono ?_
      rintro e w9 ⟨a9, n9, c9, rfl, h9, hb9⟩
      have hQ := hQ.later hb9 (Nat.le_refl _)
      have hn9 : n9 ≤ n1 + 1 := by have e1 := h9.len; have e2 := digs_length_val hU.dig; rw [hU.len] at e2; omega
      go_wp2_with fail
      with_reducible refine (shiftDown_any _ _ _ _ _ _ h9.toNatAt (by omega) (by omega) (by omega)).mono ?_
      rintro e w10 ⟨a10, n10, c10, rfl, h10, hb10⟩
      rw [val_digs, HH.out, ES.out, HM.out.2] at h10
      have hQ := hQ.later hb10 (Nat.le_refl _)
      go_wp2_with fail
      with_reducible refine (trim_any _ _ _ _ _ hQ.toNatAt (by have := HNQ.out; omega)).mono ?_
      rintro e w11 ⟨a11, n11, c11, rfl, h11, hb11⟩
      rw [HQ.out, HM.out.1] at h11
      go_wp2
      go_ret3
      exact ⟨_, _, _, _, _, _, rfl, h11.mono (Nat.le_trans hBr.size (Nat.le_trans hb9.size hb10.size)), (h10.later hb11 (Nat.le_refl _)).mono (Nat.le_trans hBr.size hb9.size), below_later (below_later (below_later hBr hb9) hb10) hb11⟩

theorem div_yes (a : Option Addr) (n c : Nat) (l : List Nat) (a2 : Option Addr) (n2 c2 : Nat) (l2 : List Nat) (w : World) (h : NatAt w a n c l) (h2 : NatAt w a2 n2 c2 l2) (hs : n ≤ 68719476736) (hs2 : n2 ≤ 68719476736) (hz : val l2 ≠ 0) :
    Calls Try.prog 95 #[.slice a n c, .slice a2 n2 c2] w (RetDiv w (val l / val l2) (val l % val l2)) := by
  by_cases hv : val l < val l2
  · rw [Nat.div_eq_of_lt hv, Nat.mod_eq_of_lt hv]
    exact div_less a n c l a2 n2 c2 l2 w h h2 hs hs2 hz hv
  · by_cases h1 : val l2 < 18446744073709551616
    · exact div_one a n c l a2 n2 c2 l2 w h h2 hs hs2 hz (by omega) h1
    · exact div_long a n c l a2 n2 c2 l2 w h h2 hs hs2 (by omega) (by omega)

end Go.Proofs.Ytlkoenpdmlbhlaa

/- quot, fourth part: Gcd, Divides. -/
set_option linter.unusedVariables false
set_option linter.unusedSimpArgs false
namespace Go.Proofs.Ytlkoenpdmlbhlaa
open Go.RowKit

/-- does a number divide another one? -/
def dvdB (x y : Nat) : Bool := decide (x ∣ y)
theorem dvdB_zero (y : Nat) : dvdB 0 y = decide (y = 0) := by unfold dvdB; rw [decide_eq_decide]; exact Nat.zero_dvd
theorem dvdB_pos {x y : Nat} : dvdB x y = decide (y % x = 0) := by unfold dvdB; rw [decide_eq_decide]; exact Nat.dvd_iff_mod_eq_zero

set_option maxRecDepth 100000 in
set_option maxHeartbeats 2000000 in
theorem gcd_any (a : Option Addr) (n c : Nat) (l : List Nat) (a2 : Option Addr) (n2 c2 : Nat) (l2 : List Nat) (w : World) (h : NatAt w a n c l) (h2 : NatAt w a2 n2 c2 l2) (hs : n ≤ 68719476736) (hs2 : n2 ≤ 68719476736) :
    Calls Try.prog 74 #[.slice a n c, .slice a2 n2 c2] w (RetNat w (Nat.gcd (val l) (val l2))) := by
  go_enter Try.func74, Try.ntmps74
  go_wp2_with fail
  with_reducible refine (trim_any _ _ _ l _ h (by omega)).mono ?_
  rintro e w1 ⟨a1, n1, c1, rfl, h3, hb1⟩
  have h2 := h2.later hb1 (Nat.le_refl _)
  go_wp2_with fail
  with_reducible refine (trim_any _ _ _ l2 _ h2 (by omega)).mono ?_
  rintro e w2 ⟨a4, n4, c4, rfl, h4, hb2⟩
  have b1 : n1 ≤ n := by have e1 := h3.len; have e2 := digs_length_val h.dig; rw [h.len] at e2; omega
  have b4 : n4 ≤ n2 := by have e1 := h4.len; have e2 := digs_length_val h2.dig; rw [h2.len] at e2; omega
  have h3 := h3.later hb2 (Nat.le_refl _)
  have hb := below_later hb1 hb2
  have h4 := h4.mono hb1.size
  clear hb1 hb2 h2 h
  go_wp2_with fail
  go_loopg [0, 1] (val l2) (fun k s0 s1 wr => ∃ (x : Nat) (a : Option Addr) (n c : Nat) (a2 : Option Addr) (n2 c2 : Nat), s0 = .slice a n c ∧ s1 = .slice a2 n2 c2 ∧ OwnAt wr w.heap.size a n c (digs x) ∧ OwnAt wr w.heap.size a2 n2 c2 (digs k) ∧ Nat.gcd x k = Nat.gcd (val l) (val l2) ∧ n ≤ 68719476736 ∧ n2 ≤ 68719476736 ∧ Below w.heap.size w wr)
  case atStart => exact ⟨val l, _, _, _, _, _, _, rfl, rfl, h3, h4, rfl, by omega, by omega, hb⟩
  case round =>
    clear h3 h4 hb b1 b4
    obtain ⟨x, a5, n5, c5, a6, n6, c6, rfl, rfl, h5, h6, hg, b5, b6, hb⟩ := hrel
    have hl6 := h6.len
    by_cases hk : gk = 0
    · subst hk
      rw [Nat.gcd_zero_right] at hg
      rw [hg] at h5
      obtain rfl : n6 = 0 := hl6.symm
      have h5 := h5
      clear hg h6 hl6
      go_wp2
      go_ret
      exact ⟨_, _, _, rfl, h5, hb⟩
    · have hn6 : 0 < n6 := by
        rcases Nat.eq_zero_or_pos n6 with h0 | h0
        · exact absurd (digs_len0.1 (hl6.trans h0)) hk
        · exact h0
      have HK := Lib.hid hk
      have HG := Lib.hid hg
      clear hl6 hk hg
      go_wp2_with fail
      with_reducible refine (div_yes _ _ _ (digs x) _ _ _ (digs gk) _ h5.toNatAt h6.toNatAt (by omega) (by omega) (by rw [val_digs]; exact HK.out)).mono ?_
      rintro e w7 ⟨a7, n7, c7, a8, n8, c8, rfl, h7, h8, hb8⟩
      rw [val_digs, val_digs] at h8
      have h9 := h6.later hb8 (Nat.le_refl _)
      have h8 := h8.mono hb.size
      have b8 : n8 ≤ 68719476736 := by
        have e1 := h8.len
        have e2 := digs_len_mono (Nat.le_of_lt (Nat.mod_lt x (Nat.pos_of_ne_zero HK.out)))
        have e3 := h6.len
        omega
      have hb9 := below_later hb hb8
      clear hb8 h7 h5 h6 hb b5
      have hg2 : Nat.gcd gk (x % gk) = Nat.gcd (val l) (val l2) := by rw [← HG.out, Nat.gcd_comm gk, ← Nat.gcd_rec, Nat.gcd_comm]
      have HG2 := Lib.hid hg2
      have hlt : x % gk < gk := Nat.mod_lt _ (Nat.pos_of_ne_zero HK.out)
      have HLT := Lib.hid hlt
      clear hg2 hlt
      go_wp2
      go_roundg (x % gk)
      case measure => exact HLT.out
      case rel => exact ⟨gk, _, _, _, _, _, _, rfl, rfl, h9, h8, HG2.out, b6, b8, hb9⟩

end Go.Proofs.Ytlkoenpdmlbhlaa
