/- chance, second part: the iterator of in. -/
import Derived.Test.YtlkoenpdmlbhlaaChance1
import Derived.Test.YtlkoenpdmlbhlaaReg7
import Derived.RangeFuncNested
import Derived.RangeFuncBound
import Derived.RangeFuncCalls
import Derived.RangeFuncLeaves
import Derived.Shelf.Abstract
import Derived.Shelf.RegionOpen
import Derived.WalkKit
import Derived.OwnWalkIn
import Derived.TacticsInMore
import Derived.LoopNIn
import Derived.LoopIn
set_option linter.unusedVariables false
set_option linter.unusedSimpArgs false
namespace Go.Proofs.Ytlkoenpdmlbhlaa
open Go.RowKit Go.Shelf
attribute [local go_sem] Oper.semAt_some

theorem meets_len {k u j d : Nat} (hk : k ≤ 1024) (hu : u ≤ k) (hj : j ≤ u) (hd : d ≤ k) : rlen (meetsR k u j d) ≤ k + 2 := by
  unfold meetsR
  have l1 := ch_len (n := u) (by omega) j
  have l3 := ch_len (n := k) (by omega) d
  have l2 : (digs (chz (k - u) ((d : Int) - (j : Int)))).length ≤ k - u + 1 := by
    unfold chz
    split
    · rename_i h
      have := ch_len (n := k - u) (by omega) ((d : Int) - (j : Int)).toNat
      omega
    · exact Nat.zero_le _
  have l4 := digs_len_prod (ch u j) (chz (k - u) ((d : Int) - (j : Int)))
  exact rlen_mkRat (Nat.pos_iff_ne_zero.1 (ch_pos hd)) (by rw [Int.natAbs_natCast]; omega) (by omega)
def inE (g : Nat → Int) (T k u j i : Nat) : Rat := mkRat (g i) T * meetsR k u j (i + 1)

set_option maxRecDepth 100000 in
set_option maxHeartbeats 16000000 in
theorem in1_in (f : Nat) (hf : 1 ≤ f) (lp bT bS bK bU bJ : Nat) (a : Option Addr) (n c : Nat) (zs : List Int) (T k u j : Nat) (w0 : World) (g : IntsAt w0 a n c zs) (hok : okT zs (k : Int)) (hT0 : 0 < T) (hT1 : T < 9223372036854775808) (hk : k ≤ 1024) (hu : u ≤ k) (hj : j ≤ u)
    (lT : bT < w0.heap.size) (lS : bS < w0.heap.size) (lK : bK < w0.heap.size) (lU : bU < w0.heap.size) (lJ : bJ < w0.heap.size)
    (qT0 : w0.cell? ⟨bT, 0, none⟩ = some (.slice a n c)) (qS0 : w0.cell? ⟨bS, 0, none⟩ = some (.int .i64 (T : Int))) (qK0 : w0.cell? ⟨bK, 0, none⟩ = some (.int .i64 (k : Int))) (qU0 : w0.cell? ⟨bU, 0, none⟩ = some (.int .i64 (u : Int))) (qJ0 : w0.cell? ⟨bJ, 0, none⟩ = some (.int .i64 (j : Int)))
    (J : Nat → World → Prop)
    (hY : ∀ i (a1 : Option Addr) (n1 c1 : Nat) (a2 : Option Addr) (n2 c2 : Nat) W, i < n → J i W → Below w0.heap.size w0 W → NatAt W a1 n1 c1 (digs (inE (fun i => zs.getD i 0) T k u j i).num.natAbs) → NatAt W a2 n2 c2 (digs (inE (fun i => zs.getD i 0) T k u j i).den) →
      YieldAt Fence.wide (f - 1) Try.prog lp #[.agg #[.bool (neg (inE (fun i => zs.getD i 0) T k u j i).num), .slice a1 n1 c1, .slice a2 n2 c2]] W fun e W' => e = .returned (.bool true) ∧ J (i + 1) W' ∧ Below w0.heap.size W W')
    (hJ : ∀ i W W', J i W → Below W.heap.size W W' → J i W')
    (W : World) (hb0 : Below w0.heap.size w0 W) (h0 : J 0 W) :
    CallsIn Fence.wide f Try.prog 87 #[.func (.yield lp) #[] #[], .pointer (some ⟨bT, 0, none⟩), .pointer (some ⟨bS, 0, none⟩), .pointer (some ⟨bK, 0, none⟩), .pointer (some ⟨bU, 0, none⟩), .pointer (some ⟨bJ, 0, none⟩)] W fun e W' => (∃ v, e = .returned v) ∧ J n W' ∧ Below w0.heap.size w0 W' := by
  have hcl : c ≤ 9223372036854775807 := by have h1 := g.cle; simp only [maxLen] at h1; omega
  have hle := g.le
  have hlen := g.len
  have hnk : n ≤ k := by have := hok.2.2.2.1; omega
  have hin := okT_in hok
  rw [hlen] at hin
  have HIN := Lib.hid hin
  have HY := Lib.hid hY
  have HJ := Lib.hid hJ
  have qt := (hb0.cell (p := ⟨bT, 0, none⟩) lT).trans qT0
  clear hin hY hJ hok
  refine callsIn_of_wp Try.func87 rfl trivial ?_ rfl
  simp only [Try.ntmps87, List.size_toArray, List.length_cons, List.length_nil, Nat.reduceAdd, Nat.reduceSub, Array.replicate_succ, Array.replicate_zero, List.push_toArray, List.append_toArray, List.nil_append, List.cons_append]
  gi_wp2
  clear qt
  gi_loopw [7, 8, 13] (fun x y i wr => ∃ m : Nat, m ≤ n ∧ i = .int .i64 (m : Int) ∧ J m wr ∧ Below w0.heap.size w0 wr) (fun x y i _ => n - (intOf i).toNat)
  case atStart => exact ⟨0, Nat.zero_le _, rfl, h0, hb0⟩
  case round =>
    obtain ⟨m, hm, rfl, hJm, hB⟩ := hrel
    by_cases hlt : m < n
    · have hz := HIN.out m hlt
      have hcel := (g.past hB).cell
      obtain ⟨z, hzz⟩ : ∃ z, zs.getD m 0 = z := ⟨_, rfl⟩
      obtain ⟨D, hD⟩ : ∃ D, m + 1 = D := ⟨_, rfl⟩
      have hq : ∃ b o, a = some ⟨b, o, none⟩ ∧ wr.cell? ⟨b, o + m, none⟩ = some (.int .i64 z) := by
        rcases hcel with h | ⟨b, o, h1, h2, h3⟩
        · omega
        · exact ⟨b, o, h1, by rw [← hzz]; exact h3 m hlt⟩
      obtain ⟨b, o, rfl, hq⟩ := hq
      have hY1 := fun x1 x2 x3 x4 x5 x6 W => HY.out m x1 x2 x3 x4 x5 x6 W hlt
      have hE : inE (fun i => zs.getD i 0) T k u j m = mkRat z T * meetsR k u j D := by
        show mkRat (zs.getD m 0) T * meetsR k u j (m + 1) = _
        rw [hzz, hD]
      rw [hzz] at hz
      have hpr := fun w => cpair_any z T w (by omega) hT0 (by omega)
      have hmt := fun w => meets_any k u j D w hk hu hj (by omega)
      have lp0 : rlen (mkRat z T) ≤ 1 := rlen_mkRat (by omega) (digs_length_le.2 (by simp; omega)) (digs_length_le.2 (by simp; omega))
      have lm0 : rlen (meetsR k u j D) ≤ k + 2 := meets_len hk hu hj (by omega)
      obtain ⟨P, hP⟩ : ∃ P, mkRat z T = P := ⟨_, rfl⟩
      obtain ⟨M, hM⟩ : ∃ M, meetsR k u j D = M := ⟨_, rfl⟩
      rw [hP, hM] at hE
      rw [hP] at lp0
      rw [hM] at lm0
      simp only [hP] at hpr
      simp only [hM] at hmt
      rw [hE] at hY1
      obtain ⟨X, hX⟩ : ∃ X, P * M = X := ⟨_, rfl⟩
      rw [hX] at hY1
      have HY1 := Lib.hid hY1
      have HPR := Lib.hid hpr
      have HMT := Lib.hid hmt
      have HX := Lib.hid hX
      have LP := Lib.hid (show rlen P ≤ 1048576 by omega)
      have LM := Lib.hid (show rlen M ≤ 1048576 by omega)
      have HTD := Lib.hid (show IntKind.i64.wrap ((m : Int) + 1) = (D : Int) by rw [IntKind.wrap_i64]; omega)
      have lS := Nat.lt_of_lt_of_le lS hB.size
      have lK := Nat.lt_of_lt_of_le lK hB.size
      have lU := Nat.lt_of_lt_of_le lU hB.size
      have lJ := Nat.lt_of_lt_of_le lJ hB.size
      have qS0 := (hB.cell (p := ⟨bS, 0, none⟩) (by assumption)).trans qS0
      have qK0 := (hB.cell (p := ⟨bK, 0, none⟩) (by assumption)).trans qK0
      have qU0 := (hB.cell (p := ⟨bU, 0, none⟩) (by assumption)).trans qU0
      have qJ0 := (hB.cell (p := ⟨bJ, 0, none⟩) (by assumption)).trans qJ0
      have hR0 := Below.refl wr.heap.size wr
      clear hcel hz hzz hD hY1 hE hpr hmt lp0 lm0 hP hM hX
      gi_wp2_with fail
      refine wpIn_wide.2 ?_
      refine wp_region_invA (by kernel_rfl) rfl (by kernel_rfl) (fun A0 V0 dd aa ww => ∃ (blk : Nat → Nat) (y19 y20 y21 y22 y23 y24 y25 y26 y27 y28 y29 y18 y30 y31 y9 y10 : Value), aa = puts A0 [(19, y19), (20, y20), (21, y21), (22, y22), (23, y23), (24, y24), (25, y25), (26, y26), (27, y27), (28, y28), (29, y29), (18, y18), (30, y30), (31, y31), (9, y9), (10, y10)] ∧ Below V0.heap.size V0 ww ∧ Boxes [(14, 3)] V0.heap.size dd blk ww ∧ Shut (dd 0 = true → y19 = .int .i64 z) ∧ Shut (dd 1 = true → y20 = .int .i64 (T : Int)) ∧ Shut (dd 2 = true → RatV V0.heap.size (P) y21 ww) ∧ Shut (dd 3 = true → y22 = .int .i64 (k : Int)) ∧ Shut (dd 4 = true → y23 = .int .i64 (u : Int)) ∧ Shut (dd 5 = true → y24 = .int .i64 (j : Int)) ∧ Shut (dd 6 = true → y25 = .int .i64 (m : Int)) ∧ Shut (dd 7 = true → y26 = .int .i64 (D : Int)) ∧ Shut (dd 8 = true → RatV V0.heap.size (M) y27 ww) ∧ Shut (dd 9 = true → dd 10 = false → LstV V0.heap.size 2 ([y21, y27].flatMap cellsOf) y28 ww) ∧ Shut (dd 10 = true → OkV V0.heap.size (X) y29 ww) ∧ Shut (dd 11 = true → y18 = y29) ∧ Shut (dd 12 = true → y30 = part 0 y18) ∧ Shut (dd 13 = true → y31 = part 1 y18) ∧ Shut (dd 14 = true → y9 = .pointer (some ⟨blk 14, 0, none⟩)) ∧ Shut (dd 15 = true → HoldsV dd 14 12 (blk 14) y30 ww) ∧ Shut (dd 16 = true → y10 = y31) ∧ True) ?_ ?_ ?_
      · exact ⟨fun _ => 0, _, _, _, _, _, _, _, _, _, _, _, _, _, _, _, _, puts_self _ [19, 20, 21, 22, 23, 24, 25, 26, 27, 28, 29, 18, 30, 31, 9, 10], (Below.refl _ _).drew, Boxes.none _ _ _ _, fun h => (by cases h), fun h => (by cases h), fun h => (by cases h), fun h => (by cases h), fun h => (by cases h), fun h => (by cases h), fun h => (by cases h), fun h => (by cases h), fun h => (by cases h), fun h => (by cases h), fun h => (by cases h), fun h => (by cases h), fun h => (by cases h), fun h => (by cases h), fun h => (by cases h), fun h => (by cases h), fun h => (by cases h), trivial⟩
      · refine Steps.cons ?_ (Steps.cons ?_ (Steps.cons ?_ (Steps.cons ?_ (Steps.cons ?_ (Steps.cons ?_ (Steps.cons ?_ (Steps.cons ?_ (Steps.cons ?_ (Steps.cons ?_ (Steps.cons ?_ (Steps.cons ?_ (Steps.cons ?_ (Steps.cons ?_ (Steps.cons ?_ (Steps.cons ?_ (Steps.cons ?_ (Steps.nil)))))))))))))))))
        · intro dd aa ww K hc hun hn hI hK
          obtain ⟨blk, y19, y20, y21, y22, y23, y24, y25, y26, y27, y28, y29, y18, y30, y31, y9, y10, ea, hb, hX, f0, f1, f2, f3, f4, f5, f6, f7, f8, f9, f10, f11, f12, f13, f14, f15, f16, _⟩ := hI
          try simp [Region.binds] at hn
          subst ea
          simp only [puts, Act.put, List.setIfInBounds_toArray, List.set_cons_zero, List.set_cons_succ]
          go_simp
          refine hK.out _ _ ?_
          exact ⟨blk, .int .i64 z, y20, y21, y22, y23, y24, y25, y26, y27, y28, y29, y18, y30, y31, y9, y10, by simp only [puts, Act.put, List.setIfInBounds_toArray, List.set_cons_zero, List.set_cons_succ], hb, hX.same 0 rfl, fun _ => rfl, fun h => (f1.out (upd_of rfl h)), fun h => (f2.out (upd_of rfl h)), fun h => (f3.out (upd_of rfl h)), fun h => (f4.out (upd_of rfl h)), fun h => (f5.out (upd_of rfl h)), fun h => (f6.out (upd_of rfl h)), fun h => (f7.out (upd_of rfl h)), fun h => (f8.out (upd_of rfl h)), fun h h2 => ((f9.out (upd_of rfl h)) (upd_off h2)), fun h => (f10.out (upd_of rfl h)), fun h => (f11.out (upd_of rfl h)), fun h => (f12.out (upd_of rfl h)), fun h => (f13.out (upd_of rfl h)), fun h => (f14.out (upd_of rfl h)), fun h => (f15.out (upd_of rfl h)).same 0, fun h => (f16.out (upd_of rfl h)), trivial⟩
        · intro dd aa ww K hc hun hn hI hK
          obtain ⟨blk, y19, y20, y21, y22, y23, y24, y25, y26, y27, y28, y29, y18, y30, y31, y9, y10, ea, hb, hX, f0, f1, f2, f3, f4, f5, f6, f7, f8, f9, f10, f11, f12, f13, f14, f15, f16, _⟩ := hI
          try simp [Region.binds] at hn
          have e0 := (hb.cell (p := ⟨bS, 0, none⟩) lS).trans qS0
          subst ea
          simp only [puts, Act.put, List.setIfInBounds_toArray, List.set_cons_zero, List.set_cons_succ]
          go_simp
          refine hK.out _ _ ?_
          exact ⟨blk, y19, .int .i64 (T : Int), y21, y22, y23, y24, y25, y26, y27, y28, y29, y18, y30, y31, y9, y10, by simp only [puts, Act.put, List.setIfInBounds_toArray, List.set_cons_zero, List.set_cons_succ], hb, hX.same 1 rfl, fun h => (f0.out (upd_of rfl h)), fun _ => rfl, fun h => (f2.out (upd_of rfl h)), fun h => (f3.out (upd_of rfl h)), fun h => (f4.out (upd_of rfl h)), fun h => (f5.out (upd_of rfl h)), fun h => (f6.out (upd_of rfl h)), fun h => (f7.out (upd_of rfl h)), fun h => (f8.out (upd_of rfl h)), fun h h2 => ((f9.out (upd_of rfl h)) (upd_off h2)), fun h => (f10.out (upd_of rfl h)), fun h => (f11.out (upd_of rfl h)), fun h => (f12.out (upd_of rfl h)), fun h => (f13.out (upd_of rfl h)), fun h => (f14.out (upd_of rfl h)), fun h => (f15.out (upd_of rfl h)).same 1, fun h => (f16.out (upd_of rfl h)), trivial⟩
        · intro dd aa ww K hc hun hn hI hK
          obtain ⟨blk, y19, y20, y21, y22, y23, y24, y25, y26, y27, y28, y29, y18, y30, y31, y9, y10, ea, hb, hX, f0, f1, f2, f3, f4, f5, f6, f7, f8, f9, f10, f11, f12, f13, f14, f15, f16, _⟩ := hI
          try simp [Region.binds] at hn
          have ex := f0.out (by first | (simp [hn]; done) | exact hc.reach (f := 8) (by decide +kernel) hn | exact hc.reach (f := 8) (by decide +kernel) hn.1 | exact hc.reach (f := 8) (by decide +kernel) hn.2 | exact hc.reach (f := 8) (by decide +kernel) hn.2.1 | exact hc.reach (f := 8) (by decide +kernel) hn.2.2 | exact hc.reach (f := 8) (by decide +kernel) hn.2.2.1 | exact hc.reach (f := 8) (by decide +kernel) hn.2.2.2)
          subst ex
          have ex := f1.out (by first | (simp [hn]; done) | exact hc.reach (f := 8) (by decide +kernel) hn | exact hc.reach (f := 8) (by decide +kernel) hn.1 | exact hc.reach (f := 8) (by decide +kernel) hn.2 | exact hc.reach (f := 8) (by decide +kernel) hn.2.1 | exact hc.reach (f := 8) (by decide +kernel) hn.2.2 | exact hc.reach (f := 8) (by decide +kernel) hn.2.2.1 | exact hc.reach (f := 8) (by decide +kernel) hn.2.2.2)
          subst ex
          subst ea
          simp only [puts, Act.put, List.setIfInBounds_toArray, List.set_cons_zero, List.set_cons_succ]
          go_simp
          with_reducible refine (HPR.out _).mono ?_
          rintro e w1 ⟨ahPU, nhPU, chPU, ahPD, nhPD, chPD, rfl, hPU, hPD, h1⟩
          refine hK.out _ _ ?_
          exact ⟨blk, .int .i64 z, .int .i64 (T : Int), .agg #[.bool (neg (P).num), .slice ahPU nhPU chPU, .slice ahPD nhPD chPD], y22, y23, y24, y25, y26, y27, y28, y29, y18, y30, y31, y9, y10, by simp only [puts, Act.put, List.setIfInBounds_toArray, List.set_cons_zero, List.set_cons_succ], below_later hb h1, hX.past h1 2 rfl, fun h => rfl, fun h => rfl, fun _ => ⟨_, _, _, _, _, _, rfl, hPU.mono hb.size, hPD.mono hb.size⟩, fun h => (f3.out (upd_of rfl h)), fun h => (f4.out (upd_of rfl h)), fun h => (f5.out (upd_of rfl h)), fun h => (f6.out (upd_of rfl h)), fun h => (f7.out (upd_of rfl h)), fun h => (f8.out (upd_of rfl h)).past h1, fun h => absurd (hc.reach (f := 8) (s := 9) (l := 2) (by kernel_rfl) (upd_of rfl h)) (by rw [hun]; decide), fun h => (f10.out (upd_of rfl h)).past h1, fun h => (f11.out (upd_of rfl h)), fun h => (f12.out (upd_of rfl h)), fun h => (f13.out (upd_of rfl h)), fun h => (f14.out (upd_of rfl h)), fun h => (f15.out (upd_of rfl h)).past h1 2, fun h => (f16.out (upd_of rfl h)), trivial⟩
        · intro dd aa ww K hc hun hn hI hK
          obtain ⟨blk, y19, y20, y21, y22, y23, y24, y25, y26, y27, y28, y29, y18, y30, y31, y9, y10, ea, hb, hX, f0, f1, f2, f3, f4, f5, f6, f7, f8, f9, f10, f11, f12, f13, f14, f15, f16, _⟩ := hI
          try simp [Region.binds] at hn
          have e0 := (hb.cell (p := ⟨bK, 0, none⟩) lK).trans qK0
          subst ea
          simp only [puts, Act.put, List.setIfInBounds_toArray, List.set_cons_zero, List.set_cons_succ]
          go_simp
          refine hK.out _ _ ?_
          exact ⟨blk, y19, y20, y21, .int .i64 (k : Int), y23, y24, y25, y26, y27, y28, y29, y18, y30, y31, y9, y10, by simp only [puts, Act.put, List.setIfInBounds_toArray, List.set_cons_zero, List.set_cons_succ], hb, hX.same 3 rfl, fun h => (f0.out (upd_of rfl h)), fun h => (f1.out (upd_of rfl h)), fun h => (f2.out (upd_of rfl h)), fun _ => rfl, fun h => (f4.out (upd_of rfl h)), fun h => (f5.out (upd_of rfl h)), fun h => (f6.out (upd_of rfl h)), fun h => (f7.out (upd_of rfl h)), fun h => (f8.out (upd_of rfl h)), fun h h2 => ((f9.out (upd_of rfl h)) (upd_off h2)), fun h => (f10.out (upd_of rfl h)), fun h => (f11.out (upd_of rfl h)), fun h => (f12.out (upd_of rfl h)), fun h => (f13.out (upd_of rfl h)), fun h => (f14.out (upd_of rfl h)), fun h => (f15.out (upd_of rfl h)).same 3, fun h => (f16.out (upd_of rfl h)), trivial⟩
        · intro dd aa ww K hc hun hn hI hK
          obtain ⟨blk, y19, y20, y21, y22, y23, y24, y25, y26, y27, y28, y29, y18, y30, y31, y9, y10, ea, hb, hX, f0, f1, f2, f3, f4, f5, f6, f7, f8, f9, f10, f11, f12, f13, f14, f15, f16, _⟩ := hI
          try simp [Region.binds] at hn
          have e0 := (hb.cell (p := ⟨bU, 0, none⟩) lU).trans qU0
          subst ea
          simp only [puts, Act.put, List.setIfInBounds_toArray, List.set_cons_zero, List.set_cons_succ]
          go_simp
          refine hK.out _ _ ?_
          exact ⟨blk, y19, y20, y21, y22, .int .i64 (u : Int), y24, y25, y26, y27, y28, y29, y18, y30, y31, y9, y10, by simp only [puts, Act.put, List.setIfInBounds_toArray, List.set_cons_zero, List.set_cons_succ], hb, hX.same 4 rfl, fun h => (f0.out (upd_of rfl h)), fun h => (f1.out (upd_of rfl h)), fun h => (f2.out (upd_of rfl h)), fun h => (f3.out (upd_of rfl h)), fun _ => rfl, fun h => (f5.out (upd_of rfl h)), fun h => (f6.out (upd_of rfl h)), fun h => (f7.out (upd_of rfl h)), fun h => (f8.out (upd_of rfl h)), fun h h2 => ((f9.out (upd_of rfl h)) (upd_off h2)), fun h => (f10.out (upd_of rfl h)), fun h => (f11.out (upd_of rfl h)), fun h => (f12.out (upd_of rfl h)), fun h => (f13.out (upd_of rfl h)), fun h => (f14.out (upd_of rfl h)), fun h => (f15.out (upd_of rfl h)).same 4, fun h => (f16.out (upd_of rfl h)), trivial⟩
        · intro dd aa ww K hc hun hn hI hK
          obtain ⟨blk, y19, y20, y21, y22, y23, y24, y25, y26, y27, y28, y29, y18, y30, y31, y9, y10, ea, hb, hX, f0, f1, f2, f3, f4, f5, f6, f7, f8, f9, f10, f11, f12, f13, f14, f15, f16, _⟩ := hI
          try simp [Region.binds] at hn
          have e0 := (hb.cell (p := ⟨bJ, 0, none⟩) lJ).trans qJ0
          subst ea
          simp only [puts, Act.put, List.setIfInBounds_toArray, List.set_cons_zero, List.set_cons_succ]
          go_simp
          refine hK.out _ _ ?_
          exact ⟨blk, y19, y20, y21, y22, y23, .int .i64 (j : Int), y25, y26, y27, y28, y29, y18, y30, y31, y9, y10, by simp only [puts, Act.put, List.setIfInBounds_toArray, List.set_cons_zero, List.set_cons_succ], hb, hX.same 5 rfl, fun h => (f0.out (upd_of rfl h)), fun h => (f1.out (upd_of rfl h)), fun h => (f2.out (upd_of rfl h)), fun h => (f3.out (upd_of rfl h)), fun h => (f4.out (upd_of rfl h)), fun _ => rfl, fun h => (f6.out (upd_of rfl h)), fun h => (f7.out (upd_of rfl h)), fun h => (f8.out (upd_of rfl h)), fun h h2 => ((f9.out (upd_of rfl h)) (upd_off h2)), fun h => (f10.out (upd_of rfl h)), fun h => (f11.out (upd_of rfl h)), fun h => (f12.out (upd_of rfl h)), fun h => (f13.out (upd_of rfl h)), fun h => (f14.out (upd_of rfl h)), fun h => (f15.out (upd_of rfl h)).same 5, fun h => (f16.out (upd_of rfl h)), trivial⟩
        · intro dd aa ww K hc hun hn hI hK
          obtain ⟨blk, y19, y20, y21, y22, y23, y24, y25, y26, y27, y28, y29, y18, y30, y31, y9, y10, ea, hb, hX, f0, f1, f2, f3, f4, f5, f6, f7, f8, f9, f10, f11, f12, f13, f14, f15, f16, _⟩ := hI
          try simp [Region.binds] at hn
          subst ea
          simp only [puts, Act.put, List.setIfInBounds_toArray, List.set_cons_zero, List.set_cons_succ]
          go_simp
          refine hK.out _ _ ?_
          exact ⟨blk, y19, y20, y21, y22, y23, y24, .int .i64 (m : Int), y26, y27, y28, y29, y18, y30, y31, y9, y10, by simp only [puts, Act.put, List.setIfInBounds_toArray, List.set_cons_zero, List.set_cons_succ], hb, hX.same 6 rfl, fun h => (f0.out (upd_of rfl h)), fun h => (f1.out (upd_of rfl h)), fun h => (f2.out (upd_of rfl h)), fun h => (f3.out (upd_of rfl h)), fun h => (f4.out (upd_of rfl h)), fun h => (f5.out (upd_of rfl h)), fun _ => rfl, fun h => (f7.out (upd_of rfl h)), fun h => (f8.out (upd_of rfl h)), fun h h2 => ((f9.out (upd_of rfl h)) (upd_off h2)), fun h => (f10.out (upd_of rfl h)), fun h => (f11.out (upd_of rfl h)), fun h => (f12.out (upd_of rfl h)), fun h => (f13.out (upd_of rfl h)), fun h => (f14.out (upd_of rfl h)), fun h => (f15.out (upd_of rfl h)).same 6, fun h => (f16.out (upd_of rfl h)), trivial⟩
        · intro dd aa ww K hc hun hn hI hK
          obtain ⟨blk, y19, y20, y21, y22, y23, y24, y25, y26, y27, y28, y29, y18, y30, y31, y9, y10, ea, hb, hX, f0, f1, f2, f3, f4, f5, f6, f7, f8, f9, f10, f11, f12, f13, f14, f15, f16, _⟩ := hI
          try simp [Region.binds] at hn
          have ex := f6.out (by first | (simp [hn]; done) | exact hc.reach (f := 8) (by decide +kernel) hn | exact hc.reach (f := 8) (by decide +kernel) hn.1 | exact hc.reach (f := 8) (by decide +kernel) hn.2 | exact hc.reach (f := 8) (by decide +kernel) hn.2.1 | exact hc.reach (f := 8) (by decide +kernel) hn.2.2 | exact hc.reach (f := 8) (by decide +kernel) hn.2.2.1 | exact hc.reach (f := 8) (by decide +kernel) hn.2.2.2)
          subst ex
          subst ea
          simp only [puts, Act.put, List.setIfInBounds_toArray, List.set_cons_zero, List.set_cons_succ]
          go_simp
          rw [HTD.out]
          refine hK.out _ _ ?_
          exact ⟨blk, y19, y20, y21, y22, y23, y24, .int .i64 (m : Int), .int .i64 (D : Int), y27, y28, y29, y18, y30, y31, y9, y10, by simp only [puts, Act.put, List.setIfInBounds_toArray, List.set_cons_zero, List.set_cons_succ], hb, hX.same 7 rfl, fun h => (f0.out (upd_of rfl h)), fun h => (f1.out (upd_of rfl h)), fun h => (f2.out (upd_of rfl h)), fun h => (f3.out (upd_of rfl h)), fun h => (f4.out (upd_of rfl h)), fun h => (f5.out (upd_of rfl h)), fun h => rfl, fun _ => rfl, fun h => (f8.out (upd_of rfl h)), fun h h2 => ((f9.out (upd_of rfl h)) (upd_off h2)), fun h => (f10.out (upd_of rfl h)), fun h => (f11.out (upd_of rfl h)), fun h => (f12.out (upd_of rfl h)), fun h => (f13.out (upd_of rfl h)), fun h => (f14.out (upd_of rfl h)), fun h => (f15.out (upd_of rfl h)).same 7, fun h => (f16.out (upd_of rfl h)), trivial⟩
        · intro dd aa ww K hc hun hn hI hK
          obtain ⟨blk, y19, y20, y21, y22, y23, y24, y25, y26, y27, y28, y29, y18, y30, y31, y9, y10, ea, hb, hX, f0, f1, f2, f3, f4, f5, f6, f7, f8, f9, f10, f11, f12, f13, f14, f15, f16, _⟩ := hI
          try simp [Region.binds] at hn
          have ex := f3.out (by first | (simp [hn]; done) | exact hc.reach (f := 8) (by decide +kernel) hn | exact hc.reach (f := 8) (by decide +kernel) hn.1 | exact hc.reach (f := 8) (by decide +kernel) hn.2 | exact hc.reach (f := 8) (by decide +kernel) hn.2.1 | exact hc.reach (f := 8) (by decide +kernel) hn.2.2 | exact hc.reach (f := 8) (by decide +kernel) hn.2.2.1 | exact hc.reach (f := 8) (by decide +kernel) hn.2.2.2)
          subst ex
          have ex := f4.out (by first | (simp [hn]; done) | exact hc.reach (f := 8) (by decide +kernel) hn | exact hc.reach (f := 8) (by decide +kernel) hn.1 | exact hc.reach (f := 8) (by decide +kernel) hn.2 | exact hc.reach (f := 8) (by decide +kernel) hn.2.1 | exact hc.reach (f := 8) (by decide +kernel) hn.2.2 | exact hc.reach (f := 8) (by decide +kernel) hn.2.2.1 | exact hc.reach (f := 8) (by decide +kernel) hn.2.2.2)
          subst ex
          have ex := f5.out (by first | (simp [hn]; done) | exact hc.reach (f := 8) (by decide +kernel) hn | exact hc.reach (f := 8) (by decide +kernel) hn.1 | exact hc.reach (f := 8) (by decide +kernel) hn.2 | exact hc.reach (f := 8) (by decide +kernel) hn.2.1 | exact hc.reach (f := 8) (by decide +kernel) hn.2.2 | exact hc.reach (f := 8) (by decide +kernel) hn.2.2.1 | exact hc.reach (f := 8) (by decide +kernel) hn.2.2.2)
          subst ex
          have ex := f7.out (by first | (simp [hn]; done) | exact hc.reach (f := 8) (by decide +kernel) hn | exact hc.reach (f := 8) (by decide +kernel) hn.1 | exact hc.reach (f := 8) (by decide +kernel) hn.2 | exact hc.reach (f := 8) (by decide +kernel) hn.2.1 | exact hc.reach (f := 8) (by decide +kernel) hn.2.2 | exact hc.reach (f := 8) (by decide +kernel) hn.2.2.1 | exact hc.reach (f := 8) (by decide +kernel) hn.2.2.2)
          subst ex
          subst ea
          simp only [puts, Act.put, List.setIfInBounds_toArray, List.set_cons_zero, List.set_cons_succ]
          go_simp
          with_reducible refine (HMT.out _).mono ?_
          rintro e w1 ⟨ahMU, nhMU, chMU, ahMD, nhMD, chMD, rfl, hMU, hMD, h1⟩
          refine hK.out _ _ ?_
          exact ⟨blk, y19, y20, y21, .int .i64 (k : Int), .int .i64 (u : Int), .int .i64 (j : Int), y25, .int .i64 (D : Int), .agg #[.bool (neg (M).num), .slice ahMU nhMU chMU, .slice ahMD nhMD chMD], y28, y29, y18, y30, y31, y9, y10, by simp only [puts, Act.put, List.setIfInBounds_toArray, List.set_cons_zero, List.set_cons_succ], below_later hb h1, hX.past h1 8 rfl, fun h => (f0.out (upd_of rfl h)), fun h => (f1.out (upd_of rfl h)), fun h => (f2.out (upd_of rfl h)).past h1, fun h => rfl, fun h => rfl, fun h => rfl, fun h => (f6.out (upd_of rfl h)), fun h => rfl, fun _ => ⟨_, _, _, _, _, _, rfl, hMU.mono hb.size, hMD.mono hb.size⟩, fun h => absurd (hc.reach (f := 8) (s := 9) (l := 8) (by kernel_rfl) (upd_of rfl h)) (by rw [hun]; decide), fun h => (f10.out (upd_of rfl h)).past h1, fun h => (f11.out (upd_of rfl h)), fun h => (f12.out (upd_of rfl h)), fun h => (f13.out (upd_of rfl h)), fun h => (f14.out (upd_of rfl h)), fun h => (f15.out (upd_of rfl h)).past h1 8, fun h => (f16.out (upd_of rfl h)), trivial⟩
        · intro dd aa ww K hc hun hn hI hK
          obtain ⟨blk, y19, y20, y21, y22, y23, y24, y25, y26, y27, y28, y29, y18, y30, y31, y9, y10, ea, hb, hX, f0, f1, f2, f3, f4, f5, f6, f7, f8, f9, f10, f11, f12, f13, f14, f15, f16, _⟩ := hI
          try simp [Region.binds] at hn
          obtain ⟨ahPU, nhPU, chPU, ahPD, nhPD, chPD, ex, hPU, hPD⟩ := f2.out (by first | (simp [hn]; done) | exact hc.reach (f := 8) (by decide +kernel) hn | exact hc.reach (f := 8) (by decide +kernel) hn.1 | exact hc.reach (f := 8) (by decide +kernel) hn.2 | exact hc.reach (f := 8) (by decide +kernel) hn.2.1 | exact hc.reach (f := 8) (by decide +kernel) hn.2.2 | exact hc.reach (f := 8) (by decide +kernel) hn.2.2.1 | exact hc.reach (f := 8) (by decide +kernel) hn.2.2.2)
          subst ex
          obtain ⟨ahMU, nhMU, chMU, ahMD, nhMD, chMD, ex, hMU, hMD⟩ := f8.out (by first | (simp [hn]; done) | exact hc.reach (f := 8) (by decide +kernel) hn | exact hc.reach (f := 8) (by decide +kernel) hn.1 | exact hc.reach (f := 8) (by decide +kernel) hn.2 | exact hc.reach (f := 8) (by decide +kernel) hn.2.1 | exact hc.reach (f := 8) (by decide +kernel) hn.2.2 | exact hc.reach (f := 8) (by decide +kernel) hn.2.2.1 | exact hc.reach (f := 8) (by decide +kernel) hn.2.2.2)
          subst ex
          subst ea
          simp only [puts, Act.put, List.setIfInBounds_toArray, List.set_cons_zero, List.set_cons_succ]
          go_simp
          refine hK.out _ _ ?_
          exact ⟨blk, y19, y20, .agg #[.bool (neg (P).num), .slice ahPU nhPU chPU, .slice ahPD nhPD chPD], y22, y23, y24, y25, y26, .agg #[.bool (neg (M).num), .slice ahMU nhMU chMU, .slice ahMD nhMD chMD], .slice (some ⟨ww.heap.size, 0, none⟩) 2 2, y29, y18, y30, y31, y9, y10, by simp only [puts, Act.put, List.setIfInBounds_toArray, List.set_cons_zero, List.set_cons_succ], below_alloc hb _, hX.past ((Below.refl _ _).alloc (Nat.le_refl _) _) 9 rfl, fun h => (f0.out (upd_of rfl h)), fun h => (f1.out (upd_of rfl h)), fun h => (f2.out (upd_of rfl h)).past ((Below.refl _ _).alloc (Nat.le_refl _) _), fun h => (f3.out (upd_of rfl h)), fun h => (f4.out (upd_of rfl h)), fun h => (f5.out (upd_of rfl h)), fun h => (f6.out (upd_of rfl h)), fun h => (f7.out (upd_of rfl h)), fun h => (f8.out (upd_of rfl h)).past ((Below.refl _ _).alloc (Nat.le_refl _) _), fun _ _ => LstV.new hb.size _ _, fun h => (f10.out (upd_of rfl h)).past ((Below.refl _ _).alloc (Nat.le_refl _) _), fun h => (f11.out (upd_of rfl h)), fun h => (f12.out (upd_of rfl h)), fun h => (f13.out (upd_of rfl h)), fun h => (f14.out (upd_of rfl h)), fun h => (f15.out (upd_of rfl h)).past ((Below.refl _ _).alloc (Nat.le_refl _) _) 9, fun h => (f16.out (upd_of rfl h)), trivial⟩
        · intro dd aa ww K hc hun hn hI hK
          obtain ⟨blk, y19, y20, y21, y22, y23, y24, y25, y26, y27, y28, y29, y18, y30, y31, y9, y10, ea, hb, hX, f0, f1, f2, f3, f4, f5, f6, f7, f8, f9, f10, f11, f12, f13, f14, f15, f16, _⟩ := hI
          try simp [Region.binds] at hn
          obtain ⟨ahPU, nhPU, chPU, ahPD, nhPD, chPD, ex, hPU, hPD⟩ := f2.out (by first | (simp [hn]; done) | exact hc.reach (f := 8) (by decide +kernel) hn | exact hc.reach (f := 8) (by decide +kernel) hn.1 | exact hc.reach (f := 8) (by decide +kernel) hn.2 | exact hc.reach (f := 8) (by decide +kernel) hn.2.1 | exact hc.reach (f := 8) (by decide +kernel) hn.2.2 | exact hc.reach (f := 8) (by decide +kernel) hn.2.2.1 | exact hc.reach (f := 8) (by decide +kernel) hn.2.2.2)
          subst ex
          obtain ⟨ahMU, nhMU, chMU, ahMD, nhMD, chMD, ex, hMU, hMD⟩ := f8.out (by first | (simp [hn]; done) | exact hc.reach (f := 8) (by decide +kernel) hn | exact hc.reach (f := 8) (by decide +kernel) hn.1 | exact hc.reach (f := 8) (by decide +kernel) hn.2 | exact hc.reach (f := 8) (by decide +kernel) hn.2.1 | exact hc.reach (f := 8) (by decide +kernel) hn.2.2 | exact hc.reach (f := 8) (by decide +kernel) hn.2.2.1 | exact hc.reach (f := 8) (by decide +kernel) hn.2.2.2)
          subst ex
          obtain ⟨G9, ex, hg1, hg2, hg3⟩ := f9.out (by first | (simp [hn]; done) | exact hc.reach (f := 8) (by decide +kernel) hn | exact hc.reach (f := 8) (by decide +kernel) hn.1 | exact hc.reach (f := 8) (by decide +kernel) hn.2 | exact hc.reach (f := 8) (by decide +kernel) hn.2.1 | exact hc.reach (f := 8) (by decide +kernel) hn.2.2 | exact hc.reach (f := 8) (by decide +kernel) hn.2.2.1 | exact hc.reach (f := 8) (by decide +kernel) hn.2.2.2) hun
          subst ex
          have z0 := hg3 0 (by simp [cellsOf])
          have z1 := hg3 1 (by simp [cellsOf])
          have z2 := hg3 2 (by simp [cellsOf])
          have z3 := hg3 3 (by simp [cellsOf])
          have z4 := hg3 4 (by simp [cellsOf])
          have z5 := hg3 5 (by simp [cellsOf])
          simp only [List.flatMap_cons, List.flatMap_nil, cellsOf, List.cons_append, List.nil_append, List.append_nil, List.getElem?_cons_zero, List.getElem?_cons_succ] at z0 z1 z2 z3 z4 z5
          subst ea
          simp only [puts, Act.put, List.setIfInBounds_toArray, List.set_cons_zero, List.set_cons_succ]
          go_simp
          with_reducible refine (mul_two (RatsAt.two hg2 z0 z1 z2 z3 z4 z5 hPU.toNatAt hPD.toNatAt hMU.toNatAt hMD.toNatAt) LP.out LM.out).mono ?_
          rintro e w1 ⟨ahXU, nhXU, chXU, ahXD, nhXD, chXD, rfl, hXU, hXD, h1⟩
          rw [HX.out] at hXU hXD ⊢
          refine hK.out _ _ ?_
          exact ⟨blk, y19, y20, .agg #[.bool (neg (P).num), .slice ahPU nhPU chPU, .slice ahPD nhPD chPD], y22, y23, y24, y25, y26, .agg #[.bool (neg (M).num), .slice ahMU nhMU chMU, .slice ahMD nhMD chMD], .slice (some ⟨G9, 0, none⟩) 2 2, .tuple #[.agg #[.bool (neg (X).num), .slice ahXU nhXU chXU, .slice ahXD nhXD chXD], .int .i64 0], y18, y30, y31, y9, y10, by simp only [puts, Act.put, List.setIfInBounds_toArray, List.set_cons_zero, List.set_cons_succ], below_later hb h1, hX.past h1 10 rfl, fun h => (f0.out (upd_of rfl h)), fun h => (f1.out (upd_of rfl h)), fun h => (f2.out (upd_of rfl h)).past h1, fun h => (f3.out (upd_of rfl h)), fun h => (f4.out (upd_of rfl h)), fun h => (f5.out (upd_of rfl h)), fun h => (f6.out (upd_of rfl h)), fun h => (f7.out (upd_of rfl h)), fun h => (f8.out (upd_of rfl h)).past h1, fun _ h2 => absurd h2 (by simp [upd]), fun _ => ⟨_, _, _, _, _, _, rfl, hXU.mono hb.size, hXD.mono hb.size⟩, fun h => absurd (hc.reach (f := 8) (s := 11) (l := 10) (by kernel_rfl) (upd_of rfl h)) (by rw [hun]; decide), fun h => (f12.out (upd_of rfl h)), fun h => (f13.out (upd_of rfl h)), fun h => (f14.out (upd_of rfl h)), fun h => (f15.out (upd_of rfl h)).past h1 10, fun h => (f16.out (upd_of rfl h)), trivial⟩
        · intro dd aa ww K hc hun hn hI hK
          obtain ⟨blk, y19, y20, y21, y22, y23, y24, y25, y26, y27, y28, y29, y18, y30, y31, y9, y10, ea, hb, hX, f0, f1, f2, f3, f4, f5, f6, f7, f8, f9, f10, f11, f12, f13, f14, f15, f16, _⟩ := hI
          try simp [Region.binds] at hn
          obtain ⟨ahXU, nhXU, chXU, ahXD, nhXD, chXD, ex, hXU, hXD⟩ := f10.out (by first | (simp [hn]; done) | exact hc.reach (f := 8) (by decide +kernel) hn | exact hc.reach (f := 8) (by decide +kernel) hn.1 | exact hc.reach (f := 8) (by decide +kernel) hn.2 | exact hc.reach (f := 8) (by decide +kernel) hn.2.1 | exact hc.reach (f := 8) (by decide +kernel) hn.2.2 | exact hc.reach (f := 8) (by decide +kernel) hn.2.2.1 | exact hc.reach (f := 8) (by decide +kernel) hn.2.2.2)
          subst ex
          subst ea
          simp only [puts, Act.put, List.setIfInBounds_toArray, List.set_cons_zero, List.set_cons_succ]
          go_simp
          refine hK.out _ _ ?_
          exact ⟨blk, y19, y20, y21, y22, y23, y24, y25, y26, y27, y28, .tuple #[.agg #[.bool (neg (X).num), .slice ahXU nhXU chXU, .slice ahXD nhXD chXD], .int .i64 0], .tuple #[.agg #[.bool (neg (X).num), .slice ahXU nhXU chXU, .slice ahXD nhXD chXD], .int .i64 0], y30, y31, y9, y10, by simp only [puts, Act.put, List.setIfInBounds_toArray, List.set_cons_zero, List.set_cons_succ], hb, hX.same 11 rfl, fun h => (f0.out (upd_of rfl h)), fun h => (f1.out (upd_of rfl h)), fun h => (f2.out (upd_of rfl h)), fun h => (f3.out (upd_of rfl h)), fun h => (f4.out (upd_of rfl h)), fun h => (f5.out (upd_of rfl h)), fun h => (f6.out (upd_of rfl h)), fun h => (f7.out (upd_of rfl h)), fun h => (f8.out (upd_of rfl h)), fun _ h2 => absurd (show dd 10 = true from (by first | (simp [hn]; done) | exact hc.reach (f := 8) (by decide +kernel) hn | exact hc.reach (f := 8) (by decide +kernel) hn.1 | exact hc.reach (f := 8) (by decide +kernel) hn.2 | exact hc.reach (f := 8) (by decide +kernel) hn.2.1 | exact hc.reach (f := 8) (by decide +kernel) hn.2.2 | exact hc.reach (f := 8) (by decide +kernel) hn.2.2.1 | exact hc.reach (f := 8) (by decide +kernel) hn.2.2.2)) (by rw [upd_off h2]; decide), fun h => (f10.out (upd_of rfl h)), fun _ => rfl, fun h => absurd (hc.reach (f := 8) (s := 12) (l := 11) (by kernel_rfl) (upd_of rfl h)) (by rw [hun]; decide), fun h => absurd (hc.reach (f := 8) (s := 13) (l := 11) (by kernel_rfl) (upd_of rfl h)) (by rw [hun]; decide), fun h => (f14.out (upd_of rfl h)), fun h => (f15.out (upd_of rfl h)).same 11, fun h => (f16.out (upd_of rfl h)), trivial⟩
        · intro dd aa ww K hc hun hn hI hK
          obtain ⟨blk, y19, y20, y21, y22, y23, y24, y25, y26, y27, y28, y29, y18, y30, y31, y9, y10, ea, hb, hX, f0, f1, f2, f3, f4, f5, f6, f7, f8, f9, f10, f11, f12, f13, f14, f15, f16, _⟩ := hI
          try simp [Region.binds] at hn
          obtain ⟨ahXU, nhXU, chXU, ahXD, nhXD, chXD, ex, hXU, hXD⟩ := f10.out (by first | (simp [hn]; done) | exact hc.reach (f := 8) (by decide +kernel) hn | exact hc.reach (f := 8) (by decide +kernel) hn.1 | exact hc.reach (f := 8) (by decide +kernel) hn.2 | exact hc.reach (f := 8) (by decide +kernel) hn.2.1 | exact hc.reach (f := 8) (by decide +kernel) hn.2.2 | exact hc.reach (f := 8) (by decide +kernel) hn.2.2.1 | exact hc.reach (f := 8) (by decide +kernel) hn.2.2.2)
          subst ex
          have ex : y18 = .tuple #[.agg #[.bool (neg (X).num), .slice ahXU nhXU chXU, .slice ahXD nhXD chXD], .int .i64 0] := f11.out (by first | (simp [hn]; done) | exact hc.reach (f := 8) (by decide +kernel) hn | exact hc.reach (f := 8) (by decide +kernel) hn.1 | exact hc.reach (f := 8) (by decide +kernel) hn.2 | exact hc.reach (f := 8) (by decide +kernel) hn.2.1 | exact hc.reach (f := 8) (by decide +kernel) hn.2.2 | exact hc.reach (f := 8) (by decide +kernel) hn.2.2.1 | exact hc.reach (f := 8) (by decide +kernel) hn.2.2.2)
          subst ex
          subst ea
          simp only [puts, Act.put, List.setIfInBounds_toArray, List.set_cons_zero, List.set_cons_succ]
          go_simp
          refine hK.out _ _ ?_
          exact ⟨blk, y19, y20, y21, y22, y23, y24, y25, y26, y27, y28, .tuple #[.agg #[.bool (neg (X).num), .slice ahXU nhXU chXU, .slice ahXD nhXD chXD], .int .i64 0], .tuple #[.agg #[.bool (neg (X).num), .slice ahXU nhXU chXU, .slice ahXD nhXD chXD], .int .i64 0], .agg #[.bool (neg (X).num), .slice ahXU nhXU chXU, .slice ahXD nhXD chXD], y31, y9, y10, by simp only [puts, Act.put, List.setIfInBounds_toArray, List.set_cons_zero, List.set_cons_succ], hb, hX.same 12 rfl, fun h => (f0.out (upd_of rfl h)), fun h => (f1.out (upd_of rfl h)), fun h => (f2.out (upd_of rfl h)), fun h => (f3.out (upd_of rfl h)), fun h => (f4.out (upd_of rfl h)), fun h => (f5.out (upd_of rfl h)), fun h => (f6.out (upd_of rfl h)), fun h => (f7.out (upd_of rfl h)), fun h => (f8.out (upd_of rfl h)), fun _ h2 => absurd (show dd 10 = true from (by first | (simp [hn]; done) | exact hc.reach (f := 8) (by decide +kernel) hn | exact hc.reach (f := 8) (by decide +kernel) hn.1 | exact hc.reach (f := 8) (by decide +kernel) hn.2 | exact hc.reach (f := 8) (by decide +kernel) hn.2.1 | exact hc.reach (f := 8) (by decide +kernel) hn.2.2 | exact hc.reach (f := 8) (by decide +kernel) hn.2.2.1 | exact hc.reach (f := 8) (by decide +kernel) hn.2.2.2)) (by rw [upd_off h2]; decide), fun h => (f10.out (upd_of rfl h)), fun h => rfl, fun _ => rfl, fun h => (f13.out (upd_of rfl h)), fun h => (f14.out (upd_of rfl h)), fun h => absurd (HoldsV.vp (f15.out (upd_of rfl h))) (by rw [hun]; decide), fun h => (f16.out (upd_of rfl h)), trivial⟩
        · intro dd aa ww K hc hun hn hI hK
          obtain ⟨blk, y19, y20, y21, y22, y23, y24, y25, y26, y27, y28, y29, y18, y30, y31, y9, y10, ea, hb, hX, f0, f1, f2, f3, f4, f5, f6, f7, f8, f9, f10, f11, f12, f13, f14, f15, f16, _⟩ := hI
          try simp [Region.binds] at hn
          obtain ⟨ahXU, nhXU, chXU, ahXD, nhXD, chXD, ex, hXU, hXD⟩ := f10.out (by first | (simp [hn]; done) | exact hc.reach (f := 8) (by decide +kernel) hn | exact hc.reach (f := 8) (by decide +kernel) hn.1 | exact hc.reach (f := 8) (by decide +kernel) hn.2 | exact hc.reach (f := 8) (by decide +kernel) hn.2.1 | exact hc.reach (f := 8) (by decide +kernel) hn.2.2 | exact hc.reach (f := 8) (by decide +kernel) hn.2.2.1 | exact hc.reach (f := 8) (by decide +kernel) hn.2.2.2)
          subst ex
          have ex : y18 = .tuple #[.agg #[.bool (neg (X).num), .slice ahXU nhXU chXU, .slice ahXD nhXD chXD], .int .i64 0] := f11.out (by first | (simp [hn]; done) | exact hc.reach (f := 8) (by decide +kernel) hn | exact hc.reach (f := 8) (by decide +kernel) hn.1 | exact hc.reach (f := 8) (by decide +kernel) hn.2 | exact hc.reach (f := 8) (by decide +kernel) hn.2.1 | exact hc.reach (f := 8) (by decide +kernel) hn.2.2 | exact hc.reach (f := 8) (by decide +kernel) hn.2.2.1 | exact hc.reach (f := 8) (by decide +kernel) hn.2.2.2)
          subst ex
          subst ea
          simp only [puts, Act.put, List.setIfInBounds_toArray, List.set_cons_zero, List.set_cons_succ]
          go_simp
          refine hK.out _ _ ?_
          exact ⟨blk, y19, y20, y21, y22, y23, y24, y25, y26, y27, y28, .tuple #[.agg #[.bool (neg (X).num), .slice ahXU nhXU chXU, .slice ahXD nhXD chXD], .int .i64 0], .tuple #[.agg #[.bool (neg (X).num), .slice ahXU nhXU chXU, .slice ahXD nhXD chXD], .int .i64 0], y30, .int .i64 0, y9, y10, by simp only [puts, Act.put, List.setIfInBounds_toArray, List.set_cons_zero, List.set_cons_succ], hb, hX.same 13 rfl, fun h => (f0.out (upd_of rfl h)), fun h => (f1.out (upd_of rfl h)), fun h => (f2.out (upd_of rfl h)), fun h => (f3.out (upd_of rfl h)), fun h => (f4.out (upd_of rfl h)), fun h => (f5.out (upd_of rfl h)), fun h => (f6.out (upd_of rfl h)), fun h => (f7.out (upd_of rfl h)), fun h => (f8.out (upd_of rfl h)), fun _ h2 => absurd (show dd 10 = true from (by first | (simp [hn]; done) | exact hc.reach (f := 8) (by decide +kernel) hn | exact hc.reach (f := 8) (by decide +kernel) hn.1 | exact hc.reach (f := 8) (by decide +kernel) hn.2 | exact hc.reach (f := 8) (by decide +kernel) hn.2.1 | exact hc.reach (f := 8) (by decide +kernel) hn.2.2 | exact hc.reach (f := 8) (by decide +kernel) hn.2.2.1 | exact hc.reach (f := 8) (by decide +kernel) hn.2.2.2)) (by rw [upd_off h2]; decide), fun h => (f10.out (upd_of rfl h)), fun h => rfl, fun h => (f12.out (upd_of rfl h)), fun _ => rfl, fun h => (f14.out (upd_of rfl h)), fun h => (f15.out (upd_of rfl h)).same 13, fun h => absurd (hc.reach (f := 8) (s := 16) (l := 13) (by kernel_rfl) (upd_of rfl h)) (by rw [hun]; decide), trivial⟩
        · intro dd aa ww K hc hun hn hI hK
          obtain ⟨blk, y19, y20, y21, y22, y23, y24, y25, y26, y27, y28, y29, y18, y30, y31, y9, y10, ea, hb, hX, f0, f1, f2, f3, f4, f5, f6, f7, f8, f9, f10, f11, f12, f13, f14, f15, f16, _⟩ := hI
          try simp [Region.binds] at hn
          subst ea
          simp only [puts, Act.put, List.setIfInBounds_toArray, List.set_cons_zero, List.set_cons_succ]
          go_simp
          refine hK.out _ _ ?_
          exact ⟨setB blk 14 ww.heap.size, y19, y20, y21, y22, y23, y24, y25, y26, y27, y28, y29, y18, y30, y31, .pointer (some ⟨ww.heap.size, 0, none⟩), y10, by simp only [puts, Act.put, List.setIfInBounds_toArray, List.set_cons_zero, List.set_cons_succ], below_alloc hb _, hX.new hb.size 14 #[.bool false, .slice none 0 0, .slice none 0 0] _ rfl (by simp [notU_bool, notU_slice, notU_i64]), fun h => (f0.out (upd_of rfl h)), fun h => (f1.out (upd_of rfl h)), fun h => (f2.out (upd_of rfl h)).past ((Below.refl _ _).alloc (Nat.le_refl _) _), fun h => (f3.out (upd_of rfl h)), fun h => (f4.out (upd_of rfl h)), fun h => (f5.out (upd_of rfl h)), fun h => (f6.out (upd_of rfl h)), fun h => (f7.out (upd_of rfl h)), fun h => (f8.out (upd_of rfl h)).past ((Below.refl _ _).alloc (Nat.le_refl _) _), fun h h2 => ((f9.out (upd_of rfl h)) (upd_off h2)).past ((Below.refl _ _).alloc (Nat.le_refl _) _), fun h => (f10.out (upd_of rfl h)).past ((Below.refl _ _).alloc (Nat.le_refl _) _), fun h => (f11.out (upd_of rfl h)), fun h => (f12.out (upd_of rfl h)), fun h => (f13.out (upd_of rfl h)), fun _ => rfl, fun h => absurd (HoldsV.up (f15.out (upd_of rfl h))) (by rw [hun]; decide), fun h => (f16.out (upd_of rfl h)), trivial⟩
        · intro dd aa ww K hc hun hn hI hK
          obtain ⟨blk, y19, y20, y21, y22, y23, y24, y25, y26, y27, y28, y29, y18, y30, y31, y9, y10, ea, hb, hX, f0, f1, f2, f3, f4, f5, f6, f7, f8, f9, f10, f11, f12, f13, f14, f15, f16, _⟩ := hI
          try simp [Region.binds] at hn
          have ex := f14.out (by first | (simp [hn]; done) | exact hc.reach (f := 8) (by decide +kernel) hn | exact hc.reach (f := 8) (by decide +kernel) hn.1 | exact hc.reach (f := 8) (by decide +kernel) hn.2 | exact hc.reach (f := 8) (by decide +kernel) hn.2.1 | exact hc.reach (f := 8) (by decide +kernel) hn.2.2 | exact hc.reach (f := 8) (by decide +kernel) hn.2.2.1 | exact hc.reach (f := 8) (by decide +kernel) hn.2.2.2)
          subst ex
          obtain ⟨ahXU, nhXU, chXU, ahXD, nhXD, chXD, ex, hXU, hXD⟩ := f10.out (by first | (simp [hn]; done) | exact hc.reach (f := 8) (by decide +kernel) hn | exact hc.reach (f := 8) (by decide +kernel) hn.1 | exact hc.reach (f := 8) (by decide +kernel) hn.2 | exact hc.reach (f := 8) (by decide +kernel) hn.2.1 | exact hc.reach (f := 8) (by decide +kernel) hn.2.2 | exact hc.reach (f := 8) (by decide +kernel) hn.2.2.1 | exact hc.reach (f := 8) (by decide +kernel) hn.2.2.2)
          subst ex
          have ex : y18 = .tuple #[.agg #[.bool (neg (X).num), .slice ahXU nhXU chXU, .slice ahXD nhXD chXD], .int .i64 0] := f11.out (by first | (simp [hn]; done) | exact hc.reach (f := 8) (by decide +kernel) hn | exact hc.reach (f := 8) (by decide +kernel) hn.1 | exact hc.reach (f := 8) (by decide +kernel) hn.2 | exact hc.reach (f := 8) (by decide +kernel) hn.2.1 | exact hc.reach (f := 8) (by decide +kernel) hn.2.2 | exact hc.reach (f := 8) (by decide +kernel) hn.2.2.1 | exact hc.reach (f := 8) (by decide +kernel) hn.2.2.2)
          subst ex
          have ex : y30 = .agg #[.bool (neg (X).num), .slice ahXU nhXU chXU, .slice ahXD nhXD chXD] := f12.out (by first | (simp [hn]; done) | exact hc.reach (f := 8) (by decide +kernel) hn | exact hc.reach (f := 8) (by decide +kernel) hn.1 | exact hc.reach (f := 8) (by decide +kernel) hn.2 | exact hc.reach (f := 8) (by decide +kernel) hn.2.1 | exact hc.reach (f := 8) (by decide +kernel) hn.2.2 | exact hc.reach (f := 8) (by decide +kernel) hn.2.2.1 | exact hc.reach (f := 8) (by decide +kernel) hn.2.2.2)
          subst ex
          have hd14 : dd 14 = true := by simp [hn]
          have hv12 : dd 12 = true := by simp [hn]
          obtain ⟨x1, x2, x3⟩ := hX.at_ (14, 3) (by simp) hd14
          obtain ⟨v0, v1, v2, z0, z1, z2, z3, z4, z5, _, _, _⟩ := x3.three
          have hv : ∀ v ∈ ([.bool (neg (X).num), .slice ahXU nhXU chXU, .slice ahXD nhXD chXD] : List Value), notU v := by simp [notU_bool, notU_slice, notU_i64]
          subst ea
          simp only [puts, Act.put, List.setIfInBounds_toArray, List.set_cons_zero, List.set_cons_succ]
          go_simp
          refine hK.out _ _ ?_
          exact ⟨blk, y19, y20, y21, y22, y23, y24, y25, y26, y27, y28, .tuple #[.agg #[.bool (neg (X).num), .slice ahXU nhXU chXU, .slice ahXD nhXD chXD], .int .i64 0], .tuple #[.agg #[.bool (neg (X).num), .slice ahXU nhXU chXU, .slice ahXD nhXD chXD], .int .i64 0], .agg #[.bool (neg (X).num), .slice ahXU nhXU chXU, .slice ahXD nhXD chXD], y31, .pointer (some ⟨blk 14, 0, none⟩), y10, by simp only [puts, Act.put, List.setIfInBounds_toArray, List.set_cons_zero, List.set_cons_succ], hb.trans (below_setCells _ _ x1 [.bool (neg (X).num), .slice ahXU nhXU chXU, .slice ahXD nhXD chXD] 0 _), (hX.sets [.bool (neg (X).num), .slice ahXU nhXU chXU, .slice ahXD nhXD chXD] _ 0 _ hv).same 15 rfl, fun h => (f0.out (upd_of rfl h)), fun h => (f1.out (upd_of rfl h)), fun h => ((f2.out (upd_of rfl h)).sets [.bool (neg (X).num), .slice ahXU nhXU chXU, .slice ahXD nhXD chXD] x3 (by simp) hv), fun h => (f3.out (upd_of rfl h)), fun h => (f4.out (upd_of rfl h)), fun h => (f5.out (upd_of rfl h)), fun h => (f6.out (upd_of rfl h)), fun h => (f7.out (upd_of rfl h)), fun h => ((f8.out (upd_of rfl h)).sets [.bool (neg (X).num), .slice ahXU nhXU chXU, .slice ahXD nhXD chXD] x3 (by simp) hv), fun _ h2 => absurd (show dd 10 = true from (by first | (simp [hn]; done) | exact hc.reach (f := 8) (by decide +kernel) hn | exact hc.reach (f := 8) (by decide +kernel) hn.1 | exact hc.reach (f := 8) (by decide +kernel) hn.2 | exact hc.reach (f := 8) (by decide +kernel) hn.2.1 | exact hc.reach (f := 8) (by decide +kernel) hn.2.2 | exact hc.reach (f := 8) (by decide +kernel) hn.2.2.1 | exact hc.reach (f := 8) (by decide +kernel) hn.2.2.2)) (by rw [upd_off h2]; decide), fun h => ((f10.out (upd_of rfl h)).sets [.bool (neg (X).num), .slice ahXU nhXU chXU, .slice ahXD nhXD chXD] x3 (by simp) hv), fun h => rfl, fun h => rfl, fun h => (f13.out (upd_of rfl h)), fun h => rfl, fun _ => (HoldsV.new hd14 hv12 x2 x3 [.bool (neg (X).num), .slice ahXU nhXU chXU, .slice ahXD nhXD chXD] (by simp)).same 15, fun h => (f16.out (upd_of rfl h)), trivial⟩
        · intro dd aa ww K hc hun hn hI hK
          obtain ⟨blk, y19, y20, y21, y22, y23, y24, y25, y26, y27, y28, y29, y18, y30, y31, y9, y10, ea, hb, hX, f0, f1, f2, f3, f4, f5, f6, f7, f8, f9, f10, f11, f12, f13, f14, f15, f16, _⟩ := hI
          try simp [Region.binds] at hn
          obtain ⟨ahXU, nhXU, chXU, ahXD, nhXD, chXD, ex, hXU, hXD⟩ := f10.out (by first | (simp [hn]; done) | exact hc.reach (f := 8) (by decide +kernel) hn | exact hc.reach (f := 8) (by decide +kernel) hn.1 | exact hc.reach (f := 8) (by decide +kernel) hn.2 | exact hc.reach (f := 8) (by decide +kernel) hn.2.1 | exact hc.reach (f := 8) (by decide +kernel) hn.2.2 | exact hc.reach (f := 8) (by decide +kernel) hn.2.2.1 | exact hc.reach (f := 8) (by decide +kernel) hn.2.2.2)
          subst ex
          have ex : y18 = .tuple #[.agg #[.bool (neg (X).num), .slice ahXU nhXU chXU, .slice ahXD nhXD chXD], .int .i64 0] := f11.out (by first | (simp [hn]; done) | exact hc.reach (f := 8) (by decide +kernel) hn | exact hc.reach (f := 8) (by decide +kernel) hn.1 | exact hc.reach (f := 8) (by decide +kernel) hn.2 | exact hc.reach (f := 8) (by decide +kernel) hn.2.1 | exact hc.reach (f := 8) (by decide +kernel) hn.2.2 | exact hc.reach (f := 8) (by decide +kernel) hn.2.2.1 | exact hc.reach (f := 8) (by decide +kernel) hn.2.2.2)
          subst ex
          have ex : y31 = .int .i64 0 := f13.out (by first | (simp [hn]; done) | exact hc.reach (f := 8) (by decide +kernel) hn | exact hc.reach (f := 8) (by decide +kernel) hn.1 | exact hc.reach (f := 8) (by decide +kernel) hn.2 | exact hc.reach (f := 8) (by decide +kernel) hn.2.1 | exact hc.reach (f := 8) (by decide +kernel) hn.2.2 | exact hc.reach (f := 8) (by decide +kernel) hn.2.2.1 | exact hc.reach (f := 8) (by decide +kernel) hn.2.2.2)
          subst ex
          subst ea
          simp only [puts, Act.put, List.setIfInBounds_toArray, List.set_cons_zero, List.set_cons_succ]
          go_simp
          refine hK.out _ _ ?_
          exact ⟨blk, y19, y20, y21, y22, y23, y24, y25, y26, y27, y28, .tuple #[.agg #[.bool (neg (X).num), .slice ahXU nhXU chXU, .slice ahXD nhXD chXD], .int .i64 0], .tuple #[.agg #[.bool (neg (X).num), .slice ahXU nhXU chXU, .slice ahXD nhXD chXD], .int .i64 0], y30, .int .i64 0, y9, .int .i64 0, by simp only [puts, Act.put, List.setIfInBounds_toArray, List.set_cons_zero, List.set_cons_succ], hb, hX.same 16 rfl, fun h => (f0.out (upd_of rfl h)), fun h => (f1.out (upd_of rfl h)), fun h => (f2.out (upd_of rfl h)), fun h => (f3.out (upd_of rfl h)), fun h => (f4.out (upd_of rfl h)), fun h => (f5.out (upd_of rfl h)), fun h => (f6.out (upd_of rfl h)), fun h => (f7.out (upd_of rfl h)), fun h => (f8.out (upd_of rfl h)), fun _ h2 => absurd (show dd 10 = true from (by first | (simp [hn]; done) | exact hc.reach (f := 8) (by decide +kernel) hn | exact hc.reach (f := 8) (by decide +kernel) hn.1 | exact hc.reach (f := 8) (by decide +kernel) hn.2 | exact hc.reach (f := 8) (by decide +kernel) hn.2.1 | exact hc.reach (f := 8) (by decide +kernel) hn.2.2 | exact hc.reach (f := 8) (by decide +kernel) hn.2.2.1 | exact hc.reach (f := 8) (by decide +kernel) hn.2.2.2)) (by rw [upd_off h2]; decide), fun h => (f10.out (upd_of rfl h)), fun h => rfl, fun h => (f12.out (upd_of rfl h)), fun h => rfl, fun h => (f14.out (upd_of rfl h)), fun h => (f15.out (upd_of rfl h)).same 16, fun _ => rfl, trivial⟩
      intro dd aa w1 hd hI
      obtain ⟨blk, y19, y20, y21, y22, y23, y24, y25, y26, y27, y28, y29, y18, y30, y31, y9, y10, ea, hb, hX, f0, f1, f2, f3, f4, f5, f6, f7, f8, f9, f10, f11, f12, f13, f14, f15, f16, _⟩ := hI
      have ex := f0.out (hd 0 (by simp))
      subst ex
      have ex := f1.out (hd 1 (by simp))
      subst ex
      obtain ⟨ahPU, nhPU, chPU, ahPD, nhPD, chPD, ex, hPU, hPD⟩ := f2.out (hd 2 (by simp))
      subst ex
      have ex := f3.out (hd 3 (by simp))
      subst ex
      have ex := f4.out (hd 4 (by simp))
      subst ex
      have ex := f5.out (hd 5 (by simp))
      subst ex
      have ex := f6.out (hd 6 (by simp))
      subst ex
      have ex := f7.out (hd 7 (by simp))
      subst ex
      obtain ⟨ahMU, nhMU, chMU, ahMD, nhMD, chMD, ex, hMU, hMD⟩ := f8.out (hd 8 (by simp))
      subst ex
      obtain ⟨ahXU, nhXU, chXU, ahXD, nhXD, chXD, ex, hXU, hXD⟩ := f10.out (hd 10 (by simp))
      subst ex
      have ex : y18 = .tuple #[.agg #[.bool (neg (X).num), .slice ahXU nhXU chXU, .slice ahXD nhXD chXD], .int .i64 0] := f11.out (hd 11 (by simp))
      subst ex
      have ex : y30 = .agg #[.bool (neg (X).num), .slice ahXU nhXU chXU, .slice ahXD nhXD chXD] := f12.out (hd 12 (by simp))
      subst ex
      have ex : y31 = .int .i64 0 := f13.out (hd 13 (by simp))
      subst ex
      have ex := f14.out (hd 14 (by simp))
      subst ex
      obtain ⟨vs15, e, h15⟩ := f15.out (hd 15 (by simp))
      cases e
      have ex : y10 = .int .i64 0 := f16.out (hd 16 (by simp))
      subst ex
      have lr := h15.lt
      have qr0 := h15.at_ 0 (by simp)
      simp only [List.getElem?_cons_zero, List.getElem?_cons_succ] at qr0
      have qr1 := h15.at_ 1 (by simp)
      simp only [List.getElem?_cons_zero, List.getElem?_cons_succ] at qr1
      have qr2 := h15.at_ 2 (by simp)
      simp only [List.getElem?_cons_zero, List.getElem?_cons_succ] at qr2
      generalize blk 14 = Br at *
      subst ea
      simp only [puts, Act.put, List.setIfInBounds_toArray, List.set_cons_zero, List.set_cons_succ]
      have qS0 := bq hb lS qS0
      have lS := bl hb lS
      have qK0 := bq hb lK qK0
      have lK := bl hb lK
      have qU0 := bq hb lU qU0
      have lU := bl hb lU
      have qJ0 := bq hb lJ qJ0
      have lJ := bl hb lJ
      have hB := below_later hB hb
      have hR0 := below_later hR0 hb
      clear hX
      clear hb hd
      have hJ1 := HJ.out m _ _ hJm hR0
      obtain ⟨fn, tmps, assign, body, hy, hR⟩ := HY1.out _ _ _ _ _ _ w1 hJ1 hB hXU.toNatAt hXD.toNatAt
      gi_wp2_with (first | (refine hR.mono ?_; rintro e W3 ⟨rfl, hJ3, hk3⟩))
      exact ⟨⟨m + 1, by omega, by go_num, hJ3, hB.trans hk3⟩, by simp [intOf]; omega⟩
    · obtain rfl : m = n := by omega
      gi_wp2
      go_end0
      exact ⟨⟨_, rfl⟩, hJm, hB⟩

end Go.Proofs.Ytlkoenpdmlbhlaa
