/- the laws of soliton: near. -/
import Derived.Test.YtlkoenpdmlbhlaaLaw13b
import Derived.Test.YtlkoenpdmlbhlaaRatio10
import Derived.Test.YtlkoenpdmlbhlaaReg7
set_option linter.unusedVariables false
set_option linter.unusedSimpArgs false
namespace Go.Proofs.Ytlkoenpdmlbhlaa
open Go.RowKit

theorem n_cmp_rat {p q : Rat} {a1 : Option Addr} {n1 c1 : Nat} {a2 : Option Addr} {n2 c2 : Nat} {a3 : Option Addr} {n3 c3 : Nat} {a4 : Option Addr} {n4 c4 : Nat} {w : World} (g1 : NatAt w a1 n1 c1 (digs p.num.natAbs)) (g2 : NatAt w a2 n2 c2 (digs p.den)) (g3 : NatAt w a3 n3 c3 (digs q.num.natAbs)) (g4 : NatAt w a4 n4 c4 (digs q.den)) (hp : rlen p ≤ 1048576) (hq : rlen q ≤ 1048576) :
    Calls Try.prog 35 #[.agg #[.bool (neg p.num), .slice a1 n1 c1, .slice a2 n2 c2], .agg #[.bool (neg q.num), .slice a3 n3 c3, .slice a4 n4 c4]] w (RetVal w (.tuple #[.int .i64 (p - q).num.sign, .int .i64 0])) := by
  unfold rlen at hp hq
  have h := cmp05_any (neg p.num) (neg q.num) a1 n1 c1 a2 n2 c2 a3 n3 c3 a4 n4 c4 _ _ _ _ w g1 g2 g3 g4 (by have := g1.len; omega) (by have := g2.len; omega) (by have := g3.len; omega) (by have := g4.len; omega)
  have e := subA_rat p q
  unfold partsOf at e
  rw [e] at h
  exact h
theorem n_sub_rat {p q : Rat} {a1 : Option Addr} {n1 c1 : Nat} {a2 : Option Addr} {n2 c2 : Nat} {a3 : Option Addr} {n3 c3 : Nat} {a4 : Option Addr} {n4 c4 : Nat} {w : World} (g1 : NatAt w a1 n1 c1 (digs p.num.natAbs)) (g2 : NatAt w a2 n2 c2 (digs p.den)) (g3 : NatAt w a3 n3 c3 (digs q.num.natAbs)) (g4 : NatAt w a4 n4 c4 (digs q.den)) (hp : rlen p ≤ 1048576) (hq : rlen q ≤ 1048576) :
    Calls Try.prog 55 #[.agg #[.bool (neg p.num), .slice a1 n1 c1, .slice a2 n2 c2], .agg #[.bool (neg q.num), .slice a3 n3 c3, .slice a4 n4 c4]] w (RetOk w (p - q)) := by
  unfold rlen at hp hq
  exact sub05_rat p q _ _ _ _ _ _ _ _ _ _ _ _ w g1 g2 g3 g4 (by have := g1.len; omega) (by have := g2.len; omega) (by have := g3.len; omega) (by have := g4.len; omega)
theorem n_rlen_sub {p q : Rat} {a b : Nat} (h1 : rlen p ≤ a) (h2 : rlen q ≤ b) : rlen (p - q) ≤ a + b + 1 := by
  rw [Rat.sub_eq_add_neg]
  have h3 : rlen (p + -q) ≤ rlen p + rlen (-q) + 1 := sum_short p (-q)
  rw [rlen_neg] at h3
  omega
theorem n_rlen_abs (d : Rat) : rlen (absR d) = rlen d := by unfold rlen; rw [absR_abs, absR_den]
theorem n_rlen_small {z : Int} {d : Nat} (hd : d ≠ 0) (h1 : z.natAbs < 18446744073709551616) (h2 : d < 18446744073709551616) : rlen (mkRat z d) ≤ 1 :=
  rlen_mkRat hd (digs_length_le.2 (by simpa using h1)) (digs_length_le.2 (by simpa using h2))
theorem n_cmp_abs {p q : Rat} {a1 : Option Addr} {n1 c1 : Nat} {a2 : Option Addr} {n2 c2 : Nat} {a3 : Option Addr} {n3 c3 : Nat} {a4 : Option Addr} {n4 c4 : Nat} {w : World} (hb : neg p.num = false) (g1 : NatAt w a1 n1 c1 (digs p.num.natAbs)) (g2 : NatAt w a2 n2 c2 (digs p.den)) (g3 : NatAt w a3 n3 c3 (digs q.num.natAbs)) (g4 : NatAt w a4 n4 c4 (digs q.den)) (hp : rlen p ≤ 1048576) (hq : rlen q ≤ 1048576) :
    Calls Try.prog 35 #[.agg #[.bool false, .slice a1 n1 c1, .slice a2 n2 c2], .agg #[.bool (neg q.num), .slice a3 n3 c3, .slice a4 n4 c4]] w (RetVal w (.tuple #[.int .i64 (p - q).num.sign, .int .i64 0])) := by
  have := n_cmp_rat g1 g2 g3 g4 hp hq
  rwa [hb] at this
theorem part13_one (x : Int) (w : World) (hx : -9223372036854775808 ≤ x ∧ x ≤ 9223372036854775807) : Calls Try.prog 16 #[.int .i64 x, .int .i64 1] w (RetRat w (mkRat x 1)) := part13_any x 1 w hx (by decide) (by decide)
theorem part13_half (w : World) : Calls Try.prog 16 #[.int .i64 1, .int .i64 2] w (RetRat w (fr 1 2)) := part13_any 1 2 w (by decide) (by decide) (by decide)
theorem part31 {w : World} {b : Nat} (x : BoxAt w b 3) (v0 : Value) (h0 : notU v0) {u1 u2 : Value} (h1 : w.cell? ⟨b, 1, none⟩ = some u1) (h2 : w.cell? ⟨b, 2, none⟩ = some u2) :
    ∃ w', w.setCell ⟨b, 0, none⟩ v0 = w' ∧ Off b w w' ∧ w'.cell? ⟨b, 0, none⟩ = some v0 ∧ w'.cell? ⟨b, 1, none⟩ = some u1 ∧ w'.cell? ⟨b, 2, none⟩ = some u2 ∧ BoxAt w' b 3 := by
  obtain ⟨u0, c0, n0⟩ := x.c 0 (by decide)
  refine ⟨_, rfl, Off.set c0 n0 h0, World.cell?_setCell_same _ _ _ c0, ?_, ?_, x.set ⟨b, 0, none⟩ v0 h0⟩
  · rw [World.cell?_setCell_other _ _ _ _ (fun e => by cases e)]
    exact h1
  · rw [World.cell?_setCell_other _ _ _ _ (fun e => by cases e)]
    exact h2
theorem rnd_near0 (q : Rat) : (absR (q - mkRat (rndR q) 1) - fr 1 2).num.sign ≤ 0 := by
  rw [mk_one]
  rcases rnd_near q with h | ⟨h, _⟩ <;> rw [h] <;> decide

set_option maxRecDepth 100000 in
set_option maxHeartbeats 8000000 in
theorem near13_yes (wt : Int) (sc : Nat) {q : Rat} {a1 : Option Addr} {n1 c1 : Nat} {a2 : Option Addr} {n2 c2 : Nat} {w : World} (g1 : NatAt w a1 n1 c1 (digs q.num.natAbs)) (g2 : NatAt w a2 n2 c2 (digs q.den)) (hl : rlen q ≤ 1000) (hs : sc ≤ 16777215) (hw : -9223372036854775808 ≤ wt ∧ wt ≤ 9223372036854775807) (hz : rndR (q * mkRat (sc : Int) 1) = wt) :
    Calls Try.prog 23 #[.int .i64 wt, .int .i64 (sc : Int), .agg #[.bool (neg q.num), .slice a1 n1 c1, .slice a2 n2 c2]] w (RetVal w (.bool true)) := by
  have hc := rnd_near0 (mkRat (sc : Int) 1 * q)
  rw [Rat.mul_comm (mkRat (sc : Int) 1) q, hz, Rat.mul_comm q] at hc
  have ls : rlen (mkRat (sc : Int) 1) ≤ 1 := n_rlen_small (by decide) (by omega) (by decide)
  have lw : rlen (mkRat wt 1) ≤ 1 := n_rlen_small (by decide) (by omega) (by decide)
  obtain ⟨Sc, hSc⟩ : ∃ Sc, mkRat (sc : Int) 1 = Sc := ⟨_, rfl⟩
  obtain ⟨Wq, hWq⟩ : ∃ Wq, mkRat wt 1 = Wq := ⟨_, rfl⟩
  rw [hSc] at ls hc
  rw [hWq] at lw hc
  have lx : rlen (Sc * q) ≤ rlen Sc + rlen q + 1 := product_short Sc q
  obtain ⟨X, hX⟩ : ∃ X, Sc * q = X := ⟨_, rfl⟩
  rw [hX] at lx hc
  have ld : rlen (X - Wq) ≤ 1100 + 1 + 1 := n_rlen_sub (by omega) lw
  have la : rlen (absR (X - Wq)) ≤ 1048576 := by rw [n_rlen_abs]; omega
  have ea := absR_neg (X - Wq)
  have ea1 : (X - Wq).num.natAbs = (absR (X - Wq)).num.natAbs := (absR_abs _).symm
  have ea2 : (X - Wq).den = (absR (X - Wq)).den := rfl
  generalize absR (X - Wq) = A at *
  obtain ⟨D, hD⟩ : ∃ D, X - Wq = D := ⟨_, rfl⟩
  rw [hD] at ea1 ea2
  obtain ⟨C, hC⟩ : ∃ C, (A - fr 1 2).num.sign = C := ⟨_, rfl⟩
  rw [hC] at hc
  have HSC := Lib.hid hSc
  have HWQ := Lib.hid hWq
  have HX := Lib.hid hX
  have HD := Lib.hid hD
  have HC := Lib.hid hC
  have EA := Lib.hid ea
  have EA1 := Lib.hid ea1
  have EA2 := Lib.hid ea2
  have LA := Lib.hid la
  have LS := Lib.hid (show rlen Sc ≤ 1048576 by omega)
  have LW := Lib.hid (show rlen Wq ≤ 1048576 by omega)
  have LQ := Lib.hid (show rlen q ≤ 1048576 by omega)
  have LX := Lib.hid (show rlen X ≤ 1048576 by omega)
  have HWT := Lib.hid hw
  have HSS := Lib.hid (show -9223372036854775808 ≤ (sc : Int) ∧ (sc : Int) ≤ 9223372036854775807 by omega)
  clear hSc hWq hX hD hC ea ea1 ea2 la ls lw lx ld hl hw hs hz
  go_enter Try.func23, Try.ntmps23
  have hB := Below.refl w.heap.size w
  go_wp2_with fail
  obtain ⟨w1, hW, hz0, hb, q, f⟩ := box1g w (w.heap.size) (by omega) #[.bool (neg q.num), .slice a1 n1 c1, .slice a2 n2 c2] 36
  rw [hW]
  clear hW
  have g1 := g1.past hb
  have g2 := g2.past hb
  have hB := below_later hB hb
  clear hb
  have ls : w.heap.size < w1.heap.size := by omega
  have qs0 := q 0; have qs1 := q 1; have qs2 := q 2
  simp only [List.getElem?_toArray, List.getElem?_cons_zero, List.getElem?_cons_succ] at qs0 qs1 qs2
  clear q f
  clear hz0
  refine wp_region_invA (by kernel_rfl) rfl (by kernel_rfl) (fun A0 V0 dd aa ww => ∃ (blk : Nat → Nat) (y14 y15 y16 y17 y18 y13 y19 y20 y7 y8 : Value), aa = puts A0 [(14, y14), (15, y15), (16, y16), (17, y17), (18, y18), (13, y13), (19, y19), (20, y20), (7, y7), (8, y8)] ∧ Below V0.heap.size V0 ww ∧ Boxes [(8, 3)] V0.heap.size dd blk ww ∧ Shut (dd 0 = true → y14 = .int .i64 (sc : Int)) ∧ Shut (dd 1 = true → RatV V0.heap.size (Sc) y15 ww) ∧ Shut (dd 2 = true → y16 = .agg #[.bool (neg q.num), .slice a1 n1 c1, .slice a2 n2 c2]) ∧ Shut (dd 3 = true → dd 4 = false → LstV V0.heap.size 2 ([y15, y16].flatMap cellsOf) y17 ww) ∧ Shut (dd 4 = true → OkV V0.heap.size (X) y18 ww) ∧ Shut (dd 5 = true → y13 = y18) ∧ Shut (dd 6 = true → y19 = part 0 y13) ∧ Shut (dd 7 = true → y20 = part 1 y13) ∧ Shut (dd 8 = true → y7 = .pointer (some ⟨blk 8, 0, none⟩)) ∧ Shut (dd 9 = true → HoldsV dd 8 6 (blk 8) y19 ww) ∧ Shut (dd 10 = true → y8 = y20) ∧ True) ?_ ?_ ?_
  · exact ⟨fun _ => 0, _, _, _, _, _, _, _, _, _, _, puts_self _ [14, 15, 16, 17, 18, 13, 19, 20, 7, 8], (Below.refl _ _).drew, Boxes.none _ _ _ _, fun h => (by cases h), fun h => (by cases h), fun h => (by cases h), fun h => (by cases h), fun h => (by cases h), fun h => (by cases h), fun h => (by cases h), fun h => (by cases h), fun h => (by cases h), fun h => (by cases h), fun h => (by cases h), trivial⟩
  · refine Steps.cons ?_ (Steps.cons ?_ (Steps.cons ?_ (Steps.cons ?_ (Steps.cons ?_ (Steps.cons ?_ (Steps.cons ?_ (Steps.cons ?_ (Steps.cons ?_ (Steps.cons ?_ (Steps.cons ?_ (Steps.nil)))))))))))
    · intro dd aa ww K hc hun hn hI hK
      obtain ⟨blk, y14, y15, y16, y17, y18, y13, y19, y20, y7, y8, ea, hb, hX, f0, f1, f2, f3, f4, f5, f6, f7, f8, f9, f10, _⟩ := hI
      try simp [Region.binds] at hn
      subst ea
      simp only [puts, Act.put, List.setIfInBounds_toArray, List.set_cons_zero, List.set_cons_succ]
      go_simp
      refine hK.out _ _ ?_
      exact ⟨blk, .int .i64 (sc : Int), y15, y16, y17, y18, y13, y19, y20, y7, y8, by simp only [puts, Act.put, List.setIfInBounds_toArray, List.set_cons_zero, List.set_cons_succ], hb, hX.same 0 rfl, fun _ => rfl, fun h => (f1.out (upd_of rfl h)), fun h => (f2.out (upd_of rfl h)), fun h h2 => ((f3.out (upd_of rfl h)) (upd_off h2)), fun h => (f4.out (upd_of rfl h)), fun h => (f5.out (upd_of rfl h)), fun h => (f6.out (upd_of rfl h)), fun h => (f7.out (upd_of rfl h)), fun h => (f8.out (upd_of rfl h)), fun h => (f9.out (upd_of rfl h)).same 0, fun h => (f10.out (upd_of rfl h)), trivial⟩
    · intro dd aa ww K hc hun hn hI hK
      obtain ⟨blk, y14, y15, y16, y17, y18, y13, y19, y20, y7, y8, ea, hb, hX, f0, f1, f2, f3, f4, f5, f6, f7, f8, f9, f10, _⟩ := hI
      try simp [Region.binds] at hn
      have ex := f0.out (by first | (simp [hn]; done) | exact hc.reach (f := 8) (by decide +kernel) hn | exact hc.reach (f := 8) (by decide +kernel) hn.1 | exact hc.reach (f := 8) (by decide +kernel) hn.2 | exact hc.reach (f := 8) (by decide +kernel) hn.2.1 | exact hc.reach (f := 8) (by decide +kernel) hn.2.2 | exact hc.reach (f := 8) (by decide +kernel) hn.2.2.1 | exact hc.reach (f := 8) (by decide +kernel) hn.2.2.2)
      subst ex
      subst ea
      simp only [puts, Act.put, List.setIfInBounds_toArray, List.set_cons_zero, List.set_cons_succ]
      go_simp
      with_reducible refine (part13_one (sc : Int) _ HSS.out).mono ?_
      rintro e w1 ⟨ahCU, nhCU, chCU, ahCD, nhCD, chCD, rfl, hCU, hCD, h1⟩
      rw [HSC.out] at hCU hCD ⊢
      refine hK.out _ _ ?_
      exact ⟨blk, .int .i64 (sc : Int), .agg #[.bool (neg (Sc).num), .slice ahCU nhCU chCU, .slice ahCD nhCD chCD], y16, y17, y18, y13, y19, y20, y7, y8, by simp only [puts, Act.put, List.setIfInBounds_toArray, List.set_cons_zero, List.set_cons_succ], below_later hb h1, hX.past h1 1 rfl, fun h => rfl, fun _ => ⟨_, _, _, _, _, _, rfl, hCU.mono hb.size, hCD.mono hb.size⟩, fun h => (f2.out (upd_of rfl h)), fun h => absurd (hc.reach (f := 8) (s := 3) (l := 1) (by kernel_rfl) (upd_of rfl h)) (by rw [hun]; decide), fun h => (f4.out (upd_of rfl h)).past h1, fun h => (f5.out (upd_of rfl h)), fun h => (f6.out (upd_of rfl h)), fun h => (f7.out (upd_of rfl h)), fun h => (f8.out (upd_of rfl h)), fun h => (f9.out (upd_of rfl h)).past h1 1, fun h => (f10.out (upd_of rfl h)), trivial⟩
    · intro dd aa ww K hc hun hn hI hK
      obtain ⟨blk, y14, y15, y16, y17, y18, y13, y19, y20, y7, y8, ea, hb, hX, f0, f1, f2, f3, f4, f5, f6, f7, f8, f9, f10, _⟩ := hI
      try simp [Region.binds] at hn
      have e0 := (hb.cell (p := ⟨w.heap.size, 0, none⟩) ls).trans qs0
      have e1 := (hb.cell (p := ⟨w.heap.size, 1, none⟩) ls).trans qs1
      have e2 := (hb.cell (p := ⟨w.heap.size, 2, none⟩) ls).trans qs2
      subst ea
      simp only [puts, Act.put, List.setIfInBounds_toArray, List.set_cons_zero, List.set_cons_succ]
      go_simp
      refine hK.out _ _ ?_
      exact ⟨blk, y14, y15, .agg #[.bool (neg q.num), .slice a1 n1 c1, .slice a2 n2 c2], y17, y18, y13, y19, y20, y7, y8, by simp only [puts, Act.put, List.setIfInBounds_toArray, List.set_cons_zero, List.set_cons_succ], hb, hX.same 2 rfl, fun h => (f0.out (upd_of rfl h)), fun h => (f1.out (upd_of rfl h)), fun _ => rfl, fun h => absurd (hc.reach (f := 8) (s := 3) (l := 2) (by kernel_rfl) (upd_of rfl h)) (by rw [hun]; decide), fun h => (f4.out (upd_of rfl h)), fun h => (f5.out (upd_of rfl h)), fun h => (f6.out (upd_of rfl h)), fun h => (f7.out (upd_of rfl h)), fun h => (f8.out (upd_of rfl h)), fun h => (f9.out (upd_of rfl h)).same 2, fun h => (f10.out (upd_of rfl h)), trivial⟩
    · intro dd aa ww K hc hun hn hI hK
      obtain ⟨blk, y14, y15, y16, y17, y18, y13, y19, y20, y7, y8, ea, hb, hX, f0, f1, f2, f3, f4, f5, f6, f7, f8, f9, f10, _⟩ := hI
      try simp [Region.binds] at hn
      obtain ⟨ahCU, nhCU, chCU, ahCD, nhCD, chCD, ex, hCU, hCD⟩ := f1.out (by first | (simp [hn]; done) | exact hc.reach (f := 8) (by decide +kernel) hn | exact hc.reach (f := 8) (by decide +kernel) hn.1 | exact hc.reach (f := 8) (by decide +kernel) hn.2 | exact hc.reach (f := 8) (by decide +kernel) hn.2.1 | exact hc.reach (f := 8) (by decide +kernel) hn.2.2 | exact hc.reach (f := 8) (by decide +kernel) hn.2.2.1 | exact hc.reach (f := 8) (by decide +kernel) hn.2.2.2)
      subst ex
      have ex := f2.out (by first | (simp [hn]; done) | exact hc.reach (f := 8) (by decide +kernel) hn | exact hc.reach (f := 8) (by decide +kernel) hn.1 | exact hc.reach (f := 8) (by decide +kernel) hn.2 | exact hc.reach (f := 8) (by decide +kernel) hn.2.1 | exact hc.reach (f := 8) (by decide +kernel) hn.2.2 | exact hc.reach (f := 8) (by decide +kernel) hn.2.2.1 | exact hc.reach (f := 8) (by decide +kernel) hn.2.2.2)
      subst ex
      subst ea
      simp only [puts, Act.put, List.setIfInBounds_toArray, List.set_cons_zero, List.set_cons_succ]
      go_simp
      refine hK.out _ _ ?_
      exact ⟨blk, y14, .agg #[.bool (neg (Sc).num), .slice ahCU nhCU chCU, .slice ahCD nhCD chCD], .agg #[.bool (neg q.num), .slice a1 n1 c1, .slice a2 n2 c2], .slice (some ⟨ww.heap.size, 0, none⟩) 2 2, y18, y13, y19, y20, y7, y8, by simp only [puts, Act.put, List.setIfInBounds_toArray, List.set_cons_zero, List.set_cons_succ], below_alloc hb _, hX.past ((Below.refl _ _).alloc (Nat.le_refl _) _) 3 rfl, fun h => (f0.out (upd_of rfl h)), fun h => (f1.out (upd_of rfl h)).past ((Below.refl _ _).alloc (Nat.le_refl _) _), fun h => rfl, fun _ _ => LstV.new hb.size _ _, fun h => (f4.out (upd_of rfl h)).past ((Below.refl _ _).alloc (Nat.le_refl _) _), fun h => (f5.out (upd_of rfl h)), fun h => (f6.out (upd_of rfl h)), fun h => (f7.out (upd_of rfl h)), fun h => (f8.out (upd_of rfl h)), fun h => (f9.out (upd_of rfl h)).past ((Below.refl _ _).alloc (Nat.le_refl _) _) 3, fun h => (f10.out (upd_of rfl h)), trivial⟩
    · intro dd aa ww K hc hun hn hI hK
      obtain ⟨blk, y14, y15, y16, y17, y18, y13, y19, y20, y7, y8, ea, hb, hX, f0, f1, f2, f3, f4, f5, f6, f7, f8, f9, f10, _⟩ := hI
      try simp [Region.binds] at hn
      obtain ⟨ahCU, nhCU, chCU, ahCD, nhCD, chCD, ex, hCU, hCD⟩ := f1.out (by first | (simp [hn]; done) | exact hc.reach (f := 8) (by decide +kernel) hn | exact hc.reach (f := 8) (by decide +kernel) hn.1 | exact hc.reach (f := 8) (by decide +kernel) hn.2 | exact hc.reach (f := 8) (by decide +kernel) hn.2.1 | exact hc.reach (f := 8) (by decide +kernel) hn.2.2 | exact hc.reach (f := 8) (by decide +kernel) hn.2.2.1 | exact hc.reach (f := 8) (by decide +kernel) hn.2.2.2)
      subst ex
      have ex := f2.out (by first | (simp [hn]; done) | exact hc.reach (f := 8) (by decide +kernel) hn | exact hc.reach (f := 8) (by decide +kernel) hn.1 | exact hc.reach (f := 8) (by decide +kernel) hn.2 | exact hc.reach (f := 8) (by decide +kernel) hn.2.1 | exact hc.reach (f := 8) (by decide +kernel) hn.2.2 | exact hc.reach (f := 8) (by decide +kernel) hn.2.2.1 | exact hc.reach (f := 8) (by decide +kernel) hn.2.2.2)
      subst ex
      obtain ⟨G3, ex, hg1, hg2, hg3⟩ := f3.out (by first | (simp [hn]; done) | exact hc.reach (f := 8) (by decide +kernel) hn | exact hc.reach (f := 8) (by decide +kernel) hn.1 | exact hc.reach (f := 8) (by decide +kernel) hn.2 | exact hc.reach (f := 8) (by decide +kernel) hn.2.1 | exact hc.reach (f := 8) (by decide +kernel) hn.2.2 | exact hc.reach (f := 8) (by decide +kernel) hn.2.2.1 | exact hc.reach (f := 8) (by decide +kernel) hn.2.2.2) hun
      subst ex
      have z0 := hg3 0 (by simp [cellsOf])
      have z1 := hg3 1 (by simp [cellsOf])
      have z2 := hg3 2 (by simp [cellsOf])
      have z3 := hg3 3 (by simp [cellsOf])
      have z4 := hg3 4 (by simp [cellsOf])
      have z5 := hg3 5 (by simp [cellsOf])
      simp only [List.flatMap_cons, List.flatMap_nil, cellsOf, List.cons_append, List.nil_append, List.append_nil, List.getElem?_cons_zero, List.getElem?_cons_succ] at z0 z1 z2 z3 z4 z5
      subst ea
      simp only [puts, Act.put, List.setIfInBounds_toArray, List.set_cons_zero, List.set_cons_succ]
      go_simp
      with_reducible refine (mul_two (RatsAt.two hg2 z0 z1 z2 z3 z4 z5 hCU.toNatAt hCD.toNatAt (g1.past hb) (g2.past hb)) LS.out LQ.out).mono ?_
      rintro e w1 ⟨ahXU, nhXU, chXU, ahXD, nhXD, chXD, rfl, hXU, hXD, h1⟩
      rw [HX.out] at hXU hXD ⊢
      refine hK.out _ _ ?_
      exact ⟨blk, y14, .agg #[.bool (neg (Sc).num), .slice ahCU nhCU chCU, .slice ahCD nhCD chCD], .agg #[.bool (neg q.num), .slice a1 n1 c1, .slice a2 n2 c2], .slice (some ⟨G3, 0, none⟩) 2 2, .tuple #[.agg #[.bool (neg (X).num), .slice ahXU nhXU chXU, .slice ahXD nhXD chXD], .int .i64 0], y13, y19, y20, y7, y8, by simp only [puts, Act.put, List.setIfInBounds_toArray, List.set_cons_zero, List.set_cons_succ], below_later hb h1, hX.past h1 4 rfl, fun h => (f0.out (upd_of rfl h)), fun h => (f1.out (upd_of rfl h)).past h1, fun h => rfl, fun _ h2 => absurd h2 (by simp [upd]), fun _ => ⟨_, _, _, _, _, _, rfl, hXU.mono hb.size, hXD.mono hb.size⟩, fun h => absurd (hc.reach (f := 8) (s := 5) (l := 4) (by kernel_rfl) (upd_of rfl h)) (by rw [hun]; decide), fun h => (f6.out (upd_of rfl h)), fun h => (f7.out (upd_of rfl h)), fun h => (f8.out (upd_of rfl h)), fun h => (f9.out (upd_of rfl h)).past h1 4, fun h => (f10.out (upd_of rfl h)), trivial⟩
    · intro dd aa ww K hc hun hn hI hK
      obtain ⟨blk, y14, y15, y16, y17, y18, y13, y19, y20, y7, y8, ea, hb, hX, f0, f1, f2, f3, f4, f5, f6, f7, f8, f9, f10, _⟩ := hI
      try simp [Region.binds] at hn
      obtain ⟨ahXU, nhXU, chXU, ahXD, nhXD, chXD, ex, hXU, hXD⟩ := f4.out (by first | (simp [hn]; done) | exact hc.reach (f := 8) (by decide +kernel) hn | exact hc.reach (f := 8) (by decide +kernel) hn.1 | exact hc.reach (f := 8) (by decide +kernel) hn.2 | exact hc.reach (f := 8) (by decide +kernel) hn.2.1 | exact hc.reach (f := 8) (by decide +kernel) hn.2.2 | exact hc.reach (f := 8) (by decide +kernel) hn.2.2.1 | exact hc.reach (f := 8) (by decide +kernel) hn.2.2.2)
      subst ex
      subst ea
      simp only [puts, Act.put, List.setIfInBounds_toArray, List.set_cons_zero, List.set_cons_succ]
      go_simp
      refine hK.out _ _ ?_
      exact ⟨blk, y14, y15, y16, y17, .tuple #[.agg #[.bool (neg (X).num), .slice ahXU nhXU chXU, .slice ahXD nhXD chXD], .int .i64 0], .tuple #[.agg #[.bool (neg (X).num), .slice ahXU nhXU chXU, .slice ahXD nhXD chXD], .int .i64 0], y19, y20, y7, y8, by simp only [puts, Act.put, List.setIfInBounds_toArray, List.set_cons_zero, List.set_cons_succ], hb, hX.same 5 rfl, fun h => (f0.out (upd_of rfl h)), fun h => (f1.out (upd_of rfl h)), fun h => (f2.out (upd_of rfl h)), fun _ h2 => absurd (show dd 4 = true from (by first | (simp [hn]; done) | exact hc.reach (f := 8) (by decide +kernel) hn | exact hc.reach (f := 8) (by decide +kernel) hn.1 | exact hc.reach (f := 8) (by decide +kernel) hn.2 | exact hc.reach (f := 8) (by decide +kernel) hn.2.1 | exact hc.reach (f := 8) (by decide +kernel) hn.2.2 | exact hc.reach (f := 8) (by decide +kernel) hn.2.2.1 | exact hc.reach (f := 8) (by decide +kernel) hn.2.2.2)) (by rw [upd_off h2]; decide), fun h => (f4.out (upd_of rfl h)), fun _ => rfl, fun h => absurd (hc.reach (f := 8) (s := 6) (l := 5) (by kernel_rfl) (upd_of rfl h)) (by rw [hun]; decide), fun h => absurd (hc.reach (f := 8) (s := 7) (l := 5) (by kernel_rfl) (upd_of rfl h)) (by rw [hun]; decide), fun h => (f8.out (upd_of rfl h)), fun h => (f9.out (upd_of rfl h)).same 5, fun h => (f10.out (upd_of rfl h)), trivial⟩
    · intro dd aa ww K hc hun hn hI hK
      obtain ⟨blk, y14, y15, y16, y17, y18, y13, y19, y20, y7, y8, ea, hb, hX, f0, f1, f2, f3, f4, f5, f6, f7, f8, f9, f10, _⟩ := hI
      try simp [Region.binds] at hn
      obtain ⟨ahXU, nhXU, chXU, ahXD, nhXD, chXD, ex, hXU, hXD⟩ := f4.out (by first | (simp [hn]; done) | exact hc.reach (f := 8) (by decide +kernel) hn | exact hc.reach (f := 8) (by decide +kernel) hn.1 | exact hc.reach (f := 8) (by decide +kernel) hn.2 | exact hc.reach (f := 8) (by decide +kernel) hn.2.1 | exact hc.reach (f := 8) (by decide +kernel) hn.2.2 | exact hc.reach (f := 8) (by decide +kernel) hn.2.2.1 | exact hc.reach (f := 8) (by decide +kernel) hn.2.2.2)
      subst ex
      have ex : y13 = .tuple #[.agg #[.bool (neg (X).num), .slice ahXU nhXU chXU, .slice ahXD nhXD chXD], .int .i64 0] := f5.out (by first | (simp [hn]; done) | exact hc.reach (f := 8) (by decide +kernel) hn | exact hc.reach (f := 8) (by decide +kernel) hn.1 | exact hc.reach (f := 8) (by decide +kernel) hn.2 | exact hc.reach (f := 8) (by decide +kernel) hn.2.1 | exact hc.reach (f := 8) (by decide +kernel) hn.2.2 | exact hc.reach (f := 8) (by decide +kernel) hn.2.2.1 | exact hc.reach (f := 8) (by decide +kernel) hn.2.2.2)
      subst ex
      subst ea
      simp only [puts, Act.put, List.setIfInBounds_toArray, List.set_cons_zero, List.set_cons_succ]
      go_simp
      refine hK.out _ _ ?_
      exact ⟨blk, y14, y15, y16, y17, .tuple #[.agg #[.bool (neg (X).num), .slice ahXU nhXU chXU, .slice ahXD nhXD chXD], .int .i64 0], .tuple #[.agg #[.bool (neg (X).num), .slice ahXU nhXU chXU, .slice ahXD nhXD chXD], .int .i64 0], .agg #[.bool (neg (X).num), .slice ahXU nhXU chXU, .slice ahXD nhXD chXD], y20, y7, y8, by simp only [puts, Act.put, List.setIfInBounds_toArray, List.set_cons_zero, List.set_cons_succ], hb, hX.same 6 rfl, fun h => (f0.out (upd_of rfl h)), fun h => (f1.out (upd_of rfl h)), fun h => (f2.out (upd_of rfl h)), fun _ h2 => absurd (show dd 4 = true from (by first | (simp [hn]; done) | exact hc.reach (f := 8) (by decide +kernel) hn | exact hc.reach (f := 8) (by decide +kernel) hn.1 | exact hc.reach (f := 8) (by decide +kernel) hn.2 | exact hc.reach (f := 8) (by decide +kernel) hn.2.1 | exact hc.reach (f := 8) (by decide +kernel) hn.2.2 | exact hc.reach (f := 8) (by decide +kernel) hn.2.2.1 | exact hc.reach (f := 8) (by decide +kernel) hn.2.2.2)) (by rw [upd_off h2]; decide), fun h => (f4.out (upd_of rfl h)), fun h => rfl, fun _ => rfl, fun h => (f7.out (upd_of rfl h)), fun h => (f8.out (upd_of rfl h)), fun h => absurd (HoldsV.vp (f9.out (upd_of rfl h))) (by rw [hun]; decide), fun h => (f10.out (upd_of rfl h)), trivial⟩
    · intro dd aa ww K hc hun hn hI hK
      obtain ⟨blk, y14, y15, y16, y17, y18, y13, y19, y20, y7, y8, ea, hb, hX, f0, f1, f2, f3, f4, f5, f6, f7, f8, f9, f10, _⟩ := hI
      try simp [Region.binds] at hn
      obtain ⟨ahXU, nhXU, chXU, ahXD, nhXD, chXD, ex, hXU, hXD⟩ := f4.out (by first | (simp [hn]; done) | exact hc.reach (f := 8) (by decide +kernel) hn | exact hc.reach (f := 8) (by decide +kernel) hn.1 | exact hc.reach (f := 8) (by decide +kernel) hn.2 | exact hc.reach (f := 8) (by decide +kernel) hn.2.1 | exact hc.reach (f := 8) (by decide +kernel) hn.2.2 | exact hc.reach (f := 8) (by decide +kernel) hn.2.2.1 | exact hc.reach (f := 8) (by decide +kernel) hn.2.2.2)
      subst ex
      have ex : y13 = .tuple #[.agg #[.bool (neg (X).num), .slice ahXU nhXU chXU, .slice ahXD nhXD chXD], .int .i64 0] := f5.out (by first | (simp [hn]; done) | exact hc.reach (f := 8) (by decide +kernel) hn | exact hc.reach (f := 8) (by decide +kernel) hn.1 | exact hc.reach (f := 8) (by decide +kernel) hn.2 | exact hc.reach (f := 8) (by decide +kernel) hn.2.1 | exact hc.reach (f := 8) (by decide +kernel) hn.2.2 | exact hc.reach (f := 8) (by decide +kernel) hn.2.2.1 | exact hc.reach (f := 8) (by decide +kernel) hn.2.2.2)
      subst ex
      subst ea
      simp only [puts, Act.put, List.setIfInBounds_toArray, List.set_cons_zero, List.set_cons_succ]
      go_simp
      refine hK.out _ _ ?_
      exact ⟨blk, y14, y15, y16, y17, .tuple #[.agg #[.bool (neg (X).num), .slice ahXU nhXU chXU, .slice ahXD nhXD chXD], .int .i64 0], .tuple #[.agg #[.bool (neg (X).num), .slice ahXU nhXU chXU, .slice ahXD nhXD chXD], .int .i64 0], y19, .int .i64 0, y7, y8, by simp only [puts, Act.put, List.setIfInBounds_toArray, List.set_cons_zero, List.set_cons_succ], hb, hX.same 7 rfl, fun h => (f0.out (upd_of rfl h)), fun h => (f1.out (upd_of rfl h)), fun h => (f2.out (upd_of rfl h)), fun _ h2 => absurd (show dd 4 = true from (by first | (simp [hn]; done) | exact hc.reach (f := 8) (by decide +kernel) hn | exact hc.reach (f := 8) (by decide +kernel) hn.1 | exact hc.reach (f := 8) (by decide +kernel) hn.2 | exact hc.reach (f := 8) (by decide +kernel) hn.2.1 | exact hc.reach (f := 8) (by decide +kernel) hn.2.2 | exact hc.reach (f := 8) (by decide +kernel) hn.2.2.1 | exact hc.reach (f := 8) (by decide +kernel) hn.2.2.2)) (by rw [upd_off h2]; decide), fun h => (f4.out (upd_of rfl h)), fun h => rfl, fun h => (f6.out (upd_of rfl h)), fun _ => rfl, fun h => (f8.out (upd_of rfl h)), fun h => (f9.out (upd_of rfl h)).same 7, fun h => absurd (hc.reach (f := 8) (s := 10) (l := 7) (by kernel_rfl) (upd_of rfl h)) (by rw [hun]; decide), trivial⟩
    · intro dd aa ww K hc hun hn hI hK
      obtain ⟨blk, y14, y15, y16, y17, y18, y13, y19, y20, y7, y8, ea, hb, hX, f0, f1, f2, f3, f4, f5, f6, f7, f8, f9, f10, _⟩ := hI
      try simp [Region.binds] at hn
      subst ea
      simp only [puts, Act.put, List.setIfInBounds_toArray, List.set_cons_zero, List.set_cons_succ]
      go_simp
      refine hK.out _ _ ?_
      exact ⟨setB blk 8 ww.heap.size, y14, y15, y16, y17, y18, y13, y19, y20, .pointer (some ⟨ww.heap.size, 0, none⟩), y8, by simp only [puts, Act.put, List.setIfInBounds_toArray, List.set_cons_zero, List.set_cons_succ], below_alloc hb _, hX.new hb.size 8 #[.bool false, .slice none 0 0, .slice none 0 0] _ rfl (by simp [notU_bool, notU_slice, notU_i64]), fun h => (f0.out (upd_of rfl h)), fun h => (f1.out (upd_of rfl h)).past ((Below.refl _ _).alloc (Nat.le_refl _) _), fun h => (f2.out (upd_of rfl h)), fun h h2 => ((f3.out (upd_of rfl h)) (upd_off h2)).past ((Below.refl _ _).alloc (Nat.le_refl _) _), fun h => (f4.out (upd_of rfl h)).past ((Below.refl _ _).alloc (Nat.le_refl _) _), fun h => (f5.out (upd_of rfl h)), fun h => (f6.out (upd_of rfl h)), fun h => (f7.out (upd_of rfl h)), fun _ => rfl, fun h => absurd (HoldsV.up (f9.out (upd_of rfl h))) (by rw [hun]; decide), fun h => (f10.out (upd_of rfl h)), trivial⟩
    · intro dd aa ww K hc hun hn hI hK
      obtain ⟨blk, y14, y15, y16, y17, y18, y13, y19, y20, y7, y8, ea, hb, hX, f0, f1, f2, f3, f4, f5, f6, f7, f8, f9, f10, _⟩ := hI
      try simp [Region.binds] at hn
      have ex := f8.out (by first | (simp [hn]; done) | exact hc.reach (f := 8) (by decide +kernel) hn | exact hc.reach (f := 8) (by decide +kernel) hn.1 | exact hc.reach (f := 8) (by decide +kernel) hn.2 | exact hc.reach (f := 8) (by decide +kernel) hn.2.1 | exact hc.reach (f := 8) (by decide +kernel) hn.2.2 | exact hc.reach (f := 8) (by decide +kernel) hn.2.2.1 | exact hc.reach (f := 8) (by decide +kernel) hn.2.2.2)
      subst ex
      obtain ⟨ahXU, nhXU, chXU, ahXD, nhXD, chXD, ex, hXU, hXD⟩ := f4.out (by first | (simp [hn]; done) | exact hc.reach (f := 8) (by decide +kernel) hn | exact hc.reach (f := 8) (by decide +kernel) hn.1 | exact hc.reach (f := 8) (by decide +kernel) hn.2 | exact hc.reach (f := 8) (by decide +kernel) hn.2.1 | exact hc.reach (f := 8) (by decide +kernel) hn.2.2 | exact hc.reach (f := 8) (by decide +kernel) hn.2.2.1 | exact hc.reach (f := 8) (by decide +kernel) hn.2.2.2)
      subst ex
      have ex : y13 = .tuple #[.agg #[.bool (neg (X).num), .slice ahXU nhXU chXU, .slice ahXD nhXD chXD], .int .i64 0] := f5.out (by first | (simp [hn]; done) | exact hc.reach (f := 8) (by decide +kernel) hn | exact hc.reach (f := 8) (by decide +kernel) hn.1 | exact hc.reach (f := 8) (by decide +kernel) hn.2 | exact hc.reach (f := 8) (by decide +kernel) hn.2.1 | exact hc.reach (f := 8) (by decide +kernel) hn.2.2 | exact hc.reach (f := 8) (by decide +kernel) hn.2.2.1 | exact hc.reach (f := 8) (by decide +kernel) hn.2.2.2)
      subst ex
      have ex : y19 = .agg #[.bool (neg (X).num), .slice ahXU nhXU chXU, .slice ahXD nhXD chXD] := f6.out (by first | (simp [hn]; done) | exact hc.reach (f := 8) (by decide +kernel) hn | exact hc.reach (f := 8) (by decide +kernel) hn.1 | exact hc.reach (f := 8) (by decide +kernel) hn.2 | exact hc.reach (f := 8) (by decide +kernel) hn.2.1 | exact hc.reach (f := 8) (by decide +kernel) hn.2.2 | exact hc.reach (f := 8) (by decide +kernel) hn.2.2.1 | exact hc.reach (f := 8) (by decide +kernel) hn.2.2.2)
      subst ex
      have hd8 : dd 8 = true := by simp [hn]
      have hv6 : dd 6 = true := by simp [hn]
      obtain ⟨x1, x2, x3⟩ := hX.at_ (8, 3) (by simp) hd8
      obtain ⟨v0, v1, v2, z0, z1, z2, z3, z4, z5, _, _, _⟩ := x3.three
      have hv : ∀ v ∈ ([.bool (neg (X).num), .slice ahXU nhXU chXU, .slice ahXD nhXD chXD] : List Value), notU v := by simp [notU_bool, notU_slice, notU_i64]
      subst ea
      simp only [puts, Act.put, List.setIfInBounds_toArray, List.set_cons_zero, List.set_cons_succ]
      go_simp
      refine hK.out _ _ ?_
      exact ⟨blk, y14, y15, y16, y17, .tuple #[.agg #[.bool (neg (X).num), .slice ahXU nhXU chXU, .slice ahXD nhXD chXD], .int .i64 0], .tuple #[.agg #[.bool (neg (X).num), .slice ahXU nhXU chXU, .slice ahXD nhXD chXD], .int .i64 0], .agg #[.bool (neg (X).num), .slice ahXU nhXU chXU, .slice ahXD nhXD chXD], y20, .pointer (some ⟨blk 8, 0, none⟩), y8, by simp only [puts, Act.put, List.setIfInBounds_toArray, List.set_cons_zero, List.set_cons_succ], hb.trans (below_setCells _ _ x1 [.bool (neg (X).num), .slice ahXU nhXU chXU, .slice ahXD nhXD chXD] 0 _), (hX.sets [.bool (neg (X).num), .slice ahXU nhXU chXU, .slice ahXD nhXD chXD] _ 0 _ hv).same 9 rfl, fun h => (f0.out (upd_of rfl h)), fun h => ((f1.out (upd_of rfl h)).sets [.bool (neg (X).num), .slice ahXU nhXU chXU, .slice ahXD nhXD chXD] x3 (by simp) hv), fun h => (f2.out (upd_of rfl h)), fun _ h2 => absurd (show dd 4 = true from (by first | (simp [hn]; done) | exact hc.reach (f := 8) (by decide +kernel) hn | exact hc.reach (f := 8) (by decide +kernel) hn.1 | exact hc.reach (f := 8) (by decide +kernel) hn.2 | exact hc.reach (f := 8) (by decide +kernel) hn.2.1 | exact hc.reach (f := 8) (by decide +kernel) hn.2.2 | exact hc.reach (f := 8) (by decide +kernel) hn.2.2.1 | exact hc.reach (f := 8) (by decide +kernel) hn.2.2.2)) (by rw [upd_off h2]; decide), fun h => ((f4.out (upd_of rfl h)).sets [.bool (neg (X).num), .slice ahXU nhXU chXU, .slice ahXD nhXD chXD] x3 (by simp) hv), fun h => rfl, fun h => rfl, fun h => (f7.out (upd_of rfl h)), fun h => rfl, fun _ => (HoldsV.new hd8 hv6 x2 x3 [.bool (neg (X).num), .slice ahXU nhXU chXU, .slice ahXD nhXD chXD] (by simp)).same 9, fun h => (f10.out (upd_of rfl h)), trivial⟩
    · intro dd aa ww K hc hun hn hI hK
      obtain ⟨blk, y14, y15, y16, y17, y18, y13, y19, y20, y7, y8, ea, hb, hX, f0, f1, f2, f3, f4, f5, f6, f7, f8, f9, f10, _⟩ := hI
      try simp [Region.binds] at hn
      obtain ⟨ahXU, nhXU, chXU, ahXD, nhXD, chXD, ex, hXU, hXD⟩ := f4.out (by first | (simp [hn]; done) | exact hc.reach (f := 8) (by decide +kernel) hn | exact hc.reach (f := 8) (by decide +kernel) hn.1 | exact hc.reach (f := 8) (by decide +kernel) hn.2 | exact hc.reach (f := 8) (by decide +kernel) hn.2.1 | exact hc.reach (f := 8) (by decide +kernel) hn.2.2 | exact hc.reach (f := 8) (by decide +kernel) hn.2.2.1 | exact hc.reach (f := 8) (by decide +kernel) hn.2.2.2)
      subst ex
      have ex : y13 = .tuple #[.agg #[.bool (neg (X).num), .slice ahXU nhXU chXU, .slice ahXD nhXD chXD], .int .i64 0] := f5.out (by first | (simp [hn]; done) | exact hc.reach (f := 8) (by decide +kernel) hn | exact hc.reach (f := 8) (by decide +kernel) hn.1 | exact hc.reach (f := 8) (by decide +kernel) hn.2 | exact hc.reach (f := 8) (by decide +kernel) hn.2.1 | exact hc.reach (f := 8) (by decide +kernel) hn.2.2 | exact hc.reach (f := 8) (by decide +kernel) hn.2.2.1 | exact hc.reach (f := 8) (by decide +kernel) hn.2.2.2)
      subst ex
      have ex : y20 = .int .i64 0 := f7.out (by first | (simp [hn]; done) | exact hc.reach (f := 8) (by decide +kernel) hn | exact hc.reach (f := 8) (by decide +kernel) hn.1 | exact hc.reach (f := 8) (by decide +kernel) hn.2 | exact hc.reach (f := 8) (by decide +kernel) hn.2.1 | exact hc.reach (f := 8) (by decide +kernel) hn.2.2 | exact hc.reach (f := 8) (by decide +kernel) hn.2.2.1 | exact hc.reach (f := 8) (by decide +kernel) hn.2.2.2)
      subst ex
      subst ea
      simp only [puts, Act.put, List.setIfInBounds_toArray, List.set_cons_zero, List.set_cons_succ]
      go_simp
      refine hK.out _ _ ?_
      exact ⟨blk, y14, y15, y16, y17, .tuple #[.agg #[.bool (neg (X).num), .slice ahXU nhXU chXU, .slice ahXD nhXD chXD], .int .i64 0], .tuple #[.agg #[.bool (neg (X).num), .slice ahXU nhXU chXU, .slice ahXD nhXD chXD], .int .i64 0], y19, .int .i64 0, y7, .int .i64 0, by simp only [puts, Act.put, List.setIfInBounds_toArray, List.set_cons_zero, List.set_cons_succ], hb, hX.same 10 rfl, fun h => (f0.out (upd_of rfl h)), fun h => (f1.out (upd_of rfl h)), fun h => (f2.out (upd_of rfl h)), fun _ h2 => absurd (show dd 4 = true from (by first | (simp [hn]; done) | exact hc.reach (f := 8) (by decide +kernel) hn | exact hc.reach (f := 8) (by decide +kernel) hn.1 | exact hc.reach (f := 8) (by decide +kernel) hn.2 | exact hc.reach (f := 8) (by decide +kernel) hn.2.1 | exact hc.reach (f := 8) (by decide +kernel) hn.2.2 | exact hc.reach (f := 8) (by decide +kernel) hn.2.2.1 | exact hc.reach (f := 8) (by decide +kernel) hn.2.2.2)) (by rw [upd_off h2]; decide), fun h => (f4.out (upd_of rfl h)), fun h => rfl, fun h => (f6.out (upd_of rfl h)), fun h => rfl, fun h => (f8.out (upd_of rfl h)), fun h => (f9.out (upd_of rfl h)).same 10, fun _ => rfl, trivial⟩
  intro dd aa w2 hd hI
  obtain ⟨blk, y14, y15, y16, y17, y18, y13, y19, y20, y7, y8, ea, hb, hX, f0, f1, f2, f3, f4, f5, f6, f7, f8, f9, f10, _⟩ := hI
  have ex := f0.out (hd 0 (by simp))
  subst ex
  obtain ⟨ahCU, nhCU, chCU, ahCD, nhCD, chCD, ex, hCU, hCD⟩ := f1.out (hd 1 (by simp))
  subst ex
  have ex := f2.out (hd 2 (by simp))
  subst ex
  obtain ⟨ahXU, nhXU, chXU, ahXD, nhXD, chXD, ex, hXU, hXD⟩ := f4.out (hd 4 (by simp))
  subst ex
  have ex : y13 = .tuple #[.agg #[.bool (neg (X).num), .slice ahXU nhXU chXU, .slice ahXD nhXD chXD], .int .i64 0] := f5.out (hd 5 (by simp))
  subst ex
  have ex : y19 = .agg #[.bool (neg (X).num), .slice ahXU nhXU chXU, .slice ahXD nhXD chXD] := f6.out (hd 6 (by simp))
  subst ex
  have ex : y20 = .int .i64 0 := f7.out (hd 7 (by simp))
  subst ex
  have ex := f8.out (hd 8 (by simp))
  subst ex
  obtain ⟨vs9, e, h9⟩ := f9.out (hd 9 (by simp))
  cases e
  have ex : y8 = .int .i64 0 := f10.out (hd 10 (by simp))
  subst ex
  have lx := h9.lt
  have qx0 := h9.at_ 0 (by simp)
  simp only [List.getElem?_cons_zero, List.getElem?_cons_succ] at qx0
  have qx1 := h9.at_ 1 (by simp)
  simp only [List.getElem?_cons_zero, List.getElem?_cons_succ] at qx1
  have qx2 := h9.at_ 2 (by simp)
  simp only [List.getElem?_cons_zero, List.getElem?_cons_succ] at qx2
  generalize blk 8 = Bx at *
  subst ea
  simp only [puts, Act.put, List.setIfInBounds_toArray, List.set_cons_zero, List.set_cons_succ]
  have g1 := g1.past hb
  have g2 := g2.past hb
  have qs0 := bq hb ls qs0; have qs1 := bq hb ls qs1; have qs2 := bq hb ls qs2
  have ls := bl hb ls
  have hB := below_later hB hb
  clear hX
  clear hb hd
  go_wp2_with fail
  refine wp_region_invA (by kernel_rfl) rfl (by kernel_rfl) (fun A0 V0 dd aa ww => ∃ (blk : Nat → Nat) (y22 y23 y24 y25 y21 y26 y27 y9 y10 : Value), aa = puts A0 [(22, y22), (23, y23), (24, y24), (25, y25), (21, y21), (26, y26), (27, y27), (9, y9), (10, y10)] ∧ Below V0.heap.size V0 ww ∧ Boxes [(7, 3)] V0.heap.size dd blk ww ∧ Shut (dd 0 = true → y22 = .agg #[.bool (neg (X).num), .slice ahXU nhXU chXU, .slice ahXD nhXD chXD]) ∧ Shut (dd 1 = true → y23 = .int .i64 wt) ∧ Shut (dd 2 = true → RatV V0.heap.size (Wq) y24 ww) ∧ Shut (dd 3 = true → OkV V0.heap.size (D) y25 ww) ∧ Shut (dd 4 = true → y21 = y25) ∧ Shut (dd 5 = true → y26 = part 0 y21) ∧ Shut (dd 6 = true → y27 = part 1 y21) ∧ Shut (dd 7 = true → y9 = .pointer (some ⟨blk 7, 0, none⟩)) ∧ Shut (dd 8 = true → HoldsV dd 7 5 (blk 7) y26 ww) ∧ Shut (dd 9 = true → y10 = y27) ∧ True) ?_ ?_ ?_
  · exact ⟨fun _ => 0, _, _, _, _, _, _, _, _, _, puts_self _ [22, 23, 24, 25, 21, 26, 27, 9, 10], (Below.refl _ _).drew, Boxes.none _ _ _ _, fun h => (by cases h), fun h => (by cases h), fun h => (by cases h), fun h => (by cases h), fun h => (by cases h), fun h => (by cases h), fun h => (by cases h), fun h => (by cases h), fun h => (by cases h), fun h => (by cases h), trivial⟩
  · refine Steps.cons ?_ (Steps.cons ?_ (Steps.cons ?_ (Steps.cons ?_ (Steps.cons ?_ (Steps.cons ?_ (Steps.cons ?_ (Steps.cons ?_ (Steps.cons ?_ (Steps.cons ?_ (Steps.nil))))))))))
    · intro dd aa ww K hc hun hn hI hK
      obtain ⟨blk, y22, y23, y24, y25, y21, y26, y27, y9, y10, ea, hb, hX, f0, f1, f2, f3, f4, f5, f6, f7, f8, f9, _⟩ := hI
      try simp [Region.binds] at hn
      have e0 := (hb.cell (p := ⟨Bx, 0, none⟩) lx).trans qx0
      have e1 := (hb.cell (p := ⟨Bx, 1, none⟩) lx).trans qx1
      have e2 := (hb.cell (p := ⟨Bx, 2, none⟩) lx).trans qx2
      subst ea
      simp only [puts, Act.put, List.setIfInBounds_toArray, List.set_cons_zero, List.set_cons_succ]
      go_simp
      refine hK.out _ _ ?_
      exact ⟨blk, .agg #[.bool (neg (X).num), .slice ahXU nhXU chXU, .slice ahXD nhXD chXD], y23, y24, y25, y21, y26, y27, y9, y10, by simp only [puts, Act.put, List.setIfInBounds_toArray, List.set_cons_zero, List.set_cons_succ], hb, hX.same 0 rfl, fun _ => rfl, fun h => (f1.out (upd_of rfl h)), fun h => (f2.out (upd_of rfl h)), fun h => (f3.out (upd_of rfl h)), fun h => (f4.out (upd_of rfl h)), fun h => (f5.out (upd_of rfl h)), fun h => (f6.out (upd_of rfl h)), fun h => (f7.out (upd_of rfl h)), fun h => (f8.out (upd_of rfl h)).same 0, fun h => (f9.out (upd_of rfl h)), trivial⟩
    · intro dd aa ww K hc hun hn hI hK
      obtain ⟨blk, y22, y23, y24, y25, y21, y26, y27, y9, y10, ea, hb, hX, f0, f1, f2, f3, f4, f5, f6, f7, f8, f9, _⟩ := hI
      try simp [Region.binds] at hn
      subst ea
      simp only [puts, Act.put, List.setIfInBounds_toArray, List.set_cons_zero, List.set_cons_succ]
      go_simp
      refine hK.out _ _ ?_
      exact ⟨blk, y22, .int .i64 wt, y24, y25, y21, y26, y27, y9, y10, by simp only [puts, Act.put, List.setIfInBounds_toArray, List.set_cons_zero, List.set_cons_succ], hb, hX.same 1 rfl, fun h => (f0.out (upd_of rfl h)), fun _ => rfl, fun h => (f2.out (upd_of rfl h)), fun h => (f3.out (upd_of rfl h)), fun h => (f4.out (upd_of rfl h)), fun h => (f5.out (upd_of rfl h)), fun h => (f6.out (upd_of rfl h)), fun h => (f7.out (upd_of rfl h)), fun h => (f8.out (upd_of rfl h)).same 1, fun h => (f9.out (upd_of rfl h)), trivial⟩
    · intro dd aa ww K hc hun hn hI hK
      obtain ⟨blk, y22, y23, y24, y25, y21, y26, y27, y9, y10, ea, hb, hX, f0, f1, f2, f3, f4, f5, f6, f7, f8, f9, _⟩ := hI
      try simp [Region.binds] at hn
      have ex := f1.out (by first | (simp [hn]; done) | exact hc.reach (f := 8) (by decide +kernel) hn | exact hc.reach (f := 8) (by decide +kernel) hn.1 | exact hc.reach (f := 8) (by decide +kernel) hn.2 | exact hc.reach (f := 8) (by decide +kernel) hn.2.1 | exact hc.reach (f := 8) (by decide +kernel) hn.2.2 | exact hc.reach (f := 8) (by decide +kernel) hn.2.2.1 | exact hc.reach (f := 8) (by decide +kernel) hn.2.2.2)
      subst ex
      subst ea
      simp only [puts, Act.put, List.setIfInBounds_toArray, List.set_cons_zero, List.set_cons_succ]
      go_simp
      with_reducible refine (part13_one wt _ HWT.out).mono ?_
      rintro e w1 ⟨ahWU, nhWU, chWU, ahWD, nhWD, chWD, rfl, hWU, hWD, h1⟩
      rw [HWQ.out] at hWU hWD ⊢
      refine hK.out _ _ ?_
      exact ⟨blk, y22, .int .i64 wt, .agg #[.bool (neg (Wq).num), .slice ahWU nhWU chWU, .slice ahWD nhWD chWD], y25, y21, y26, y27, y9, y10, by simp only [puts, Act.put, List.setIfInBounds_toArray, List.set_cons_zero, List.set_cons_succ], below_later hb h1, hX.past h1 2 rfl, fun h => (f0.out (upd_of rfl h)), fun h => rfl, fun _ => ⟨_, _, _, _, _, _, rfl, hWU.mono hb.size, hWD.mono hb.size⟩, fun h => (f3.out (upd_of rfl h)).past h1, fun h => (f4.out (upd_of rfl h)), fun h => (f5.out (upd_of rfl h)), fun h => (f6.out (upd_of rfl h)), fun h => (f7.out (upd_of rfl h)), fun h => (f8.out (upd_of rfl h)).past h1 2, fun h => (f9.out (upd_of rfl h)), trivial⟩
    · intro dd aa ww K hc hun hn hI hK
      obtain ⟨blk, y22, y23, y24, y25, y21, y26, y27, y9, y10, ea, hb, hX, f0, f1, f2, f3, f4, f5, f6, f7, f8, f9, _⟩ := hI
      try simp [Region.binds] at hn
      have ex := f0.out (by first | (simp [hn]; done) | exact hc.reach (f := 8) (by decide +kernel) hn | exact hc.reach (f := 8) (by decide +kernel) hn.1 | exact hc.reach (f := 8) (by decide +kernel) hn.2 | exact hc.reach (f := 8) (by decide +kernel) hn.2.1 | exact hc.reach (f := 8) (by decide +kernel) hn.2.2 | exact hc.reach (f := 8) (by decide +kernel) hn.2.2.1 | exact hc.reach (f := 8) (by decide +kernel) hn.2.2.2)
      subst ex
      obtain ⟨ahWU, nhWU, chWU, ahWD, nhWD, chWD, ex, hWU, hWD⟩ := f2.out (by first | (simp [hn]; done) | exact hc.reach (f := 8) (by decide +kernel) hn | exact hc.reach (f := 8) (by decide +kernel) hn.1 | exact hc.reach (f := 8) (by decide +kernel) hn.2 | exact hc.reach (f := 8) (by decide +kernel) hn.2.1 | exact hc.reach (f := 8) (by decide +kernel) hn.2.2 | exact hc.reach (f := 8) (by decide +kernel) hn.2.2.1 | exact hc.reach (f := 8) (by decide +kernel) hn.2.2.2)
      subst ex
      subst ea
      simp only [puts, Act.put, List.setIfInBounds_toArray, List.set_cons_zero, List.set_cons_succ]
      go_simp
      with_reducible refine (n_sub_rat (hXU.past hb).toNatAt (hXD.past hb).toNatAt hWU.toNatAt hWD.toNatAt LX.out LW.out).mono ?_
      rintro e w1 ⟨ahDU, nhDU, chDU, ahDD, nhDD, chDD, rfl, hDU, hDD, h1⟩
      rw [HD.out] at hDU hDD ⊢
      refine hK.out _ _ ?_
      exact ⟨blk, .agg #[.bool (neg (X).num), .slice ahXU nhXU chXU, .slice ahXD nhXD chXD], y23, .agg #[.bool (neg (Wq).num), .slice ahWU nhWU chWU, .slice ahWD nhWD chWD], .tuple #[.agg #[.bool (neg (D).num), .slice ahDU nhDU chDU, .slice ahDD nhDD chDD], .int .i64 0], y21, y26, y27, y9, y10, by simp only [puts, Act.put, List.setIfInBounds_toArray, List.set_cons_zero, List.set_cons_succ], below_later hb h1, hX.past h1 3 rfl, fun h => rfl, fun h => (f1.out (upd_of rfl h)), fun h => (f2.out (upd_of rfl h)).past h1, fun _ => ⟨_, _, _, _, _, _, rfl, hDU.mono hb.size, hDD.mono hb.size⟩, fun h => absurd (hc.reach (f := 8) (s := 4) (l := 3) (by kernel_rfl) (upd_of rfl h)) (by rw [hun]; decide), fun h => (f5.out (upd_of rfl h)), fun h => (f6.out (upd_of rfl h)), fun h => (f7.out (upd_of rfl h)), fun h => (f8.out (upd_of rfl h)).past h1 3, fun h => (f9.out (upd_of rfl h)), trivial⟩
    · intro dd aa ww K hc hun hn hI hK
      obtain ⟨blk, y22, y23, y24, y25, y21, y26, y27, y9, y10, ea, hb, hX, f0, f1, f2, f3, f4, f5, f6, f7, f8, f9, _⟩ := hI
      try simp [Region.binds] at hn
      obtain ⟨ahDU, nhDU, chDU, ahDD, nhDD, chDD, ex, hDU, hDD⟩ := f3.out (by first | (simp [hn]; done) | exact hc.reach (f := 8) (by decide +kernel) hn | exact hc.reach (f := 8) (by decide +kernel) hn.1 | exact hc.reach (f := 8) (by decide +kernel) hn.2 | exact hc.reach (f := 8) (by decide +kernel) hn.2.1 | exact hc.reach (f := 8) (by decide +kernel) hn.2.2 | exact hc.reach (f := 8) (by decide +kernel) hn.2.2.1 | exact hc.reach (f := 8) (by decide +kernel) hn.2.2.2)
      subst ex
      subst ea
      simp only [puts, Act.put, List.setIfInBounds_toArray, List.set_cons_zero, List.set_cons_succ]
      go_simp
      refine hK.out _ _ ?_
      exact ⟨blk, y22, y23, y24, .tuple #[.agg #[.bool (neg (D).num), .slice ahDU nhDU chDU, .slice ahDD nhDD chDD], .int .i64 0], .tuple #[.agg #[.bool (neg (D).num), .slice ahDU nhDU chDU, .slice ahDD nhDD chDD], .int .i64 0], y26, y27, y9, y10, by simp only [puts, Act.put, List.setIfInBounds_toArray, List.set_cons_zero, List.set_cons_succ], hb, hX.same 4 rfl, fun h => (f0.out (upd_of rfl h)), fun h => (f1.out (upd_of rfl h)), fun h => (f2.out (upd_of rfl h)), fun h => (f3.out (upd_of rfl h)), fun _ => rfl, fun h => absurd (hc.reach (f := 8) (s := 5) (l := 4) (by kernel_rfl) (upd_of rfl h)) (by rw [hun]; decide), fun h => absurd (hc.reach (f := 8) (s := 6) (l := 4) (by kernel_rfl) (upd_of rfl h)) (by rw [hun]; decide), fun h => (f7.out (upd_of rfl h)), fun h => (f8.out (upd_of rfl h)).same 4, fun h => (f9.out (upd_of rfl h)), trivial⟩
    · intro dd aa ww K hc hun hn hI hK
      obtain ⟨blk, y22, y23, y24, y25, y21, y26, y27, y9, y10, ea, hb, hX, f0, f1, f2, f3, f4, f5, f6, f7, f8, f9, _⟩ := hI
      try simp [Region.binds] at hn
      obtain ⟨ahDU, nhDU, chDU, ahDD, nhDD, chDD, ex, hDU, hDD⟩ := f3.out (by first | (simp [hn]; done) | exact hc.reach (f := 8) (by decide +kernel) hn | exact hc.reach (f := 8) (by decide +kernel) hn.1 | exact hc.reach (f := 8) (by decide +kernel) hn.2 | exact hc.reach (f := 8) (by decide +kernel) hn.2.1 | exact hc.reach (f := 8) (by decide +kernel) hn.2.2 | exact hc.reach (f := 8) (by decide +kernel) hn.2.2.1 | exact hc.reach (f := 8) (by decide +kernel) hn.2.2.2)
      subst ex
      have ex : y21 = .tuple #[.agg #[.bool (neg (D).num), .slice ahDU nhDU chDU, .slice ahDD nhDD chDD], .int .i64 0] := f4.out (by first | (simp [hn]; done) | exact hc.reach (f := 8) (by decide +kernel) hn | exact hc.reach (f := 8) (by decide +kernel) hn.1 | exact hc.reach (f := 8) (by decide +kernel) hn.2 | exact hc.reach (f := 8) (by decide +kernel) hn.2.1 | exact hc.reach (f := 8) (by decide +kernel) hn.2.2 | exact hc.reach (f := 8) (by decide +kernel) hn.2.2.1 | exact hc.reach (f := 8) (by decide +kernel) hn.2.2.2)
      subst ex
      subst ea
      simp only [puts, Act.put, List.setIfInBounds_toArray, List.set_cons_zero, List.set_cons_succ]
      go_simp
      refine hK.out _ _ ?_
      exact ⟨blk, y22, y23, y24, .tuple #[.agg #[.bool (neg (D).num), .slice ahDU nhDU chDU, .slice ahDD nhDD chDD], .int .i64 0], .tuple #[.agg #[.bool (neg (D).num), .slice ahDU nhDU chDU, .slice ahDD nhDD chDD], .int .i64 0], .agg #[.bool (neg (D).num), .slice ahDU nhDU chDU, .slice ahDD nhDD chDD], y27, y9, y10, by simp only [puts, Act.put, List.setIfInBounds_toArray, List.set_cons_zero, List.set_cons_succ], hb, hX.same 5 rfl, fun h => (f0.out (upd_of rfl h)), fun h => (f1.out (upd_of rfl h)), fun h => (f2.out (upd_of rfl h)), fun h => (f3.out (upd_of rfl h)), fun h => rfl, fun _ => rfl, fun h => (f6.out (upd_of rfl h)), fun h => (f7.out (upd_of rfl h)), fun h => absurd (HoldsV.vp (f8.out (upd_of rfl h))) (by rw [hun]; decide), fun h => (f9.out (upd_of rfl h)), trivial⟩
    · intro dd aa ww K hc hun hn hI hK
      obtain ⟨blk, y22, y23, y24, y25, y21, y26, y27, y9, y10, ea, hb, hX, f0, f1, f2, f3, f4, f5, f6, f7, f8, f9, _⟩ := hI
      try simp [Region.binds] at hn
      obtain ⟨ahDU, nhDU, chDU, ahDD, nhDD, chDD, ex, hDU, hDD⟩ := f3.out (by first | (simp [hn]; done) | exact hc.reach (f := 8) (by decide +kernel) hn | exact hc.reach (f := 8) (by decide +kernel) hn.1 | exact hc.reach (f := 8) (by decide +kernel) hn.2 | exact hc.reach (f := 8) (by decide +kernel) hn.2.1 | exact hc.reach (f := 8) (by decide +kernel) hn.2.2 | exact hc.reach (f := 8) (by decide +kernel) hn.2.2.1 | exact hc.reach (f := 8) (by decide +kernel) hn.2.2.2)
      subst ex
      have ex : y21 = .tuple #[.agg #[.bool (neg (D).num), .slice ahDU nhDU chDU, .slice ahDD nhDD chDD], .int .i64 0] := f4.out (by first | (simp [hn]; done) | exact hc.reach (f := 8) (by decide +kernel) hn | exact hc.reach (f := 8) (by decide +kernel) hn.1 | exact hc.reach (f := 8) (by decide +kernel) hn.2 | exact hc.reach (f := 8) (by decide +kernel) hn.2.1 | exact hc.reach (f := 8) (by decide +kernel) hn.2.2 | exact hc.reach (f := 8) (by decide +kernel) hn.2.2.1 | exact hc.reach (f := 8) (by decide +kernel) hn.2.2.2)
      subst ex
      subst ea
      simp only [puts, Act.put, List.setIfInBounds_toArray, List.set_cons_zero, List.set_cons_succ]
      go_simp
      refine hK.out _ _ ?_
      exact ⟨blk, y22, y23, y24, .tuple #[.agg #[.bool (neg (D).num), .slice ahDU nhDU chDU, .slice ahDD nhDD chDD], .int .i64 0], .tuple #[.agg #[.bool (neg (D).num), .slice ahDU nhDU chDU, .slice ahDD nhDD chDD], .int .i64 0], y26, .int .i64 0, y9, y10, by simp only [puts, Act.put, List.setIfInBounds_toArray, List.set_cons_zero, List.set_cons_succ], hb, hX.same 6 rfl, fun h => (f0.out (upd_of rfl h)), fun h => (f1.out (upd_of rfl h)), fun h => (f2.out (upd_of rfl h)), fun h => (f3.out (upd_of rfl h)), fun h => rfl, fun h => (f5.out (upd_of rfl h)), fun _ => rfl, fun h => (f7.out (upd_of rfl h)), fun h => (f8.out (upd_of rfl h)).same 6, fun h => absurd (hc.reach (f := 8) (s := 9) (l := 6) (by kernel_rfl) (upd_of rfl h)) (by rw [hun]; decide), trivial⟩
    · intro dd aa ww K hc hun hn hI hK
      obtain ⟨blk, y22, y23, y24, y25, y21, y26, y27, y9, y10, ea, hb, hX, f0, f1, f2, f3, f4, f5, f6, f7, f8, f9, _⟩ := hI
      try simp [Region.binds] at hn
      subst ea
      simp only [puts, Act.put, List.setIfInBounds_toArray, List.set_cons_zero, List.set_cons_succ]
      go_simp
      refine hK.out _ _ ?_
      exact ⟨setB blk 7 ww.heap.size, y22, y23, y24, y25, y21, y26, y27, .pointer (some ⟨ww.heap.size, 0, none⟩), y10, by simp only [puts, Act.put, List.setIfInBounds_toArray, List.set_cons_zero, List.set_cons_succ], below_alloc hb _, hX.new hb.size 7 #[.bool false, .slice none 0 0, .slice none 0 0] _ rfl (by simp [notU_bool, notU_slice, notU_i64]), fun h => (f0.out (upd_of rfl h)), fun h => (f1.out (upd_of rfl h)), fun h => (f2.out (upd_of rfl h)).past ((Below.refl _ _).alloc (Nat.le_refl _) _), fun h => (f3.out (upd_of rfl h)).past ((Below.refl _ _).alloc (Nat.le_refl _) _), fun h => (f4.out (upd_of rfl h)), fun h => (f5.out (upd_of rfl h)), fun h => (f6.out (upd_of rfl h)), fun _ => rfl, fun h => absurd (HoldsV.up (f8.out (upd_of rfl h))) (by rw [hun]; decide), fun h => (f9.out (upd_of rfl h)), trivial⟩
    · intro dd aa ww K hc hun hn hI hK
      obtain ⟨blk, y22, y23, y24, y25, y21, y26, y27, y9, y10, ea, hb, hX, f0, f1, f2, f3, f4, f5, f6, f7, f8, f9, _⟩ := hI
      try simp [Region.binds] at hn
      have ex := f7.out (by first | (simp [hn]; done) | exact hc.reach (f := 8) (by decide +kernel) hn | exact hc.reach (f := 8) (by decide +kernel) hn.1 | exact hc.reach (f := 8) (by decide +kernel) hn.2 | exact hc.reach (f := 8) (by decide +kernel) hn.2.1 | exact hc.reach (f := 8) (by decide +kernel) hn.2.2 | exact hc.reach (f := 8) (by decide +kernel) hn.2.2.1 | exact hc.reach (f := 8) (by decide +kernel) hn.2.2.2)
      subst ex
      obtain ⟨ahDU, nhDU, chDU, ahDD, nhDD, chDD, ex, hDU, hDD⟩ := f3.out (by first | (simp [hn]; done) | exact hc.reach (f := 8) (by decide +kernel) hn | exact hc.reach (f := 8) (by decide +kernel) hn.1 | exact hc.reach (f := 8) (by decide +kernel) hn.2 | exact hc.reach (f := 8) (by decide +kernel) hn.2.1 | exact hc.reach (f := 8) (by decide +kernel) hn.2.2 | exact hc.reach (f := 8) (by decide +kernel) hn.2.2.1 | exact hc.reach (f := 8) (by decide +kernel) hn.2.2.2)
      subst ex
      have ex : y21 = .tuple #[.agg #[.bool (neg (D).num), .slice ahDU nhDU chDU, .slice ahDD nhDD chDD], .int .i64 0] := f4.out (by first | (simp [hn]; done) | exact hc.reach (f := 8) (by decide +kernel) hn | exact hc.reach (f := 8) (by decide +kernel) hn.1 | exact hc.reach (f := 8) (by decide +kernel) hn.2 | exact hc.reach (f := 8) (by decide +kernel) hn.2.1 | exact hc.reach (f := 8) (by decide +kernel) hn.2.2 | exact hc.reach (f := 8) (by decide +kernel) hn.2.2.1 | exact hc.reach (f := 8) (by decide +kernel) hn.2.2.2)
      subst ex
      have ex : y26 = .agg #[.bool (neg (D).num), .slice ahDU nhDU chDU, .slice ahDD nhDD chDD] := f5.out (by first | (simp [hn]; done) | exact hc.reach (f := 8) (by decide +kernel) hn | exact hc.reach (f := 8) (by decide +kernel) hn.1 | exact hc.reach (f := 8) (by decide +kernel) hn.2 | exact hc.reach (f := 8) (by decide +kernel) hn.2.1 | exact hc.reach (f := 8) (by decide +kernel) hn.2.2 | exact hc.reach (f := 8) (by decide +kernel) hn.2.2.1 | exact hc.reach (f := 8) (by decide +kernel) hn.2.2.2)
      subst ex
      have hd7 : dd 7 = true := by simp [hn]
      have hv5 : dd 5 = true := by simp [hn]
      obtain ⟨x1, x2, x3⟩ := hX.at_ (7, 3) (by simp) hd7
      obtain ⟨v0, v1, v2, z0, z1, z2, z3, z4, z5, _, _, _⟩ := x3.three
      have hv : ∀ v ∈ ([.bool (neg (D).num), .slice ahDU nhDU chDU, .slice ahDD nhDD chDD] : List Value), notU v := by simp [notU_bool, notU_slice, notU_i64]
      subst ea
      simp only [puts, Act.put, List.setIfInBounds_toArray, List.set_cons_zero, List.set_cons_succ]
      go_simp
      refine hK.out _ _ ?_
      exact ⟨blk, y22, y23, y24, .tuple #[.agg #[.bool (neg (D).num), .slice ahDU nhDU chDU, .slice ahDD nhDD chDD], .int .i64 0], .tuple #[.agg #[.bool (neg (D).num), .slice ahDU nhDU chDU, .slice ahDD nhDD chDD], .int .i64 0], .agg #[.bool (neg (D).num), .slice ahDU nhDU chDU, .slice ahDD nhDD chDD], y27, .pointer (some ⟨blk 7, 0, none⟩), y10, by simp only [puts, Act.put, List.setIfInBounds_toArray, List.set_cons_zero, List.set_cons_succ], hb.trans (below_setCells _ _ x1 [.bool (neg (D).num), .slice ahDU nhDU chDU, .slice ahDD nhDD chDD] 0 _), (hX.sets [.bool (neg (D).num), .slice ahDU nhDU chDU, .slice ahDD nhDD chDD] _ 0 _ hv).same 8 rfl, fun h => (f0.out (upd_of rfl h)), fun h => (f1.out (upd_of rfl h)), fun h => ((f2.out (upd_of rfl h)).sets [.bool (neg (D).num), .slice ahDU nhDU chDU, .slice ahDD nhDD chDD] x3 (by simp) hv), fun h => ((f3.out (upd_of rfl h)).sets [.bool (neg (D).num), .slice ahDU nhDU chDU, .slice ahDD nhDD chDD] x3 (by simp) hv), fun h => rfl, fun h => rfl, fun h => (f6.out (upd_of rfl h)), fun h => rfl, fun _ => (HoldsV.new hd7 hv5 x2 x3 [.bool (neg (D).num), .slice ahDU nhDU chDU, .slice ahDD nhDD chDD] (by simp)).same 8, fun h => (f9.out (upd_of rfl h)), trivial⟩
    · intro dd aa ww K hc hun hn hI hK
      obtain ⟨blk, y22, y23, y24, y25, y21, y26, y27, y9, y10, ea, hb, hX, f0, f1, f2, f3, f4, f5, f6, f7, f8, f9, _⟩ := hI
      try simp [Region.binds] at hn
      obtain ⟨ahDU, nhDU, chDU, ahDD, nhDD, chDD, ex, hDU, hDD⟩ := f3.out (by first | (simp [hn]; done) | exact hc.reach (f := 8) (by decide +kernel) hn | exact hc.reach (f := 8) (by decide +kernel) hn.1 | exact hc.reach (f := 8) (by decide +kernel) hn.2 | exact hc.reach (f := 8) (by decide +kernel) hn.2.1 | exact hc.reach (f := 8) (by decide +kernel) hn.2.2 | exact hc.reach (f := 8) (by decide +kernel) hn.2.2.1 | exact hc.reach (f := 8) (by decide +kernel) hn.2.2.2)
      subst ex
      have ex : y21 = .tuple #[.agg #[.bool (neg (D).num), .slice ahDU nhDU chDU, .slice ahDD nhDD chDD], .int .i64 0] := f4.out (by first | (simp [hn]; done) | exact hc.reach (f := 8) (by decide +kernel) hn | exact hc.reach (f := 8) (by decide +kernel) hn.1 | exact hc.reach (f := 8) (by decide +kernel) hn.2 | exact hc.reach (f := 8) (by decide +kernel) hn.2.1 | exact hc.reach (f := 8) (by decide +kernel) hn.2.2 | exact hc.reach (f := 8) (by decide +kernel) hn.2.2.1 | exact hc.reach (f := 8) (by decide +kernel) hn.2.2.2)
      subst ex
      have ex : y27 = .int .i64 0 := f6.out (by first | (simp [hn]; done) | exact hc.reach (f := 8) (by decide +kernel) hn | exact hc.reach (f := 8) (by decide +kernel) hn.1 | exact hc.reach (f := 8) (by decide +kernel) hn.2 | exact hc.reach (f := 8) (by decide +kernel) hn.2.1 | exact hc.reach (f := 8) (by decide +kernel) hn.2.2 | exact hc.reach (f := 8) (by decide +kernel) hn.2.2.1 | exact hc.reach (f := 8) (by decide +kernel) hn.2.2.2)
      subst ex
      subst ea
      simp only [puts, Act.put, List.setIfInBounds_toArray, List.set_cons_zero, List.set_cons_succ]
      go_simp
      refine hK.out _ _ ?_
      exact ⟨blk, y22, y23, y24, .tuple #[.agg #[.bool (neg (D).num), .slice ahDU nhDU chDU, .slice ahDD nhDD chDD], .int .i64 0], .tuple #[.agg #[.bool (neg (D).num), .slice ahDU nhDU chDU, .slice ahDD nhDD chDD], .int .i64 0], y26, .int .i64 0, y9, .int .i64 0, by simp only [puts, Act.put, List.setIfInBounds_toArray, List.set_cons_zero, List.set_cons_succ], hb, hX.same 9 rfl, fun h => (f0.out (upd_of rfl h)), fun h => (f1.out (upd_of rfl h)), fun h => (f2.out (upd_of rfl h)), fun h => (f3.out (upd_of rfl h)), fun h => rfl, fun h => (f5.out (upd_of rfl h)), fun h => rfl, fun h => (f7.out (upd_of rfl h)), fun h => (f8.out (upd_of rfl h)).same 9, fun _ => rfl, trivial⟩
  intro dd aa w3 hd hI
  obtain ⟨blk, y22, y23, y24, y25, y21, y26, y27, y9, y10, ea, hb, hX, f0, f1, f2, f3, f4, f5, f6, f7, f8, f9, _⟩ := hI
  have ex := f0.out (hd 0 (by simp))
  subst ex
  have ex := f1.out (hd 1 (by simp))
  subst ex
  obtain ⟨ahWU, nhWU, chWU, ahWD, nhWD, chWD, ex, hWU, hWD⟩ := f2.out (hd 2 (by simp))
  subst ex
  obtain ⟨ahDU, nhDU, chDU, ahDD, nhDD, chDD, ex, hDU, hDD⟩ := f3.out (hd 3 (by simp))
  subst ex
  have ex : y21 = .tuple #[.agg #[.bool (neg (D).num), .slice ahDU nhDU chDU, .slice ahDD nhDD chDD], .int .i64 0] := f4.out (hd 4 (by simp))
  subst ex
  have ex : y26 = .agg #[.bool (neg (D).num), .slice ahDU nhDU chDU, .slice ahDD nhDD chDD] := f5.out (hd 5 (by simp))
  subst ex
  have ex : y27 = .int .i64 0 := f6.out (hd 6 (by simp))
  subst ex
  have ex := f7.out (hd 7 (by simp))
  subst ex
  obtain ⟨vs8, e, h8⟩ := f8.out (hd 8 (by simp))
  cases e
  have ex : y10 = .int .i64 0 := f9.out (hd 9 (by simp))
  subst ex
  have ld := h8.lt
  have qd0 := h8.at_ 0 (by simp)
  simp only [List.getElem?_cons_zero, List.getElem?_cons_succ] at qd0
  have qd1 := h8.at_ 1 (by simp)
  simp only [List.getElem?_cons_zero, List.getElem?_cons_succ] at qd1
  have qd2 := h8.at_ 2 (by simp)
  simp only [List.getElem?_cons_zero, List.getElem?_cons_succ] at qd2
  have xd := (hX.at_ (7, 3) (by simp) (hd 7 (by simp))).2.2
  have god := (hX.at_ (7, 3) (by simp) (hd 7 (by simp))).1
  generalize blk 7 = Bd at *
  subst ea
  simp only [puts, Act.put, List.setIfInBounds_toArray, List.set_cons_zero, List.set_cons_succ]
  have hXU := hXU.past hb
  have hXD := hXD.past hb
  have qx0 := bq hb lx qx0; have qx1 := bq hb lx qx1; have qx2 := bq hb lx qx2
  have lx := bl hb lx
  have hB := below_later hB hb
  clear hX
  clear hb hd
  rw [EA1.out] at hDU
  rw [EA2.out] at hDD
  have zf0 := xd.f 0 (by decide)
  go_wp2_with fail
  obtain ⟨w4, hW, hO, qN0, qN1, qN2, xN⟩ := part31 xd (.bool false) (nu rfl) qd1 qd2
  try rw [hW]
  clear hW
  have hDU := hO.own hDU
  have hDD := hO.own hDD
  have ld : Bd < w4.heap.size := by rw [hO.size]; exact ld
  have qd0 := qN0
  have qd1 := qN1
  have qd2 := qN2
  have xd := xN
  have hB := hO.below (by omega) hB
  clear hO qN0 qN1 qN2 xN zf0
  go_wp2_with fail
  refine wp_region_held_drew (S := fun w' => (w'.cell? ⟨Bd, 0, none⟩ = some (.bool false) ∧ w'.cell? ⟨Bd, 1, none⟩ = some (.slice ahDU nhDU chDU) ∧ w'.cell? ⟨Bd, 2, none⟩ = some (.slice ahDD nhDD chDD)) ∧ Below w4.heap.size w4 w') (by kernel_rfl) ⟨⟨((Below.refl w4.heap.size w4).drew.cell (p := ⟨Bd, 0, none⟩) ld).trans qd0, ((Below.refl w4.heap.size w4).drew.cell (p := ⟨Bd, 1, none⟩) ld).trans qd1, ((Below.refl w4.heap.size w4).drew.cell (p := ⟨Bd, 2, none⟩) ld).trans qd2⟩, (Below.refl _ _).drew⟩ (fun hHeld => ?_)
  refine takeL 0 (.agg #[.bool false, .slice ahDU nhDU chDU, .slice ahDD nhDD chDD]) rfl (by kernel_rfl) (by kernel_rfl) (by kernel_rfl) (fun _ _ _ h => h) (Or.inl ⟨by rfl, ?_⟩) (by assumption) ?_
  · intro ws hSw; obtain ⟨⟨s0, s1, s2⟩, sB⟩ := hSw; go_simp
  try simp only [Act.put, List.setIfInBounds_toArray, List.set_cons_zero, List.set_cons_succ]
  refine wpAnyH_ready (rs := [1]) (by kernel_rfl) (by simp) ?_
  refine consL rfl (fun K hK => ?_) AllReadyH.nil
  go_simp
  have hS := hHeld
  with_reducible refine (part13_half _).mono ?_
  rintro e w5 ⟨ahHU, nhHU, chHU, ahHD, nhHD, chHD, rfl, hHU, hHD, hbw5⟩
  refine hK.out _ _ ⟨⟨((below_later hS.2 hbw5).cell (p := ⟨Bd, 0, none⟩) ld).trans qd0, ((below_later hS.2 hbw5).cell (p := ⟨Bd, 1, none⟩) ld).trans qd1, ((below_later hS.2 hbw5).cell (p := ⟨Bd, 2, none⟩) ld).trans qd2⟩, below_later hS.2 hbw5⟩ (fun hHeld => ?_)
  clear hK K hS
  try simp only [Act.put, List.setIfInBounds_toArray, List.set_cons_zero, List.set_cons_succ]
  refine wpAnyH_ready (rs := [2]) (by kernel_rfl) (by simp) ?_
  refine consL rfl (fun K hK => ?_) AllReadyH.nil
  go_simp
  have hS := hHeld
  with_reducible refine (n_cmp_abs EA.out (hDU.past hS.2).toNatAt (hDD.past hS.2).toNatAt hHU.toNatAt hHD.toNatAt LA.out (by decide)).mono ?_
  rintro e w6 ⟨rfl, hbw6⟩
  have hHU := hHU.past hbw6
  have hHD := hHD.past hbw6
  rw [HC.out]
  refine hK.out _ _ ⟨⟨((below_later hS.2 hbw6).cell (p := ⟨Bd, 0, none⟩) ld).trans qd0, ((below_later hS.2 hbw6).cell (p := ⟨Bd, 1, none⟩) ld).trans qd1, ((below_later hS.2 hbw6).cell (p := ⟨Bd, 2, none⟩) ld).trans qd2⟩, below_later hS.2 hbw6⟩ (fun hHeld => ?_)
  clear hK K hS
  try simp only [Act.put, List.setIfInBounds_toArray, List.set_cons_zero, List.set_cons_succ]
  refine takeL 3 (?_) rfl (by kernel_rfl) (by kernel_rfl) (by kernel_rfl) (fun _ _ _ h => h) (Or.inl ⟨by rfl, ?_⟩) (by assumption) ?_
  rotate_left
  · intro ws hSw; obtain ⟨⟨s0, s1, s2⟩, sB⟩ := hSw; go_simp; with_reducible rfl
  try simp only [Act.put, List.setIfInBounds_toArray, List.set_cons_zero, List.set_cons_succ]
  refine takeL 4 (?_) rfl (by kernel_rfl) (by kernel_rfl) (by kernel_rfl) (fun _ _ _ h => h) (Or.inl ⟨by rfl, ?_⟩) (by assumption) ?_
  rotate_left
  · intro ws hSw; obtain ⟨⟨s0, s1, s2⟩, sB⟩ := hSw; go_simp; with_reducible rfl
  try simp only [Act.put, List.setIfInBounds_toArray, List.set_cons_zero, List.set_cons_succ]
  refine takeL 5 (?_) rfl (by kernel_rfl) (by kernel_rfl) (by kernel_rfl) (fun _ _ _ h => h) (Or.inl ⟨by rfl, ?_⟩) (by assumption) ?_
  rotate_left
  · intro ws hSw; obtain ⟨⟨s0, s1, s2⟩, sB⟩ := hSw; go_simp; with_reducible rfl
  try simp only [Act.put, List.setIfInBounds_toArray, List.set_cons_zero, List.set_cons_succ]
  refine takeL 6 (?_) rfl (by kernel_rfl) (by kernel_rfl) (by kernel_rfl) (fun _ _ _ h => h) (Or.inl ⟨by rfl, ?_⟩) (by assumption) ?_
  rotate_left
  · intro ws hSw; obtain ⟨⟨s0, s1, s2⟩, sB⟩ := hSw; go_simp; with_reducible rfl
  try simp only [Act.put, List.setIfInBounds_toArray, List.set_cons_zero, List.set_cons_succ]
  refine takeL 7 (?_) rfl (by kernel_rfl) (by kernel_rfl) (by kernel_rfl) (fun _ _ _ h => h) (Or.inl ⟨by rfl, ?_⟩) (by assumption) ?_
  rotate_left
  · intro ws hSw; obtain ⟨⟨s0, s1, s2⟩, sB⟩ := hSw; go_simp; with_reducible rfl
  try simp only [Act.put, List.setIfInBounds_toArray, List.set_cons_zero, List.set_cons_succ]
  refine wpAnyH_done (by kernel_rfl) ?_ _
  have hbR := hHeld.2
  have hDU := hDU.past hbR
  have hDD := hDD.past hbR
  have qd0 := bq hbR ld qd0; have qd1 := bq hbR ld qd1; have qd2 := bq hbR ld qd2
  have xd := xd.past hbR ld
  have ld := bl hbR ld
  have hB := below_later hB hbR
  clear hHeld hbR
  go_wp2
  go_ret
  exact ⟨rfl, hB⟩

theorem n_pickN (x k : Int) (hk : 0 < k) : ∃ p : Nat, pickI x k = p ∧ (p : Int) < k := by
  have h : 0 ≤ pickI x k ∧ pickI x k < k := by
    unfold pickI
    rw [if_neg (by omega)]
    exact ⟨Int.emod_nonneg x (by omega), Int.emod_lt_of_pos x (by omega)⟩
  exact ⟨(pickI x k).toNat, by omega, by omega⟩
theorem idealR_len2 {k d : Nat} (hk : 0 < k) (hk2 : k ≤ 65536) (hd : 1 ≤ d) (hd2 : d ≤ 65536) : rlen (idealR k d) ≤ 1000 := Nat.le_trans (idealR_len hk hk2 hd hd2) (by decide)

set_option maxRecDepth 100000 in
set_option maxHeartbeats 16000000 in
theorem solitonNear_any (x y : Int) (w : World) (hx : -9223372036854775808 ≤ x ∧ x ≤ 9223372036854775807) (hy : -9223372036854775808 ≤ y ∧ y ≤ 9223372036854775807) :
    Calls Try.prog 8 #[.int .i64 x, .int .i64 y] w (RetVal w (.bool true)) := by
  obtain ⟨p, hp, hp2⟩ := n_pickN x 60 (by decide)
  obtain ⟨r, hr, hr2⟩ := n_pickN y 16777215 (by decide)
  obtain ⟨kN, hk⟩ : ∃ kN, p + 1 = kN := ⟨_, rfl⟩
  obtain ⟨sc, hs⟩ : ∃ sc, r + 1 = sc := ⟨_, rfl⟩
  have tk : wrap64 (1 + (p : Int)) = (kN : Int) := by unfold wrap64; omega
  have ts : wrap64 (1 + (r : Int)) = (sc : Int) := by unfold wrap64; omega
  have hk1 : 0 < kN := by omega
  have hk2 : kN ≤ 60 := by omega
  have hs1 : 0 < sc := by omega
  have hs2 : sc ≤ 16777215 := by omega
  have hin : inR (kN : Int) (sc : Int) := by unfold inR; omega
  have hT := idealT_in hin
  have hz : ∀ d, rndR (idealR kN d * mkRat (sc : Int) 1) = wtR (shR kN 1 0) 1 (sc : Int) d := fun d => by unfold wtR; rw [sumS_one]
  have hno := ok_one (K := kN) (S := sc) (sp := 1) (m := 0) hk1 (by omega) hs2
  obtain ⟨W, hW⟩ : ∃ W, wtR (shR kN 1 0) 1 (sc : Int) = W := ⟨_, rfl⟩
  rw [hW] at hT hno
  simp only [hW] at hz
  have HX := Lib.hid hx
  have HY := Lib.hid hy
  have HP := Lib.hid hp
  have HR := Lib.hid hr
  have HZ := Lib.hid hz
  clear hx hy hp hr hz hW hk hs hp2 hr2
  by_cases hok : okT (tabL W kN) (kN : Int)
  · rw [if_pos hok] at hT
    have hc := chkT_yes hok
    have hin2 := okT_in hok
    rw [tabL_len] at hin2
    have HT := Lib.hid hT
    have HCK := Lib.hid hc
    have HIN := Lib.hid hin2
    clear hT hno hok hc hin2 hin
    go_enter Try.func8, Try.ntmps8
    have hB := Below.refl w.heap.size w
    go_wp2_with fail
    with_reducible refine (solitonKnown_any _).mono ?_
    rintro e w1 ⟨rfl, hb⟩
    have hB := below_later hB hb
    clear hb
    go_wp2_with fail
    with_reducible refine (pick_any x 60 _ HX.out.1 HX.out.2 (by decide)).mono ?_
    rintro e w' ⟨rfl, rfl⟩
    rw [HP.out]
    go_wp2_with fail
    with_reducible refine (pick_any y 16777215 _ HY.out.1 HY.out.2 (by decide)).mono ?_
    rintro e w' ⟨rfl, rfl⟩
    rw [HR.out]
    go_wp2_with fail
    with_reducible refine (ideal_ok HT.out _).mono ?_
    rintro e w2 ⟨a1, n1, c1, rfl, h1, hb⟩
    have hB := below_later hB hb
    clear hb
    obtain rfl : kN = n1 := by rw [← h1.len, tabL_len]
    have hcl : c1 ≤ 9223372036854775807 := by have := h1.cle; simp only [maxLen] at this; omega
    have hle := h1.le
    go_wp2_with fail
    with_reducible refine (soliCheck_any _ _ _ (tabL W kN) (kN : Int) _ h1).mono ?_
    rintro e w3 ⟨rfl, hb⟩
    have h1 := h1.past hb
    have hB := below_later hB hb
    clear hb
    rw [HCK.out]
    go_wp2
    go_loopw [8] (fun i wr => ∃ (d : Nat), 1 ≤ d ∧ d ≤ kN + 1 ∧ i = .int .i64 (d : Int) ∧ IntsAt wr a1 kN c1 (tabL W kN) ∧ Below w.heap.size w wr) (fun i _ => kN + 1 - (intOf i).toNat)
    case atStart => exact ⟨1, Nat.le_refl _, by omega, rfl, h1, hB⟩
    case round =>
      clear h1 hB
      obtain ⟨d, hd1, hd2, rfl, h1, hB⟩ := hrel
      by_cases hlt : d ≤ kN
      · obtain ⟨i, hi⟩ : ∃ i, i + 1 = d := ⟨d - 1, by omega⟩
        have hin := HIN.out i (by omega)
        have hg := tabL_get (W := W) (K := kN) (i := i) (by omega)
        rw [hg, hi] at hin
        have hzd := HZ.out d
        rcases h1.cell with h0 | ⟨b, o, rfl, hbl, hcl2⟩
        · omega
        have hq := hcl2 i (by omega)
        rw [hg, hi] at hq
        have td : IntKind.i64.wrap ((d : Int) - 1) = (i : Int) := by rw [IntKind.wrap_i64]; omega
        have hik : i < kN := by omega
        obtain ⟨Z, hZ⟩ : ∃ Z, W d = Z := ⟨_, rfl⟩
        obtain ⟨I, hI⟩ : ∃ I, idealR kN d = I := ⟨_, rfl⟩
        have hid := fun w' => lideal_any kN d w' hk1 (by omega) hd1 (by omega)
        have hlen := idealR_len2 (d := d) hk1 (by omega) hd1 (by omega)
        rw [hZ] at hin hq hzd
        rw [hI] at hzd hlen
        simp only [hI] at hid
        have HID := Lib.hid hid
        have HLEN := Lib.hid hlen
        have HZD := Lib.hid hzd
        have TD := Lib.hid td
        have HIK := Lib.hid hik
        have HZI := Lib.hid (show -9223372036854775808 ≤ Z ∧ Z ≤ 9223372036854775807 by omega)
        clear hcl2 hg hi hzd td hik hZ hI hid hlen hin
        have h1 := h1
        go_wp2_with fail
        refine wp_region_held_drew (S := fun w' => (True) ∧ Below wr.heap.size wr w') (by kernel_rfl) ⟨trivial, (Below.refl _ _).drew⟩ (fun hHeld => ?_)
        refine takeL 0 (?_) rfl (by kernel_rfl) (by kernel_rfl) (by kernel_rfl) (fun _ _ _ h => h) (Or.inl ⟨by rfl, ?_⟩) (by assumption) ?_
        rotate_left
        · intro ws hSw; obtain ⟨s0, sB⟩ := hSw; go_simp; with_reducible rfl
        try simp only [Act.put, List.setIfInBounds_toArray, List.set_cons_zero, List.set_cons_succ]
        refine takeL 1 (?_) rfl (by kernel_rfl) (by kernel_rfl) (by kernel_rfl) (fun _ _ _ h => h) (Or.inl ⟨by rfl, ?_⟩) (by assumption) ?_
        rotate_left
        · intro ws hSw; obtain ⟨s0, sB⟩ := hSw; go_simp; with_reducible rfl
        try simp only [Act.put, List.setIfInBounds_toArray, List.set_cons_zero, List.set_cons_succ]
        refine takeL 2 (.int .i64 (i : Int)) rfl (by kernel_rfl) (by kernel_rfl) (by kernel_rfl) (fun _ _ _ h => h) (Or.inl ⟨by rfl, ?_⟩) (by assumption) ?_
        · intro ws hSw; obtain ⟨s0, sB⟩ := hSw; have td := TD.out; go_simp
        try simp only [Act.put, List.setIfInBounds_toArray, List.set_cons_zero, List.set_cons_succ]
        refine takeL 3 (.pointer (some ⟨b, o + i, none⟩)) rfl (by kernel_rfl) (by kernel_rfl) (by kernel_rfl) (fun _ _ _ h => h) (Or.inl ⟨by rfl, ?_⟩) (by assumption) ?_
        · intro ws hSw; obtain ⟨s0, sB⟩ := hSw; have hik := HIK.out; go_simp
        try simp only [Act.put, List.setIfInBounds_toArray, List.set_cons_zero, List.set_cons_succ]
        refine takeL 4 (.int .i64 Z) rfl (by kernel_rfl) (by kernel_rfl) (by kernel_rfl) (fun _ _ _ h => h) (Or.inl ⟨by rfl, ?_⟩) (by assumption) ?_
        · intro ws hSw; obtain ⟨s0, sB⟩ := hSw; have e := (sB.cell (p := ⟨b, o + i, none⟩) hbl).trans hq; go_simp
        try simp only [Act.put, List.setIfInBounds_toArray, List.set_cons_zero, List.set_cons_succ]
        refine takeL 5 (?_) rfl (by kernel_rfl) (by kernel_rfl) (by kernel_rfl) (fun _ _ _ h => h) (Or.inl ⟨by rfl, ?_⟩) (by assumption) ?_
        rotate_left
        · intro ws hSw; obtain ⟨s0, sB⟩ := hSw; go_simp; with_reducible rfl
        try simp only [Act.put, List.setIfInBounds_toArray, List.set_cons_zero, List.set_cons_succ]
        refine takeL 6 (?_) rfl (by kernel_rfl) (by kernel_rfl) (by kernel_rfl) (fun _ _ _ h => h) (Or.inl ⟨by rfl, ?_⟩) (by assumption) ?_
        rotate_left
        · intro ws hSw; obtain ⟨s0, sB⟩ := hSw; go_simp; with_reducible rfl
        try simp only [Act.put, List.setIfInBounds_toArray, List.set_cons_zero, List.set_cons_succ]
        refine takeL 7 (?_) rfl (by kernel_rfl) (by kernel_rfl) (by kernel_rfl) (fun _ _ _ h => h) (Or.inl ⟨by rfl, ?_⟩) (by assumption) ?_
        rotate_left
        · intro ws hSw; obtain ⟨s0, sB⟩ := hSw; go_simp; with_reducible rfl
        try simp only [Act.put, List.setIfInBounds_toArray, List.set_cons_zero, List.set_cons_succ]
        refine wpAnyH_ready (rs := [8]) (by kernel_rfl) (by simp) ?_
        refine consL rfl (fun K hK => ?_) AllReadyH.nil
        go_simp
        have hS := hHeld
        with_reducible refine (HID.out _).mono ?_
        rintro e w1 ⟨ahIU, nhIU, chIU, ahID, nhID, chID, rfl, hIU, hID, hbw1⟩
        refine hK.out _ _ ⟨trivial, below_later hS.2 hbw1⟩ (fun hHeld => ?_)
        clear hK K hS
        try simp only [Act.put, List.setIfInBounds_toArray, List.set_cons_zero, List.set_cons_succ]
        refine wpAnyH_ready (rs := [9]) (by kernel_rfl) (by simp) ?_
        refine consL rfl (fun K hK => ?_) AllReadyH.nil
        go_simp
        have hS := hHeld
        with_reducible refine (near13_yes Z sc hIU.toNatAt hID.toNatAt HLEN.out hs2 HZI.out HZD.out).mono ?_
        rintro e w2 ⟨rfl, hbw2⟩
        have hIU := hIU.past hbw2
        have hID := hID.past hbw2
        refine hK.out _ _ ⟨trivial, below_later hS.2 hbw2⟩ (fun hHeld => ?_)
        clear hK K hS
        try simp only [Act.put, List.setIfInBounds_toArray, List.set_cons_zero, List.set_cons_succ]
        refine takeL 10 (?_) rfl (by kernel_rfl) (by kernel_rfl) (by kernel_rfl) (fun _ _ _ h => h) (Or.inl ⟨by rfl, ?_⟩) (by assumption) ?_
        rotate_left
        · intro ws hSw; obtain ⟨s0, sB⟩ := hSw; go_simp; with_reducible rfl
        try simp only [Act.put, List.setIfInBounds_toArray, List.set_cons_zero, List.set_cons_succ]
        refine wpAnyH_done (by kernel_rfl) ?_ _
        have hbR := hHeld.2
        have h1 := h1.past hbR
        have hB := below_later hB hbR
        clear hHeld hbR
        go_wp2
        go_roundw
        case rel => exact ⟨d + 1, by omega, by omega, by go_num, h1, hB⟩
        case measure => simp [intOf]; omega
      · go_wp2
        go_ret
        exact ⟨rfl, hB⟩
  · rw [if_neg hok] at hT
    have hle : (sc : Int) ≤ (kN : Int) := by
      by_cases h : kN < sc
      · exact absurd (hno h) hok
      · omega
    have HT := Lib.hid hT
    clear hT hno hok hin
    go_enter Try.func8, Try.ntmps8
    have hB := Below.refl w.heap.size w
    go_wp2_with fail
    with_reducible refine (solitonKnown_any _).mono ?_
    rintro e w1 ⟨rfl, hb⟩
    have hB := below_later hB hb
    clear hb
    go_wp2_with fail
    with_reducible refine (pick_any x 60 _ HX.out.1 HX.out.2 (by decide)).mono ?_
    rintro e w' ⟨rfl, rfl⟩
    rw [HP.out]
    go_wp2_with fail
    with_reducible refine (pick_any y 16777215 _ HY.out.1 HY.out.2 (by decide)).mono ?_
    rintro e w' ⟨rfl, rfl⟩
    rw [HR.out]
    go_wp2_with fail
    with_reducible refine (ideal_err HT.out _).mono ?_
    rintro e w2 ⟨a1, n1, c1, rfl, hb⟩
    have hB := below_later hB hb
    clear hb
    go_wp2
    go_ret
    exact ⟨rfl, hB⟩

end Go.Proofs.Ytlkoenpdmlbhlaa
