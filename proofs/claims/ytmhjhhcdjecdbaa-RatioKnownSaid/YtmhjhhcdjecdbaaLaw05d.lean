/- the laws of ratio: RatioKnown. -/
import Derived.Test.YtmhjhhcdjecdbaaLaw05p
import Derived.Test.YtmhjhhcdjecdbaaRatio11
import Derived.Test.YtmhjhhcdjecdbaaRatio12
set_option linter.unusedVariables false
set_option linter.unusedSimpArgs false
namespace Go.Proofs.Ytmhjhhcdjecdbaa
open Go.RowKit

theorem RetWho.ok {w : World} {z : Int} {e : Ending} {w' : World} (h : RetWho w (.ok z) e w') : RetWh w z e w' := h
theorem pow_rat {q : Rat} {n : Int} {a1 : Option Addr} {n1 c1 : Nat} {a2 : Option Addr} {n2 c2 : Nat} {w : World} (g1 : NatAt w a1 n1 c1 (digs q.num.natAbs)) (g2 : NatAt w a2 n2 c2 (digs q.den)) (hs : rlen q ≤ 1048576) (hn : -10000 ≤ n) (hn2 : n ≤ 10000) (hq : 0 ≤ n ∨ q ≠ 0) :
    Calls Try.prog 32 #[.agg #[.bool (neg q.num), .slice a1 n1 c1, .slice a2 n2 c2], .int .i64 n] w (RetOk w (q ^ n)) := pow05_rat q _ _ _ _ _ _ n w g1 g2 hs hn hn2 hq
theorem pow_zero5 {q : Rat} {n : Int} {a1 : Option Addr} {n1 c1 : Nat} {a2 : Option Addr} {n2 c2 : Nat} {w : World} (g1 : NatAt w a1 n1 c1 (digs q.num.natAbs)) (g2 : NatAt w a2 n2 c2 (digs q.den)) (hs : rlen q ≤ 1048576) (hn : n < 0) (hn2 : -10000 ≤ n) (hq : q = 0) :
    Calls Try.prog 32 #[.agg #[.bool (neg q.num), .slice a1 n1 c1, .slice a2 n2 c2], .int .i64 n] w (RetErr w 5) := by
  unfold rlen at hs
  exact (pow05_zero q _ _ _ _ _ _ n w g1 g2 (by have := g1.len; omega) (by have := g2.len; omega) hn hn2 hq).mono fun _ _ h => h.err
theorem pow_high3 {q : Rat} {n : Int} {a1 : Option Addr} {n1 c1 : Nat} {a2 : Option Addr} {n2 c2 : Nat} {w : World} (g1 : NatAt w a1 n1 c1 (digs q.num.natAbs)) (g2 : NatAt w a2 n2 c2 (digs q.den)) (hs : rlen q ≤ 1048576) (hn : 10000 < n) :
    Calls Try.prog 32 #[.agg #[.bool (neg q.num), .slice a1 n1 c1, .slice a2 n2 c2], .int .i64 n] w (RetErr w 3) := by
  unfold rlen at hs
  exact (pow05_high q _ _ _ _ _ _ n w g1 g2 (by have := g1.len; omega) (by have := g2.len; omega) hn).mono fun _ _ h => h.err
theorem round_rat {q : Rat} {a1 : Option Addr} {n1 c1 : Nat} {a2 : Option Addr} {n2 c2 : Nat} {w : World} (g1 : NatAt w a1 n1 c1 (digs q.num.natAbs)) (g2 : NatAt w a2 n2 c2 (digs q.den)) (hs : rlen q ≤ 1048576) :
    Calls Try.prog 27 #[.agg #[.bool (neg q.num), .slice a1 n1 c1, .slice a2 n2 c2]] w (RetWh w (rndR q)) := by
  unfold rlen at hs
  exact round05_rat q _ _ _ _ _ _ w g1 g2 (by have := g1.len; omega) (by have := g2.len; omega)

set_option maxRecDepth 100000 in
set_option maxHeartbeats 4000000 in
theorem rounded_yes (q : Rat) (z : Int) (hz : rndR q = z) (a1 : Option Addr) (n1 c1 : Nat) (a2 : Option Addr) (n2 c2 : Nat) (w : World) (g1 : NatAt w a1 n1 c1 (digs q.num.natAbs)) (g2 : NatAt w a2 n2 c2 (digs q.den)) (hs : rlen q ≤ 1048576) (h0 : -9223372036854775808 ≤ z) (h1 : z ≤ 9223372036854775807) :
    Calls Try.prog 37 #[.agg #[.bool (neg q.num), .slice a1 n1 c1, .slice a2 n2 c2], .int .i64 z] w (RetVal w (.bool true)) := by
  have HZ := Lib.hid hz
  have H0 := Lib.hid h0
  have H1 := Lib.hid h1
  clear hz h0 h1
  go_enter Try.func37, Try.ntmps37
  have hB := Below.refl w.heap.size w
  go_wp2_with fail
  obtain ⟨w1, hW, hz0, hb, q, f⟩ := box1g w (w.heap.size) (by omega) #[.bool (neg q.num), .slice a1 n1 c1, .slice a2 n2 c2] 31
  rw [hW]
  clear hW
  have g1 := g1.past hb
  have g2 := g2.past hb
  have hB := below_later hB hb
  clear hb
  have lx : w.heap.size < w1.heap.size := by omega
  have qx0 := q 0; have qx1 := q 1; have qx2 := q 2
  simp only [List.getElem?_toArray, List.getElem?_cons_zero, List.getElem?_cons_succ] at qx0 qx1 qx2
  clear q f
  clear hz0
  with_reducible refine (round_rat g1 g2 hs).mono ?_
  rintro e w2 ⟨ahR, nhR, chR, rfl, hR, hb⟩
  have g1 := g1.past hb
  have g2 := g2.past hb
  have qx0 := bq hb lx qx0; have qx1 := bq hb lx qx1; have qx2 := bq hb lx qx2
  have lx := bl hb lx
  have hB := below_later hB hb
  clear hb
  rw [HZ.out] at hR ⊢
  go_wp2_with fail
  obtain ⟨w3, hW, hz0, hb, q, f⟩ := box1g w2 (w2.heap.size) (by omega) #[.bool (neg z), .slice ahR nhR chR] 25
  rw [hW]
  clear hW
  have hR := hR.past hb
  have qx0 := bq hb lx qx0; have qx1 := bq hb lx qx1; have qx2 := bq hb lx qx2
  have lx := bl hb lx
  have hB := below_later hB hb
  clear hb
  have ln : w2.heap.size < w3.heap.size := by omega
  have qn0 := q 0; have qn1 := q 1
  simp only [List.getElem?_toArray, List.getElem?_cons_zero, List.getElem?_cons_succ] at qn0 qn1
  clear q f
  clear hz0
  refine wp_region_inv (by kernel_rfl) rfl (by kernel_rfl) (fun A0 V0 dd aa ww => ∃ (y12 y13 y14 y15 y16 y17 y18 y19 y4 : Value), aa = puts A0 [(12, y12), (13, y13), (14, y14), (15, y15), (16, y16), (17, y17), (18, y18), (19, y19), (4, y4)] ∧ Below V0.heap.size V0 ww ∧ Shut (dd 0 = true → y12 = .int .i64 0) ∧ Shut (dd 1 = true → y13 = .bool true) ∧ Shut (dd 2 = true → y14 = .bool true) ∧ Shut (dd 3 = true → y15 = .agg #[.bool (neg z), .slice ahR nhR chR]) ∧ Shut (dd 4 = true → y16 = .int .i64 z) ∧ Shut (dd 5 = true → CopyV V0.heap.size (neg z) (digs z.natAbs) y17 ww) ∧ Shut (dd 6 = true → y18 = .bool true) ∧ Shut (dd 7 = true → y19 = .bool true) ∧ Shut (dd 8 = true → y4 = .bool true) ∧ True) ?_ ?_ ?_
  · exact ⟨_, _, _, _, _, _, _, _, _, puts_self _ [12, 13, 14, 15, 16, 17, 18, 19, 4], (Below.refl _ _).drew, fun h => (by cases h), fun h => (by cases h), fun h => (by cases h), fun h => (by cases h), fun h => (by cases h), fun h => (by cases h), fun h => (by cases h), fun h => (by cases h), fun h => (by cases h), trivial⟩
  · refine Steps.cons ?_ (Steps.cons ?_ (Steps.cons ?_ (Steps.cons ?_ (Steps.cons ?_ (Steps.cons ?_ (Steps.cons ?_ (Steps.cons ?_ (Steps.cons ?_ (Steps.nil)))))))))
    · intro dd aa ww K hc hun hn hI hK
      obtain ⟨y12, y13, y14, y15, y16, y17, y18, y19, y4, ea, hb, f0, f1, f2, f3, f4, f5, f6, f7, f8, _⟩ := hI
      try simp [Region.binds] at hn
      subst ea
      simp only [puts, Act.put, List.setIfInBounds_toArray, List.set_cons_zero, List.set_cons_succ]
      go_simp
      refine hK.out _ _ ?_
      exact ⟨.int .i64 0, y13, y14, y15, y16, y17, y18, y19, y4, by simp only [puts, Act.put, List.setIfInBounds_toArray, List.set_cons_zero, List.set_cons_succ], hb, fun _ => rfl, fun h => (f1.out (upd_of rfl h)), fun h => (f2.out (upd_of rfl h)), fun h => (f3.out (upd_of rfl h)), fun h => (f4.out (upd_of rfl h)), fun h => (f5.out (upd_of rfl h)), fun h => (f6.out (upd_of rfl h)), fun h => (f7.out (upd_of rfl h)), fun h => (f8.out (upd_of rfl h)), trivial⟩
    · intro dd aa ww K hc hun hn hI hK
      obtain ⟨y12, y13, y14, y15, y16, y17, y18, y19, y4, ea, hb, f0, f1, f2, f3, f4, f5, f6, f7, f8, _⟩ := hI
      try simp [Region.binds] at hn
      have ex := f0.out (by first | (simp [hn]; done) | exact hc.reach (f := 8) (by decide +kernel) hn | exact hc.reach (f := 8) (by decide +kernel) hn.1 | exact hc.reach (f := 8) (by decide +kernel) hn.2 | exact hc.reach (f := 8) (by decide +kernel) hn.2.1 | exact hc.reach (f := 8) (by decide +kernel) hn.2.2)
      subst ex
      subst ea
      simp only [puts, Act.put, List.setIfInBounds_toArray, List.set_cons_zero, List.set_cons_succ]
      go_simp
      refine hK.out _ _ ?_
      exact ⟨.int .i64 0, .bool true, y14, y15, y16, y17, y18, y19, y4, by simp only [puts, Act.put, List.setIfInBounds_toArray, List.set_cons_zero, List.set_cons_succ], hb, fun h => rfl, fun _ => rfl, fun h => (f2.out (upd_of rfl h)), fun h => (f3.out (upd_of rfl h)), fun h => (f4.out (upd_of rfl h)), fun h => (f5.out (upd_of rfl h)), fun h => (f6.out (upd_of rfl h)), fun h => (f7.out (upd_of rfl h)), fun h => (f8.out (upd_of rfl h)), trivial⟩
    · intro dd aa ww K hc hun hn hI hK
      obtain ⟨y12, y13, y14, y15, y16, y17, y18, y19, y4, ea, hb, f0, f1, f2, f3, f4, f5, f6, f7, f8, _⟩ := hI
      try simp [Region.binds] at hn
      have ex := f1.out (by first | (simp [hn]; done) | exact hc.reach (f := 8) (by decide +kernel) hn | exact hc.reach (f := 8) (by decide +kernel) hn.1 | exact hc.reach (f := 8) (by decide +kernel) hn.2 | exact hc.reach (f := 8) (by decide +kernel) hn.2.1 | exact hc.reach (f := 8) (by decide +kernel) hn.2.2)
      subst ex
      subst ea
      simp only [puts, Act.put, List.setIfInBounds_toArray, List.set_cons_zero, List.set_cons_succ]
      go_simp
      refine hK.out _ _ ?_
      exact ⟨y12, .bool true, .bool true, y15, y16, y17, y18, y19, y4, by simp only [puts, Act.put, List.setIfInBounds_toArray, List.set_cons_zero, List.set_cons_succ], hb, fun h => (f0.out (upd_of rfl h)), fun h => rfl, fun _ => rfl, fun h => (f3.out (upd_of rfl h)), fun h => (f4.out (upd_of rfl h)), fun h => (f5.out (upd_of rfl h)), fun h => (f6.out (upd_of rfl h)), fun h => (f7.out (upd_of rfl h)), fun h => (f8.out (upd_of rfl h)), trivial⟩
    · intro dd aa ww K hc hun hn hI hK
      obtain ⟨y12, y13, y14, y15, y16, y17, y18, y19, y4, ea, hb, f0, f1, f2, f3, f4, f5, f6, f7, f8, _⟩ := hI
      try simp [Region.binds] at hn
      have ex := f2.out (by first | (simp [hn]; done) | exact hc.reach (f := 8) (by decide +kernel) hn | exact hc.reach (f := 8) (by decide +kernel) hn.1 | exact hc.reach (f := 8) (by decide +kernel) hn.2 | exact hc.reach (f := 8) (by decide +kernel) hn.2.1 | exact hc.reach (f := 8) (by decide +kernel) hn.2.2)
      subst ex
      have e0 := (hb.cell (p := ⟨w2.heap.size, 0, none⟩) ln).trans qn0
      have e1 := (hb.cell (p := ⟨w2.heap.size, 1, none⟩) ln).trans qn1
      subst ea
      simp only [puts, Act.put, List.setIfInBounds_toArray, List.set_cons_zero, List.set_cons_succ]
      go_simp
      refine hK.out _ _ ?_
      exact ⟨y12, y13, .bool true, .agg #[.bool (neg z), .slice ahR nhR chR], y16, y17, y18, y19, y4, by simp only [puts, Act.put, List.setIfInBounds_toArray, List.set_cons_zero, List.set_cons_succ], hb, fun h => (f0.out (upd_of rfl h)), fun h => (f1.out (upd_of rfl h)), fun h => rfl, fun _ => rfl, fun h => (f4.out (upd_of rfl h)), fun h => (f5.out (upd_of rfl h)), fun h => (f6.out (upd_of rfl h)), fun h => (f7.out (upd_of rfl h)), fun h => (f8.out (upd_of rfl h)), trivial⟩
    · intro dd aa ww K hc hun hn hI hK
      obtain ⟨y12, y13, y14, y15, y16, y17, y18, y19, y4, ea, hb, f0, f1, f2, f3, f4, f5, f6, f7, f8, _⟩ := hI
      try simp [Region.binds] at hn
      have ex := f2.out (by first | (simp [hn]; done) | exact hc.reach (f := 8) (by decide +kernel) hn | exact hc.reach (f := 8) (by decide +kernel) hn.1 | exact hc.reach (f := 8) (by decide +kernel) hn.2 | exact hc.reach (f := 8) (by decide +kernel) hn.2.1 | exact hc.reach (f := 8) (by decide +kernel) hn.2.2)
      subst ex
      subst ea
      simp only [puts, Act.put, List.setIfInBounds_toArray, List.set_cons_zero, List.set_cons_succ]
      go_simp
      refine hK.out _ _ ?_
      exact ⟨y12, y13, .bool true, y15, .int .i64 z, y17, y18, y19, y4, by simp only [puts, Act.put, List.setIfInBounds_toArray, List.set_cons_zero, List.set_cons_succ], hb, fun h => (f0.out (upd_of rfl h)), fun h => (f1.out (upd_of rfl h)), fun h => rfl, fun h => (f3.out (upd_of rfl h)), fun _ => rfl, fun h => (f5.out (upd_of rfl h)), fun h => (f6.out (upd_of rfl h)), fun h => (f7.out (upd_of rfl h)), fun h => (f8.out (upd_of rfl h)), trivial⟩
    · intro dd aa ww K hc hun hn hI hK
      obtain ⟨y12, y13, y14, y15, y16, y17, y18, y19, y4, ea, hb, f0, f1, f2, f3, f4, f5, f6, f7, f8, _⟩ := hI
      try simp [Region.binds] at hn
      have ex := f4.out (by first | (simp [hn]; done) | exact hc.reach (f := 8) (by decide +kernel) hn | exact hc.reach (f := 8) (by decide +kernel) hn.1 | exact hc.reach (f := 8) (by decide +kernel) hn.2 | exact hc.reach (f := 8) (by decide +kernel) hn.2.1 | exact hc.reach (f := 8) (by decide +kernel) hn.2.2)
      subst ex
      have ex := f2.out (by first | (simp [hn]; done) | exact hc.reach (f := 8) (by decide +kernel) hn | exact hc.reach (f := 8) (by decide +kernel) hn.1 | exact hc.reach (f := 8) (by decide +kernel) hn.2 | exact hc.reach (f := 8) (by decide +kernel) hn.2.1 | exact hc.reach (f := 8) (by decide +kernel) hn.2.2)
      subst ex
      subst ea
      simp only [puts, Act.put, List.setIfInBounds_toArray, List.set_cons_zero, List.set_cons_succ]
      go_simp
      with_reducible refine (sof_any z _ H0.out H1.out).mono ?_
      rintro e w1 ⟨ahF, nhF, chF, rfl, hF, h1⟩
      refine hK.out _ _ ?_
      exact ⟨y12, y13, .bool true, y15, .int .i64 z, .agg #[.bool (neg z), .slice ahF nhF chF], y18, y19, y4, by simp only [puts, Act.put, List.setIfInBounds_toArray, List.set_cons_zero, List.set_cons_succ], below_later hb h1, fun h => (f0.out (upd_of rfl h)), fun h => (f1.out (upd_of rfl h)), fun h => rfl, fun h => (f3.out (upd_of rfl h)), fun h => rfl, fun _ => ⟨_, _, _, rfl, hF.mono hb.size⟩, fun h => (f6.out (upd_of rfl h)), fun h => (f7.out (upd_of rfl h)), fun h => (f8.out (upd_of rfl h)), trivial⟩
    · intro dd aa ww K hc hun hn hI hK
      obtain ⟨y12, y13, y14, y15, y16, y17, y18, y19, y4, ea, hb, f0, f1, f2, f3, f4, f5, f6, f7, f8, _⟩ := hI
      try simp [Region.binds] at hn
      have ex := f3.out (by first | (simp [hn]; done) | exact hc.reach (f := 8) (by decide +kernel) hn | exact hc.reach (f := 8) (by decide +kernel) hn.1 | exact hc.reach (f := 8) (by decide +kernel) hn.2 | exact hc.reach (f := 8) (by decide +kernel) hn.2.1 | exact hc.reach (f := 8) (by decide +kernel) hn.2.2)
      subst ex
      obtain ⟨ahF, nhF, chF, ex, hF⟩ := f5.out (by first | (simp [hn]; done) | exact hc.reach (f := 8) (by decide +kernel) hn | exact hc.reach (f := 8) (by decide +kernel) hn.1 | exact hc.reach (f := 8) (by decide +kernel) hn.2 | exact hc.reach (f := 8) (by decide +kernel) hn.2.1 | exact hc.reach (f := 8) (by decide +kernel) hn.2.2)
      subst ex
      have ex := f2.out (by first | (simp [hn]; done) | exact hc.reach (f := 8) (by decide +kernel) hn | exact hc.reach (f := 8) (by decide +kernel) hn.1 | exact hc.reach (f := 8) (by decide +kernel) hn.2 | exact hc.reach (f := 8) (by decide +kernel) hn.2.1 | exact hc.reach (f := 8) (by decide +kernel) hn.2.2)
      subst ex
      subst ea
      simp only [puts, Act.put, List.setIfInBounds_toArray, List.set_cons_zero, List.set_cons_succ]
      go_simp
      with_reducible refine (sameWhole_yes (hR.past hb).toNatAt hF.toNatAt).mono ?_
      rintro e w1 ⟨rfl, h1⟩
      refine hK.out _ _ ?_
      exact ⟨y12, y13, .bool true, .agg #[.bool (neg z), .slice ahR nhR chR], y16, .agg #[.bool (neg z), .slice ahF nhF chF], .bool true, y19, y4, by simp only [puts, Act.put, List.setIfInBounds_toArray, List.set_cons_zero, List.set_cons_succ], below_later hb h1, fun h => (f0.out (upd_of rfl h)), fun h => (f1.out (upd_of rfl h)), fun h => rfl, fun h => rfl, fun h => (f4.out (upd_of rfl h)), fun h => (f5.out (upd_of rfl h)).past h1, fun _ => rfl, fun h => (f7.out (upd_of rfl h)), fun h => (f8.out (upd_of rfl h)), trivial⟩
    · intro dd aa ww K hc hun hn hI hK
      obtain ⟨y12, y13, y14, y15, y16, y17, y18, y19, y4, ea, hb, f0, f1, f2, f3, f4, f5, f6, f7, f8, _⟩ := hI
      try simp [Region.binds] at hn
      have ex := f2.out (by first | (simp [hn]; done) | exact hc.reach (f := 8) (by decide +kernel) hn | exact hc.reach (f := 8) (by decide +kernel) hn.1 | exact hc.reach (f := 8) (by decide +kernel) hn.2 | exact hc.reach (f := 8) (by decide +kernel) hn.2.1 | exact hc.reach (f := 8) (by decide +kernel) hn.2.2)
      subst ex
      have ex := f6.out (by first | (simp [hn]; done) | exact hc.reach (f := 8) (by decide +kernel) hn | exact hc.reach (f := 8) (by decide +kernel) hn.1 | exact hc.reach (f := 8) (by decide +kernel) hn.2 | exact hc.reach (f := 8) (by decide +kernel) hn.2.1 | exact hc.reach (f := 8) (by decide +kernel) hn.2.2)
      subst ex
      subst ea
      simp only [puts, Act.put, List.setIfInBounds_toArray, List.set_cons_zero, List.set_cons_succ]
      go_simp
      refine hK.out _ _ ?_
      exact ⟨y12, y13, .bool true, y15, y16, y17, .bool true, .bool true, y4, by simp only [puts, Act.put, List.setIfInBounds_toArray, List.set_cons_zero, List.set_cons_succ], hb, fun h => (f0.out (upd_of rfl h)), fun h => (f1.out (upd_of rfl h)), fun h => rfl, fun h => (f3.out (upd_of rfl h)), fun h => (f4.out (upd_of rfl h)), fun h => (f5.out (upd_of rfl h)), fun h => rfl, fun _ => rfl, fun h => (f8.out (upd_of rfl h)), trivial⟩
    · intro dd aa ww K hc hun hn hI hK
      obtain ⟨y12, y13, y14, y15, y16, y17, y18, y19, y4, ea, hb, f0, f1, f2, f3, f4, f5, f6, f7, f8, _⟩ := hI
      try simp [Region.binds] at hn
      have ex := f7.out (by first | (simp [hn]; done) | exact hc.reach (f := 8) (by decide +kernel) hn | exact hc.reach (f := 8) (by decide +kernel) hn.1 | exact hc.reach (f := 8) (by decide +kernel) hn.2 | exact hc.reach (f := 8) (by decide +kernel) hn.2.1 | exact hc.reach (f := 8) (by decide +kernel) hn.2.2)
      subst ex
      subst ea
      simp only [puts, Act.put, List.setIfInBounds_toArray, List.set_cons_zero, List.set_cons_succ]
      go_simp
      refine hK.out _ _ ?_
      exact ⟨y12, y13, y14, y15, y16, y17, y18, .bool true, .bool true, by simp only [puts, Act.put, List.setIfInBounds_toArray, List.set_cons_zero, List.set_cons_succ], hb, fun h => (f0.out (upd_of rfl h)), fun h => (f1.out (upd_of rfl h)), fun h => (f2.out (upd_of rfl h)), fun h => (f3.out (upd_of rfl h)), fun h => (f4.out (upd_of rfl h)), fun h => (f5.out (upd_of rfl h)), fun h => (f6.out (upd_of rfl h)), fun h => rfl, fun _ => rfl, trivial⟩
  intro dd aa w4 hd hI
  obtain ⟨y12, y13, y14, y15, y16, y17, y18, y19, y4, ea, hb, f0, f1, f2, f3, f4, f5, f6, f7, f8, _⟩ := hI
  have ex := f0.out (hd 0 (by simp))
  subst ex
  have ex := f1.out (hd 1 (by simp))
  subst ex
  have ex := f2.out (hd 2 (by simp))
  subst ex
  have ex := f3.out (hd 3 (by simp))
  subst ex
  have ex := f4.out (hd 4 (by simp))
  subst ex
  obtain ⟨ahF, nhF, chF, ex, hF⟩ := f5.out (hd 5 (by simp))
  subst ex
  have ex := f6.out (hd 6 (by simp))
  subst ex
  have ex := f7.out (hd 7 (by simp))
  subst ex
  have ex := f8.out (hd 8 (by simp))
  subst ex
  subst ea
  simp only [puts, Act.put, List.setIfInBounds_toArray, List.set_cons_zero, List.set_cons_succ]
  have hR := hR.past hb
  have qx0 := bq hb lx qx0; have qx1 := bq hb lx qx1; have qx2 := bq hb lx qx2
  have lx := bl hb lx
  have qn0 := bq hb ln qn0; have qn1 := bq hb ln qn1
  have ln := bl hb ln
  have hB := below_later hB hb
  clear hb hd
  go_wp2
  go_ret
  exact ⟨rfl, hB⟩

set_option maxRecDepth 100000 in
set_option maxHeartbeats 16000000 in
theorem ratioKnown_any (w : World) : Calls Try.prog 6 #[] w (RetVal w (.bool true)) := by
  have hfd := fld0
  go_enter Try.func6, Try.ntmps6
  have hB := Below.refl w.heap.size w
  go_wp2_with fail
  with_reducible refine (pair_ok (x := 0) (y := 7) (q := fr 0 1) (by decide) (by decide +kernel) _ (by decide) (by decide)).mono ?_
  rintro e w1 ⟨ahAU, nhAU, chAU, ahAD, nhAD, chAD, rfl, hAU, hAD, hb⟩
  have hB := below_later hB hb
  clear hb
  go_wp2_with fail
  obtain ⟨w2, hW, hz0, hb, q, f⟩ := box1g w1 (w1.heap.size) (by omega) #[.bool (neg (fr 0 1).num), .slice ahAU nhAU chAU, .slice ahAD nhAD chAD] 31
  rw [hW]
  clear hW
  have hAU := hAU.past hb
  have hAD := hAD.past hb
  have hB := below_later hB hb
  clear hb
  have la : w1.heap.size < w2.heap.size := by omega
  have qa0 := q 0; have qa1 := q 1; have qa2 := q 2
  simp only [List.getElem?_toArray, List.getElem?_cons_zero, List.getElem?_cons_succ] at qa0 qa1 qa2
  clear q f
  clear hz0
  with_reducible refine (pair_zero 1 _ (by decide)).mono ?_
  rintro e w3 ⟨a9, n9, c9, a8, n8, c8, rfl, hb⟩
  have hAU := hAU.past hb
  have hAD := hAD.past hb
  have qa0 := bq hb la qa0; have qa1 := bq hb la qa1; have qa2 := bq hb la qa2
  have la := bl hb la
  have hB := below_later hB hb
  clear hb
  go_wp2_with fail
  obtain ⟨w4, hW, hz0, hb, q, f⟩ := box1g w3 (w3.heap.size) (by omega) #[.bool false, .slice a9 n9 c9, .slice a8 n8 c8] 31
  rw [hW]
  clear hW
  have hAU := hAU.past hb
  have hAD := hAD.past hb
  have qa0 := bq hb la qa0; have qa1 := bq hb la qa1; have qa2 := bq hb la qa2
  have la := bl hb la
  have hB := below_later hB hb
  clear hb
  have lzz : w3.heap.size < w4.heap.size := by omega
  have qzz0 := q 0; have qzz1 := q 1; have qzz2 := q 2
  simp only [List.getElem?_toArray, List.getElem?_cons_zero, List.getElem?_cons_succ] at qzz0 qzz1 qzz2
  clear q f
  clear hz0
  refine (of05_fr (-4) 1 (by decide) (by decide) _ (by decide) (by decide) (by decide)).mono ?_
  rintro e w5 ⟨ah1U, nh1U, ch1U, ah1D, nh1D, ch1D, rfl, h1U, h1D, hb⟩
  have hAU := hAU.past hb
  have hAD := hAD.past hb
  have qa0 := bq hb la qa0; have qa1 := bq hb la qa1; have qa2 := bq hb la qa2
  have la := bl hb la
  have qzz0 := bq hb lzz qzz0; have qzz1 := bq hb lzz qzz1; have qzz2 := bq hb lzz qzz2
  have lzz := bl hb lzz
  have hB := below_later hB hb
  clear hb
  go_wp2_with fail
  obtain ⟨w6, hW, hz0, hb, q, f⟩ := box1g w5 (w5.heap.size) (by omega) #[.int .u64 6] 51
  have h0l6 : OwnAt w6 w5.heap.size (some ⟨w5.heap.size, 0, none⟩) 1 1 [6] := by rw [← hW]; exact litG _ _ _ [6] 1 (by omega) rfl rfl (by decide) (by first | decide | (simp; omega))
  rw [hW]
  clear hW
  have hAU := hAU.past hb
  have hAD := hAD.past hb
  have h1U := h1U.past hb
  have h1D := h1D.past hb
  have qa0 := bq hb la qa0; have qa1 := bq hb la qa1; have qa2 := bq hb la qa2
  have la := bl hb la
  have hB := below_later hB hb
  clear hb
  have l6 := h0l6
  clear h0l6
  clear q f
  clear hz0
  refine (make_ok (p := fr (-4) 1) (d := 6) (q := fr (-2) 3) h1U.toNatAt l6.toNatAt (by decide) (by decide +kernel) (by rw [← h1U.len]; decide) (by decide)).mono ?_
  rintro e w7 ⟨ahBU, nhBU, chBU, ahBD, nhBD, chBD, rfl, hBU, hBD, hb⟩
  have hAU := hAU.past hb
  have hAD := hAD.past hb
  have h1U := h1U.past hb
  have h1D := h1D.past hb
  have l6 := l6.past hb
  have qa0 := bq hb la qa0; have qa1 := bq hb la qa1; have qa2 := bq hb la qa2
  have la := bl hb la
  have hB := below_later hB hb
  clear hb
  go_wp2_with fail
  obtain ⟨w8, hW, hz0, hb, q, f⟩ := box1g w7 (w7.heap.size) (by omega) #[.bool (neg (fr (-2) 3).num), .slice ahBU nhBU chBU, .slice ahBD nhBD chBD] 31
  rw [hW]
  clear hW
  have hAU := hAU.past hb
  have hAD := hAD.past hb
  have hBU := hBU.past hb
  have hBD := hBD.past hb
  have qa0 := bq hb la qa0; have qa1 := bq hb la qa1; have qa2 := bq hb la qa2
  have la := bl hb la
  have hB := below_later hB hb
  clear hb
  have lb : w7.heap.size < w8.heap.size := by omega
  have qb0 := q 0; have qb1 := q 1; have qb2 := q 2
  simp only [List.getElem?_toArray, List.getElem?_cons_zero, List.getElem?_cons_succ] at qb0 qb1 qb2
  clear q f
  clear hz0
  with_reducible refine (add_none0 _).mono ?_
  rintro e w9 ⟨ahCU, nhCU, chCU, ahCD, nhCD, chCD, rfl, hCU, hCD, hb⟩
  have hAU := hAU.past hb
  have hAD := hAD.past hb
  have hBU := hBU.past hb
  have hBD := hBD.past hb
  have qa0 := bq hb la qa0; have qa1 := bq hb la qa1; have qa2 := bq hb la qa2
  have la := bl hb la
  have qb0 := bq hb lb qb0; have qb1 := bq hb lb qb1; have qb2 := bq hb lb qb2
  have lb := bl hb lb
  have hB := below_later hB hb
  clear hb
  go_wp2_with fail
  obtain ⟨w10, hW, hz0, hb, q, f⟩ := box1g w9 (w9.heap.size) (by omega) #[.bool (neg (fr 0 1).num), .slice ahCU nhCU chCU, .slice ahCD nhCD chCD] 31
  rw [hW]
  clear hW
  have hAU := hAU.past hb
  have hAD := hAD.past hb
  have hBU := hBU.past hb
  have hBD := hBD.past hb
  have hCU := hCU.past hb
  have hCD := hCD.past hb
  have qa0 := bq hb la qa0; have qa1 := bq hb la qa1; have qa2 := bq hb la qa2
  have la := bl hb la
  have qb0 := bq hb lb qb0; have qb1 := bq hb lb qb1; have qb2 := bq hb lb qb2
  have lb := bl hb lb
  have hB := below_later hB hb
  clear hb
  have lc : w9.heap.size < w10.heap.size := by omega
  have qc0 := q 0; have qc1 := q 1; have qc2 := q 2
  simp only [List.getElem?_toArray, List.getElem?_cons_zero, List.getElem?_cons_succ] at qc0 qc1 qc2
  clear q f
  clear hz0
  with_reducible refine (mul_none1 _).mono ?_
  rintro e w11 ⟨ahDU, nhDU, chDU, ahDD, nhDD, chDD, rfl, hDU, hDD, hb⟩
  have hAU := hAU.past hb
  have hAD := hAD.past hb
  have hBU := hBU.past hb
  have hBD := hBD.past hb
  have hCU := hCU.past hb
  have hCD := hCD.past hb
  have qa0 := bq hb la qa0; have qa1 := bq hb la qa1; have qa2 := bq hb la qa2
  have la := bl hb la
  have qb0 := bq hb lb qb0; have qb1 := bq hb lb qb1; have qb2 := bq hb lb qb2
  have lb := bl hb lb
  have qc0 := bq hb lc qc0; have qc1 := bq hb lc qc1; have qc2 := bq hb lc qc2
  have lc := bl hb lc
  have hB := below_later hB hb
  clear hb
  go_wp2_with fail
  obtain ⟨w12, hW, hz0, hb, q, f⟩ := box1g w11 (w11.heap.size) (by omega) #[.bool (neg (fr 1 1).num), .slice ahDU nhDU chDU, .slice ahDD nhDD chDD] 31
  rw [hW]
  clear hW
  have hAU := hAU.past hb
  have hAD := hAD.past hb
  have hBU := hBU.past hb
  have hBD := hBD.past hb
  have hCU := hCU.past hb
  have hCD := hCD.past hb
  have hDU := hDU.past hb
  have hDD := hDD.past hb
  have qa0 := bq hb la qa0; have qa1 := bq hb la qa1; have qa2 := bq hb la qa2
  have la := bl hb la
  have qb0 := bq hb lb qb0; have qb1 := bq hb lb qb1; have qb2 := bq hb lb qb2
  have lb := bl hb lb
  have qc0 := bq hb lc qc0; have qc1 := bq hb lc qc1; have qc2 := bq hb lc qc2
  have lc := bl hb lc
  have hB := below_later hB hb
  clear hb
  have ld : w11.heap.size < w12.heap.size := by omega
  have qd0 := q 0; have qd1 := q 1; have qd2 := q 2
  simp only [List.getElem?_toArray, List.getElem?_cons_zero, List.getElem?_cons_succ] at qd0 qd1 qd2
  clear q f
  clear hz0
  refine (of05_fr 1 2 (by decide) (by decide) _ (by decide) (by decide) (by decide)).mono ?_
  rintro e w13 ⟨ah1U, nh1U, ch1U, ah1D, nh1D, ch1D, rfl, h1U, h1D, hb⟩
  have hAU := hAU.past hb
  have hAD := hAD.past hb
  have hBU := hBU.past hb
  have hBD := hBD.past hb
  have hCU := hCU.past hb
  have hCD := hCD.past hb
  have hDU := hDU.past hb
  have hDD := hDD.past hb
  have qa0 := bq hb la qa0; have qa1 := bq hb la qa1; have qa2 := bq hb la qa2
  have la := bl hb la
  have qb0 := bq hb lb qb0; have qb1 := bq hb lb qb1; have qb2 := bq hb lb qb2
  have lb := bl hb lb
  have qc0 := bq hb lc qc0; have qc1 := bq hb lc qc1; have qc2 := bq hb lc qc2
  have lc := bl hb lc
  have qd0 := bq hb ld qd0; have qd1 := bq hb ld qd1; have qd2 := bq hb ld qd2
  have ld := bl hb ld
  have hB := below_later hB hb
  clear hb
  go_wp2_with fail
  refine (of05_fr 1 2 (by decide) (by decide) _ (by decide) (by decide) (by decide)).mono ?_
  rintro e w14 ⟨ah2U, nh2U, ch2U, ah2D, nh2D, ch2D, rfl, h2U, h2D, hb⟩
  have hAU := hAU.past hb
  have hAD := hAD.past hb
  have hBU := hBU.past hb
  have hBD := hBD.past hb
  have hCU := hCU.past hb
  have hCD := hCD.past hb
  have hDU := hDU.past hb
  have hDD := hDD.past hb
  have h1U := h1U.past hb
  have h1D := h1D.past hb
  have qa0 := bq hb la qa0; have qa1 := bq hb la qa1; have qa2 := bq hb la qa2
  have la := bl hb la
  have qb0 := bq hb lb qb0; have qb1 := bq hb lb qb1; have qb2 := bq hb lb qb2
  have lb := bl hb lb
  have qc0 := bq hb lc qc0; have qc1 := bq hb lc qc1; have qc2 := bq hb lc qc2
  have lc := bl hb lc
  have qd0 := bq hb ld qd0; have qd1 := bq hb ld qd1; have qd2 := bq hb ld qd2
  have ld := bl hb ld
  have hB := below_later hB hb
  clear hb
  go_wp2_with fail
  with_reducible refine (sub_rat h1U.toNatAt h1D.toNatAt h2U.toNatAt h2D.toNatAt (fr_short _ _ _ _ (by decide) (by decide)) (fr_short _ _ _ _ (by decide) (by decide))).mono ?_
  rintro e w15 ⟨ahXU, nhXU, chXU, ahXD, nhXD, chXD, rfl, hXU, hXD, hb⟩
  have hAU := hAU.past hb
  have hAD := hAD.past hb
  have hBU := hBU.past hb
  have hBD := hBD.past hb
  have hCU := hCU.past hb
  have hCD := hCD.past hb
  have hDU := hDU.past hb
  have hDD := hDD.past hb
  have h1U := h1U.past hb
  have h1D := h1D.past hb
  have h2U := h2U.past hb
  have h2D := h2D.past hb
  have qa0 := bq hb la qa0; have qa1 := bq hb la qa1; have qa2 := bq hb la qa2
  have la := bl hb la
  have qb0 := bq hb lb qb0; have qb1 := bq hb lb qb1; have qb2 := bq hb lb qb2
  have lb := bl hb lb
  have qc0 := bq hb lc qc0; have qc1 := bq hb lc qc1; have qc2 := bq hb lc qc2
  have lc := bl hb lc
  have qd0 := bq hb ld qd0; have qd1 := bq hb ld qd1; have qd2 := bq hb ld qd2
  have ld := bl hb ld
  have hB := below_later hB hb
  clear hb
  have ev : fr 1 2 - fr 1 2 = fr 0 1 := by decide +kernel
  rw [ev] at hXU hXD ⊢
  clear ev
  go_wp2_with fail
  obtain ⟨w16, hW, hz0, hb, q, f⟩ := box1g w15 (w15.heap.size) (by omega) #[.bool (neg (fr 0 1).num), .slice ahXU nhXU chXU, .slice ahXD nhXD chXD] 31
  rw [hW]
  clear hW
  have hAU := hAU.past hb
  have hAD := hAD.past hb
  have hBU := hBU.past hb
  have hBD := hBD.past hb
  have hCU := hCU.past hb
  have hCD := hCD.past hb
  have hDU := hDU.past hb
  have hDD := hDD.past hb
  have hXU := hXU.past hb
  have hXD := hXD.past hb
  have qa0 := bq hb la qa0; have qa1 := bq hb la qa1; have qa2 := bq hb la qa2
  have la := bl hb la
  have qb0 := bq hb lb qb0; have qb1 := bq hb lb qb1; have qb2 := bq hb lb qb2
  have lb := bl hb lb
  have qc0 := bq hb lc qc0; have qc1 := bq hb lc qc1; have qc2 := bq hb lc qc2
  have lc := bl hb lc
  have qd0 := bq hb ld qd0; have qd1 := bq hb ld qd1; have qd2 := bq hb ld qd2
  have ld := bl hb ld
  have hB := below_later hB hb
  clear hb
  have lx : w15.heap.size < w16.heap.size := by omega
  have qx0 := q 0; have qx1 := q 1; have qx2 := q 2
  simp only [List.getElem?_toArray, List.getElem?_cons_zero, List.getElem?_cons_succ] at qx0 qx1 qx2
  clear q f
  clear hz0
  refine (of05_fr 1 2 (by decide) (by decide) _ (by decide) (by decide) (by decide)).mono ?_
  rintro e w17 ⟨ah1U, nh1U, ch1U, ah1D, nh1D, ch1D, rfl, h1U, h1D, hb⟩
  have hAU := hAU.past hb
  have hAD := hAD.past hb
  have hBU := hBU.past hb
  have hBD := hBD.past hb
  have hCU := hCU.past hb
  have hCD := hCD.past hb
  have hDU := hDU.past hb
  have hDD := hDD.past hb
  have hXU := hXU.past hb
  have hXD := hXD.past hb
  have qa0 := bq hb la qa0; have qa1 := bq hb la qa1; have qa2 := bq hb la qa2
  have la := bl hb la
  have qb0 := bq hb lb qb0; have qb1 := bq hb lb qb1; have qb2 := bq hb lb qb2
  have lb := bl hb lb
  have qc0 := bq hb lc qc0; have qc1 := bq hb lc qc1; have qc2 := bq hb lc qc2
  have lc := bl hb lc
  have qd0 := bq hb ld qd0; have qd1 := bq hb ld qd1; have qd2 := bq hb ld qd2
  have ld := bl hb ld
  have qx0 := bq hb lx qx0; have qx1 := bq hb lx qx1; have qx2 := bq hb lx qx2
  have lx := bl hb lx
  have hB := below_later hB hb
  clear hb
  go_wp2_with fail
  refine (of05_fr (-1) 4 (by decide) (by decide) _ (by decide) (by decide) (by decide)).mono ?_
  rintro e w18 ⟨ah2U, nh2U, ch2U, ah2D, nh2D, ch2D, rfl, h2U, h2D, hb⟩
  have hAU := hAU.past hb
  have hAD := hAD.past hb
  have hBU := hBU.past hb
  have hBD := hBD.past hb
  have hCU := hCU.past hb
  have hCD := hCD.past hb
  have hDU := hDU.past hb
  have hDD := hDD.past hb
  have hXU := hXU.past hb
  have hXD := hXD.past hb
  have h1U := h1U.past hb
  have h1D := h1D.past hb
  have qa0 := bq hb la qa0; have qa1 := bq hb la qa1; have qa2 := bq hb la qa2
  have la := bl hb la
  have qb0 := bq hb lb qb0; have qb1 := bq hb lb qb1; have qb2 := bq hb lb qb2
  have lb := bl hb lb
  have qc0 := bq hb lc qc0; have qc1 := bq hb lc qc1; have qc2 := bq hb lc qc2
  have lc := bl hb lc
  have qd0 := bq hb ld qd0; have qd1 := bq hb ld qd1; have qd2 := bq hb ld qd2
  have ld := bl hb ld
  have qx0 := bq hb lx qx0; have qx1 := bq hb lx qx1; have qx2 := bq hb lx qx2
  have lx := bl hb lx
  have hB := below_later hB hb
  clear hb
  go_wp2_with fail
  with_reducible refine (div_rat h1U.toNatAt h1D.toNatAt h2U.toNatAt h2D.toNatAt (fr_short _ _ _ _ (by decide) (by decide)) (fr_short _ _ _ _ (by decide) (by decide)) (by decide +kernel)).mono ?_
  rintro e w19 ⟨ahYU, nhYU, chYU, ahYD, nhYD, chYD, rfl, hYU, hYD, hb⟩
  have hAU := hAU.past hb
  have hAD := hAD.past hb
  have hBU := hBU.past hb
  have hBD := hBD.past hb
  have hCU := hCU.past hb
  have hCD := hCD.past hb
  have hDU := hDU.past hb
  have hDD := hDD.past hb
  have hXU := hXU.past hb
  have hXD := hXD.past hb
  have h1U := h1U.past hb
  have h1D := h1D.past hb
  have h2U := h2U.past hb
  have h2D := h2D.past hb
  have qa0 := bq hb la qa0; have qa1 := bq hb la qa1; have qa2 := bq hb la qa2
  have la := bl hb la
  have qb0 := bq hb lb qb0; have qb1 := bq hb lb qb1; have qb2 := bq hb lb qb2
  have lb := bl hb lb
  have qc0 := bq hb lc qc0; have qc1 := bq hb lc qc1; have qc2 := bq hb lc qc2
  have lc := bl hb lc
  have qd0 := bq hb ld qd0; have qd1 := bq hb ld qd1; have qd2 := bq hb ld qd2
  have ld := bl hb ld
  have qx0 := bq hb lx qx0; have qx1 := bq hb lx qx1; have qx2 := bq hb lx qx2
  have lx := bl hb lx
  have hB := below_later hB hb
  clear hb
  have ev : fr 1 2 / fr (-1) 4 = fr (-2) 1 := by decide +kernel
  rw [ev] at hYU hYD ⊢
  clear ev
  go_wp2_with fail
  obtain ⟨w20, hW, hz0, hb, q, f⟩ := box1g w19 (w19.heap.size) (by omega) #[.bool (neg (fr (-2) 1).num), .slice ahYU nhYU chYU, .slice ahYD nhYD chYD] 31
  rw [hW]
  clear hW
  have hAU := hAU.past hb
  have hAD := hAD.past hb
  have hBU := hBU.past hb
  have hBD := hBD.past hb
  have hCU := hCU.past hb
  have hCD := hCD.past hb
  have hDU := hDU.past hb
  have hDD := hDD.past hb
  have hXU := hXU.past hb
  have hXD := hXD.past hb
  have hYU := hYU.past hb
  have hYD := hYD.past hb
  have qa0 := bq hb la qa0; have qa1 := bq hb la qa1; have qa2 := bq hb la qa2
  have la := bl hb la
  have qb0 := bq hb lb qb0; have qb1 := bq hb lb qb1; have qb2 := bq hb lb qb2
  have lb := bl hb lb
  have qc0 := bq hb lc qc0; have qc1 := bq hb lc qc1; have qc2 := bq hb lc qc2
  have lc := bl hb lc
  have qd0 := bq hb ld qd0; have qd1 := bq hb ld qd1; have qd2 := bq hb ld qd2
  have ld := bl hb ld
  have qx0 := bq hb lx qx0; have qx1 := bq hb lx qx1; have qx2 := bq hb lx qx2
  have lx := bl hb lx
  have hB := below_later hB hb
  clear hb
  have ly : w19.heap.size < w20.heap.size := by omega
  have qy0 := q 0; have qy1 := q 1; have qy2 := q 2
  simp only [List.getElem?_toArray, List.getElem?_cons_zero, List.getElem?_cons_succ] at qy0 qy1 qy2
  clear q f
  clear hz0
  refine (of05_fr 1 2 (by decide) (by decide) _ (by decide) (by decide) (by decide)).mono ?_
  rintro e w21 ⟨ah1U, nh1U, ch1U, ah1D, nh1D, ch1D, rfl, h1U, h1D, hb⟩
  have hAU := hAU.past hb
  have hAD := hAD.past hb
  have hBU := hBU.past hb
  have hBD := hBD.past hb
  have hCU := hCU.past hb
  have hCD := hCD.past hb
  have hDU := hDU.past hb
  have hDD := hDD.past hb
  have hXU := hXU.past hb
  have hXD := hXD.past hb
  have hYU := hYU.past hb
  have hYD := hYD.past hb
  have qa0 := bq hb la qa0; have qa1 := bq hb la qa1; have qa2 := bq hb la qa2
  have la := bl hb la
  have qb0 := bq hb lb qb0; have qb1 := bq hb lb qb1; have qb2 := bq hb lb qb2
  have lb := bl hb lb
  have qc0 := bq hb lc qc0; have qc1 := bq hb lc qc1; have qc2 := bq hb lc qc2
  have lc := bl hb lc
  have qd0 := bq hb ld qd0; have qd1 := bq hb ld qd1; have qd2 := bq hb ld qd2
  have ld := bl hb ld
  have qx0 := bq hb lx qx0; have qx1 := bq hb lx qx1; have qx2 := bq hb lx qx2
  have lx := bl hb lx
  have qy0 := bq hb ly qy0; have qy1 := bq hb ly qy1; have qy2 := bq hb ly qy2
  have ly := bl hb ly
  have hB := below_later hB hb
  clear hb
  go_wp2_with fail
  refine (of05_fr 0 1 (by decide) (by decide) _ (by decide) (by decide) (by decide)).mono ?_
  rintro e w22 ⟨ah2U, nh2U, ch2U, ah2D, nh2D, ch2D, rfl, h2U, h2D, hb⟩
  have hAU := hAU.past hb
  have hAD := hAD.past hb
  have hBU := hBU.past hb
  have hBD := hBD.past hb
  have hCU := hCU.past hb
  have hCD := hCD.past hb
  have hDU := hDU.past hb
  have hDD := hDD.past hb
  have hXU := hXU.past hb
  have hXD := hXD.past hb
  have hYU := hYU.past hb
  have hYD := hYD.past hb
  have h1U := h1U.past hb
  have h1D := h1D.past hb
  have qa0 := bq hb la qa0; have qa1 := bq hb la qa1; have qa2 := bq hb la qa2
  have la := bl hb la
  have qb0 := bq hb lb qb0; have qb1 := bq hb lb qb1; have qb2 := bq hb lb qb2
  have lb := bl hb lb
  have qc0 := bq hb lc qc0; have qc1 := bq hb lc qc1; have qc2 := bq hb lc qc2
  have lc := bl hb lc
  have qd0 := bq hb ld qd0; have qd1 := bq hb ld qd1; have qd2 := bq hb ld qd2
  have ld := bl hb ld
  have qx0 := bq hb lx qx0; have qx1 := bq hb lx qx1; have qx2 := bq hb lx qx2
  have lx := bl hb lx
  have qy0 := bq hb ly qy0; have qy1 := bq hb ly qy1; have qy2 := bq hb ly qy2
  have ly := bl hb ly
  have hB := below_later hB hb
  clear hb
  go_wp2_with fail
  with_reducible refine (div_zero05 h1U.toNatAt h1D.toNatAt h2U.toNatAt h2D.toNatAt (fr_short _ _ _ _ (by decide) (by decide)) (fr_short _ _ _ _ (by decide) (by decide)) (by decide +kernel)).mono ?_
  rintro e w23 ⟨a9, n9, c9, a8, n8, c8, rfl, hb⟩
  have hAU := hAU.past hb
  have hAD := hAD.past hb
  have hBU := hBU.past hb
  have hBD := hBD.past hb
  have hCU := hCU.past hb
  have hCD := hCD.past hb
  have hDU := hDU.past hb
  have hDD := hDD.past hb
  have hXU := hXU.past hb
  have hXD := hXD.past hb
  have hYU := hYU.past hb
  have hYD := hYD.past hb
  have h1U := h1U.past hb
  have h1D := h1D.past hb
  have h2U := h2U.past hb
  have h2D := h2D.past hb
  have qa0 := bq hb la qa0; have qa1 := bq hb la qa1; have qa2 := bq hb la qa2
  have la := bl hb la
  have qb0 := bq hb lb qb0; have qb1 := bq hb lb qb1; have qb2 := bq hb lb qb2
  have lb := bl hb lb
  have qc0 := bq hb lc qc0; have qc1 := bq hb lc qc1; have qc2 := bq hb lc qc2
  have lc := bl hb lc
  have qd0 := bq hb ld qd0; have qd1 := bq hb ld qd1; have qd2 := bq hb ld qd2
  have ld := bl hb ld
  have qx0 := bq hb lx qx0; have qx1 := bq hb lx qx1; have qx2 := bq hb lx qx2
  have lx := bl hb lx
  have qy0 := bq hb ly qy0; have qy1 := bq hb ly qy1; have qy2 := bq hb ly qy2
  have ly := bl hb ly
  have hB := below_later hB hb
  clear hb
  go_wp2_with fail
  obtain ⟨w24, hW, hz0, hb, q, f⟩ := box1g w23 (w23.heap.size) (by omega) #[.bool false, .slice a9 n9 c9, .slice a8 n8 c8] 31
  rw [hW]
  clear hW
  have hAU := hAU.past hb
  have hAD := hAD.past hb
  have hBU := hBU.past hb
  have hBD := hBD.past hb
  have hCU := hCU.past hb
  have hCD := hCD.past hb
  have hDU := hDU.past hb
  have hDD := hDD.past hb
  have hXU := hXU.past hb
  have hXD := hXD.past hb
  have hYU := hYU.past hb
  have hYD := hYD.past hb
  have qa0 := bq hb la qa0; have qa1 := bq hb la qa1; have qa2 := bq hb la qa2
  have la := bl hb la
  have qb0 := bq hb lb qb0; have qb1 := bq hb lb qb1; have qb2 := bq hb lb qb2
  have lb := bl hb lb
  have qc0 := bq hb lc qc0; have qc1 := bq hb lc qc1; have qc2 := bq hb lc qc2
  have lc := bl hb lc
  have qd0 := bq hb ld qd0; have qd1 := bq hb ld qd1; have qd2 := bq hb ld qd2
  have ld := bl hb ld
  have qx0 := bq hb lx qx0; have qx1 := bq hb lx qx1; have qx2 := bq hb lx qx2
  have lx := bl hb lx
  have qy0 := bq hb ly qy0; have qy1 := bq hb ly qy1; have qy2 := bq hb ly qy2
  have ly := bl hb ly
  have hB := below_later hB hb
  clear hb
  have lzz : w23.heap.size < w24.heap.size := by omega
  have qzz0 := q 0; have qzz1 := q 1; have qzz2 := q 2
  simp only [List.getElem?_toArray, List.getElem?_cons_zero, List.getElem?_cons_succ] at qzz0 qzz1 qzz2
  clear q f
  clear hz0
  refine (is05_yes hAU.toNatAt hAD.toNatAt (0) 1 rfl rfl (by decide) (by decide) (by decide)).mono ?_
  rintro e w25 ⟨rfl, hb⟩
  have hAU := hAU.past hb
  have hAD := hAD.past hb
  have hBU := hBU.past hb
  have hBD := hBD.past hb
  have hCU := hCU.past hb
  have hCD := hCD.past hb
  have hDU := hDU.past hb
  have hDD := hDD.past hb
  have hXU := hXU.past hb
  have hXD := hXD.past hb
  have hYU := hYU.past hb
  have hYD := hYD.past hb
  have qa0 := bq hb la qa0; have qa1 := bq hb la qa1; have qa2 := bq hb la qa2
  have la := bl hb la
  have qb0 := bq hb lb qb0; have qb1 := bq hb lb qb1; have qb2 := bq hb lb qb2
  have lb := bl hb lb
  have qc0 := bq hb lc qc0; have qc1 := bq hb lc qc1; have qc2 := bq hb lc qc2
  have lc := bl hb lc
  have qd0 := bq hb ld qd0; have qd1 := bq hb ld qd1; have qd2 := bq hb ld qd2
  have ld := bl hb ld
  have qx0 := bq hb lx qx0; have qx1 := bq hb lx qx1; have qx2 := bq hb lx qx2
  have lx := bl hb lx
  have qy0 := bq hb ly qy0; have qy1 := bq hb ly qy1; have qy2 := bq hb ly qy2
  have ly := bl hb ly
  have qzz0 := bq hb lzz qzz0; have qzz1 := bq hb lzz qzz1; have qzz2 := bq hb lzz qzz2
  have lzz := bl hb lzz
  have hB := below_later hB hb
  clear hb
  go_wp2_with fail
  refine (is05_yes hBU.toNatAt hBD.toNatAt (-2) 3 rfl rfl (by decide) (by decide) (by decide)).mono ?_
  rintro e w26 ⟨rfl, hb⟩
  have hAU := hAU.past hb
  have hAD := hAD.past hb
  have hBU := hBU.past hb
  have hBD := hBD.past hb
  have hCU := hCU.past hb
  have hCD := hCD.past hb
  have hDU := hDU.past hb
  have hDD := hDD.past hb
  have hXU := hXU.past hb
  have hXD := hXD.past hb
  have hYU := hYU.past hb
  have hYD := hYD.past hb
  have qa0 := bq hb la qa0; have qa1 := bq hb la qa1; have qa2 := bq hb la qa2
  have la := bl hb la
  have qb0 := bq hb lb qb0; have qb1 := bq hb lb qb1; have qb2 := bq hb lb qb2
  have lb := bl hb lb
  have qc0 := bq hb lc qc0; have qc1 := bq hb lc qc1; have qc2 := bq hb lc qc2
  have lc := bl hb lc
  have qd0 := bq hb ld qd0; have qd1 := bq hb ld qd1; have qd2 := bq hb ld qd2
  have ld := bl hb ld
  have qx0 := bq hb lx qx0; have qx1 := bq hb lx qx1; have qx2 := bq hb lx qx2
  have lx := bl hb lx
  have qy0 := bq hb ly qy0; have qy1 := bq hb ly qy1; have qy2 := bq hb ly qy2
  have ly := bl hb ly
  have hB := below_later hB hb
  clear hb
  go_wp2_with fail
  refine (is05_yes hCU.toNatAt hCD.toNatAt (0) 1 rfl rfl (by decide) (by decide) (by decide)).mono ?_
  rintro e w27 ⟨rfl, hb⟩
  have hAU := hAU.past hb
  have hAD := hAD.past hb
  have hBU := hBU.past hb
  have hBD := hBD.past hb
  have hCU := hCU.past hb
  have hCD := hCD.past hb
  have hDU := hDU.past hb
  have hDD := hDD.past hb
  have hXU := hXU.past hb
  have hXD := hXD.past hb
  have hYU := hYU.past hb
  have hYD := hYD.past hb
  have qa0 := bq hb la qa0; have qa1 := bq hb la qa1; have qa2 := bq hb la qa2
  have la := bl hb la
  have qb0 := bq hb lb qb0; have qb1 := bq hb lb qb1; have qb2 := bq hb lb qb2
  have lb := bl hb lb
  have qc0 := bq hb lc qc0; have qc1 := bq hb lc qc1; have qc2 := bq hb lc qc2
  have lc := bl hb lc
  have qd0 := bq hb ld qd0; have qd1 := bq hb ld qd1; have qd2 := bq hb ld qd2
  have ld := bl hb ld
  have qx0 := bq hb lx qx0; have qx1 := bq hb lx qx1; have qx2 := bq hb lx qx2
  have lx := bl hb lx
  have qy0 := bq hb ly qy0; have qy1 := bq hb ly qy1; have qy2 := bq hb ly qy2
  have ly := bl hb ly
  have hB := below_later hB hb
  clear hb
  go_wp2_with fail
  refine (is05_yes hDU.toNatAt hDD.toNatAt (1) 1 rfl rfl (by decide) (by decide) (by decide)).mono ?_
  rintro e w28 ⟨rfl, hb⟩
  have hAU := hAU.past hb
  have hAD := hAD.past hb
  have hBU := hBU.past hb
  have hBD := hBD.past hb
  have hCU := hCU.past hb
  have hCD := hCD.past hb
  have hDU := hDU.past hb
  have hDD := hDD.past hb
  have hXU := hXU.past hb
  have hXD := hXD.past hb
  have hYU := hYU.past hb
  have hYD := hYD.past hb
  have qa0 := bq hb la qa0; have qa1 := bq hb la qa1; have qa2 := bq hb la qa2
  have la := bl hb la
  have qb0 := bq hb lb qb0; have qb1 := bq hb lb qb1; have qb2 := bq hb lb qb2
  have lb := bl hb lb
  have qc0 := bq hb lc qc0; have qc1 := bq hb lc qc1; have qc2 := bq hb lc qc2
  have lc := bl hb lc
  have qd0 := bq hb ld qd0; have qd1 := bq hb ld qd1; have qd2 := bq hb ld qd2
  have ld := bl hb ld
  have qx0 := bq hb lx qx0; have qx1 := bq hb lx qx1; have qx2 := bq hb lx qx2
  have lx := bl hb lx
  have qy0 := bq hb ly qy0; have qy1 := bq hb ly qy1; have qy2 := bq hb ly qy2
  have ly := bl hb ly
  have hB := below_later hB hb
  clear hb
  go_wp2_with fail
  refine (is05_yes hXU.toNatAt hXD.toNatAt (0) 1 rfl rfl (by decide) (by decide) (by decide)).mono ?_
  rintro e w29 ⟨rfl, hb⟩
  have hAU := hAU.past hb
  have hAD := hAD.past hb
  have hBU := hBU.past hb
  have hBD := hBD.past hb
  have hCU := hCU.past hb
  have hCD := hCD.past hb
  have hDU := hDU.past hb
  have hDD := hDD.past hb
  have hXU := hXU.past hb
  have hXD := hXD.past hb
  have hYU := hYU.past hb
  have hYD := hYD.past hb
  have qa0 := bq hb la qa0; have qa1 := bq hb la qa1; have qa2 := bq hb la qa2
  have la := bl hb la
  have qb0 := bq hb lb qb0; have qb1 := bq hb lb qb1; have qb2 := bq hb lb qb2
  have lb := bl hb lb
  have qc0 := bq hb lc qc0; have qc1 := bq hb lc qc1; have qc2 := bq hb lc qc2
  have lc := bl hb lc
  have qd0 := bq hb ld qd0; have qd1 := bq hb ld qd1; have qd2 := bq hb ld qd2
  have ld := bl hb ld
  have qx0 := bq hb lx qx0; have qx1 := bq hb lx qx1; have qx2 := bq hb lx qx2
  have lx := bl hb lx
  have qy0 := bq hb ly qy0; have qy1 := bq hb ly qy1; have qy2 := bq hb ly qy2
  have ly := bl hb ly
  have hB := below_later hB hb
  clear hb
  go_wp2_with fail
  refine (is05_yes hYU.toNatAt hYD.toNatAt (-2) 1 rfl rfl (by decide) (by decide) (by decide)).mono ?_
  rintro e w30 ⟨rfl, hb⟩
  have hAU := hAU.past hb
  have hAD := hAD.past hb
  have hBU := hBU.past hb
  have hBD := hBD.past hb
  have hCU := hCU.past hb
  have hCD := hCD.past hb
  have hDU := hDU.past hb
  have hDD := hDD.past hb
  have hXU := hXU.past hb
  have hXD := hXD.past hb
  have hYU := hYU.past hb
  have hYD := hYD.past hb
  have qa0 := bq hb la qa0; have qa1 := bq hb la qa1; have qa2 := bq hb la qa2
  have la := bl hb la
  have qb0 := bq hb lb qb0; have qb1 := bq hb lb qb1; have qb2 := bq hb lb qb2
  have lb := bl hb lb
  have qc0 := bq hb lc qc0; have qc1 := bq hb lc qc1; have qc2 := bq hb lc qc2
  have lc := bl hb lc
  have qd0 := bq hb ld qd0; have qd1 := bq hb ld qd1; have qd2 := bq hb ld qd2
  have ld := bl hb ld
  have qx0 := bq hb lx qx0; have qx1 := bq hb lx qx1; have qx2 := bq hb lx qx2
  have lx := bl hb lx
  have qy0 := bq hb ly qy0; have qy1 := bq hb ly qy1; have qy2 := bq hb ly qy2
  have ly := bl hb ly
  have hB := below_later hB hb
  clear hb
  go_wp2_with fail
  refine (of05_fr 1 2 (by decide) (by decide) _ (by decide) (by decide) (by decide)).mono ?_
  rintro e w31 ⟨ah1U, nh1U, ch1U, ah1D, nh1D, ch1D, rfl, h1U, h1D, hb⟩
  have hB := below_later hB hb
  clear hb
  go_wp2_with fail
  refine (of05_fr 2 3 (by decide) (by decide) _ (by decide) (by decide) (by decide)).mono ?_
  rintro e w32 ⟨ah2U, nh2U, ch2U, ah2D, nh2D, ch2D, rfl, h2U, h2D, hb⟩
  have h1U := h1U.past hb
  have h1D := h1D.past hb
  have hB := below_later hB hb
  clear hb
  go_wp2_with fail
  with_reducible refine (cmp_rat h1U.toNatAt h1D.toNatAt h2U.toNatAt h2D.toNatAt (fr_short _ _ _ _ (by decide) (by decide)) (fr_short _ _ _ _ (by decide) (by decide))).mono ?_
  rintro e w33 ⟨rfl, hb⟩
  have h1U := h1U.past hb
  have h1D := h1D.past hb
  have h2U := h2U.past hb
  have h2D := h2D.past hb
  have hB := below_later hB hb
  clear hb
  rw [show (fr 1 2 - fr 2 3).num.sign = -1 by decide +kernel]
  go_wp2_with fail
  refine (of05_fr 2 3 (by decide) (by decide) _ (by decide) (by decide) (by decide)).mono ?_
  rintro e w34 ⟨ah1U, nh1U, ch1U, ah1D, nh1D, ch1D, rfl, h1U, h1D, hb⟩
  have hB := below_later hB hb
  clear hb
  go_wp2_with fail
  with_reducible refine (pow_rat (n := 3) h1U.toNatAt h1D.toNatAt (fr_short _ _ _ _ (by decide) (by decide)) (by decide) (by decide) (.inl (by decide))).mono ?_
  rintro e w35 ⟨ahPU, nhPU, chPU, ahPD, nhPD, chPD, rfl, hPU, hPD, hb⟩
  have h1U := h1U.past hb
  have h1D := h1D.past hb
  have hB := below_later hB hb
  clear hb
  have ev : fr 2 3 ^ (3 : Int) = fr 8 27 := by decide +kernel
  rw [ev] at hPU hPD ⊢
  clear ev
  go_wp2_with fail
  obtain ⟨w36, hW, hz0, hb, q, f⟩ := box1g w35 (w35.heap.size) (by omega) #[.bool (neg (fr 8 27).num), .slice ahPU nhPU chPU, .slice ahPD nhPD chPD] 31
  rw [hW]
  clear hW
  have hPU := hPU.past hb
  have hPD := hPD.past hb
  have hB := below_later hB hb
  clear hb
  have lp : w35.heap.size < w36.heap.size := by omega
  have qp0 := q 0; have qp1 := q 1; have qp2 := q 2
  simp only [List.getElem?_toArray, List.getElem?_cons_zero, List.getElem?_cons_succ] at qp0 qp1 qp2
  clear q f
  clear hz0
  refine (of05_fr 2 3 (by decide) (by decide) _ (by decide) (by decide) (by decide)).mono ?_
  rintro e w37 ⟨ah1U, nh1U, ch1U, ah1D, nh1D, ch1D, rfl, h1U, h1D, hb⟩
  have hPU := hPU.past hb
  have hPD := hPD.past hb
  have qp0 := bq hb lp qp0; have qp1 := bq hb lp qp1; have qp2 := bq hb lp qp2
  have lp := bl hb lp
  have hB := below_later hB hb
  clear hb
  go_wp2_with fail
  with_reducible refine (pow_rat (n := -2) h1U.toNatAt h1D.toNatAt (fr_short _ _ _ _ (by decide) (by decide)) (by decide) (by decide) (.inr (by decide +kernel))).mono ?_
  rintro e w38 ⟨ahQU, nhQU, chQU, ahQD, nhQD, chQD, rfl, hQU, hQD, hb⟩
  have hPU := hPU.past hb
  have hPD := hPD.past hb
  have h1U := h1U.past hb
  have h1D := h1D.past hb
  have qp0 := bq hb lp qp0; have qp1 := bq hb lp qp1; have qp2 := bq hb lp qp2
  have lp := bl hb lp
  have hB := below_later hB hb
  clear hb
  have ev : fr 2 3 ^ (-2 : Int) = fr 9 4 := by decide +kernel
  rw [ev] at hQU hQD ⊢
  clear ev
  go_wp2_with fail
  obtain ⟨w39, hW, hz0, hb, q, f⟩ := box1g w38 (w38.heap.size) (by omega) #[.bool (neg (fr 9 4).num), .slice ahQU nhQU chQU, .slice ahQD nhQD chQD] 31
  rw [hW]
  clear hW
  have hPU := hPU.past hb
  have hPD := hPD.past hb
  have hQU := hQU.past hb
  have hQD := hQD.past hb
  have qp0 := bq hb lp qp0; have qp1 := bq hb lp qp1; have qp2 := bq hb lp qp2
  have lp := bl hb lp
  have hB := below_later hB hb
  clear hb
  have lq : w38.heap.size < w39.heap.size := by omega
  have qq0 := q 0; have qq1 := q 1; have qq2 := q 2
  simp only [List.getElem?_toArray, List.getElem?_cons_zero, List.getElem?_cons_succ] at qq0 qq1 qq2
  clear q f
  clear hz0
  refine (of05_fr 0 1 (by decide) (by decide) _ (by decide) (by decide) (by decide)).mono ?_
  rintro e w40 ⟨ah1U, nh1U, ch1U, ah1D, nh1D, ch1D, rfl, h1U, h1D, hb⟩
  have hPU := hPU.past hb
  have hPD := hPD.past hb
  have hQU := hQU.past hb
  have hQD := hQD.past hb
  have qp0 := bq hb lp qp0; have qp1 := bq hb lp qp1; have qp2 := bq hb lp qp2
  have lp := bl hb lp
  have qq0 := bq hb lq qq0; have qq1 := bq hb lq qq1; have qq2 := bq hb lq qq2
  have lq := bl hb lq
  have hB := below_later hB hb
  clear hb
  go_wp2_with fail
  with_reducible refine (pow_zero5 (n := -1) h1U.toNatAt h1D.toNatAt (fr_short _ _ _ _ (by decide) (by decide)) (by decide) (by decide) (by decide +kernel)).mono ?_
  rintro e w41 ⟨a9, n9, c9, a8, n8, c8, rfl, hb⟩
  have hPU := hPU.past hb
  have hPD := hPD.past hb
  have hQU := hQU.past hb
  have hQD := hQD.past hb
  have h1U := h1U.past hb
  have h1D := h1D.past hb
  have qp0 := bq hb lp qp0; have qp1 := bq hb lp qp1; have qp2 := bq hb lp qp2
  have lp := bl hb lp
  have qq0 := bq hb lq qq0; have qq1 := bq hb lq qq1; have qq2 := bq hb lq qq2
  have lq := bl hb lq
  have hB := below_later hB hb
  clear hb
  go_wp2_with fail
  obtain ⟨w42, hW, hz0, hb, q, f⟩ := box1g w41 (w41.heap.size) (by omega) #[.bool false, .slice a9 n9 c9, .slice a8 n8 c8] 31
  rw [hW]
  clear hW
  have hPU := hPU.past hb
  have hPD := hPD.past hb
  have hQU := hQU.past hb
  have hQD := hQD.past hb
  have qp0 := bq hb lp qp0; have qp1 := bq hb lp qp1; have qp2 := bq hb lp qp2
  have lp := bl hb lp
  have qq0 := bq hb lq qq0; have qq1 := bq hb lq qq1; have qq2 := bq hb lq qq2
  have lq := bl hb lq
  have hB := below_later hB hb
  clear hb
  have lzz : w41.heap.size < w42.heap.size := by omega
  have qzz0 := q 0; have qzz1 := q 1; have qzz2 := q 2
  simp only [List.getElem?_toArray, List.getElem?_cons_zero, List.getElem?_cons_succ] at qzz0 qzz1 qzz2
  clear q f
  clear hz0
  refine (of05_fr 0 1 (by decide) (by decide) _ (by decide) (by decide) (by decide)).mono ?_
  rintro e w43 ⟨ah1U, nh1U, ch1U, ah1D, nh1D, ch1D, rfl, h1U, h1D, hb⟩
  have hPU := hPU.past hb
  have hPD := hPD.past hb
  have hQU := hQU.past hb
  have hQD := hQD.past hb
  have qp0 := bq hb lp qp0; have qp1 := bq hb lp qp1; have qp2 := bq hb lp qp2
  have lp := bl hb lp
  have qq0 := bq hb lq qq0; have qq1 := bq hb lq qq1; have qq2 := bq hb lq qq2
  have lq := bl hb lq
  have qzz0 := bq hb lzz qzz0; have qzz1 := bq hb lzz qzz1; have qzz2 := bq hb lzz qzz2
  have lzz := bl hb lzz
  have hB := below_later hB hb
  clear hb
  go_wp2_with fail
  with_reducible refine (pow_rat (n := 0) h1U.toNatAt h1D.toNatAt (fr_short _ _ _ _ (by decide) (by decide)) (by decide) (by decide) (.inl (by decide))).mono ?_
  rintro e w44 ⟨ahTU, nhTU, chTU, ahTD, nhTD, chTD, rfl, hTU, hTD, hb⟩
  have hPU := hPU.past hb
  have hPD := hPD.past hb
  have hQU := hQU.past hb
  have hQD := hQD.past hb
  have h1U := h1U.past hb
  have h1D := h1D.past hb
  have qp0 := bq hb lp qp0; have qp1 := bq hb lp qp1; have qp2 := bq hb lp qp2
  have lp := bl hb lp
  have qq0 := bq hb lq qq0; have qq1 := bq hb lq qq1; have qq2 := bq hb lq qq2
  have lq := bl hb lq
  have hB := below_later hB hb
  clear hb
  have ev : fr 0 1 ^ (0 : Int) = fr 1 1 := by decide +kernel
  rw [ev] at hTU hTD ⊢
  clear ev
  go_wp2_with fail
  obtain ⟨w45, hW, hz0, hb, q, f⟩ := box1g w44 (w44.heap.size) (by omega) #[.bool (neg (fr 1 1).num), .slice ahTU nhTU chTU, .slice ahTD nhTD chTD] 31
  rw [hW]
  clear hW
  have hPU := hPU.past hb
  have hPD := hPD.past hb
  have hQU := hQU.past hb
  have hQD := hQD.past hb
  have hTU := hTU.past hb
  have hTD := hTD.past hb
  have qp0 := bq hb lp qp0; have qp1 := bq hb lp qp1; have qp2 := bq hb lp qp2
  have lp := bl hb lp
  have qq0 := bq hb lq qq0; have qq1 := bq hb lq qq1; have qq2 := bq hb lq qq2
  have lq := bl hb lq
  have hB := below_later hB hb
  clear hb
  have lt : w44.heap.size < w45.heap.size := by omega
  have qt0 := q 0; have qt1 := q 1; have qt2 := q 2
  simp only [List.getElem?_toArray, List.getElem?_cons_zero, List.getElem?_cons_succ] at qt0 qt1 qt2
  clear q f
  clear hz0
  refine (of05_fr 1 2 (by decide) (by decide) _ (by decide) (by decide) (by decide)).mono ?_
  rintro e w46 ⟨ah1U, nh1U, ch1U, ah1D, nh1D, ch1D, rfl, h1U, h1D, hb⟩
  have hPU := hPU.past hb
  have hPD := hPD.past hb
  have hQU := hQU.past hb
  have hQD := hQD.past hb
  have hTU := hTU.past hb
  have hTD := hTD.past hb
  have qp0 := bq hb lp qp0; have qp1 := bq hb lp qp1; have qp2 := bq hb lp qp2
  have lp := bl hb lp
  have qq0 := bq hb lq qq0; have qq1 := bq hb lq qq1; have qq2 := bq hb lq qq2
  have lq := bl hb lq
  have qt0 := bq hb lt qt0; have qt1 := bq hb lt qt1; have qt2 := bq hb lt qt2
  have lt := bl hb lt
  have hB := below_later hB hb
  clear hb
  go_wp2_with fail
  with_reducible refine (pow_high3 (n := 10001) h1U.toNatAt h1D.toNatAt (fr_short _ _ _ _ (by decide) (by decide)) (by decide)).mono ?_
  rintro e w47 ⟨a9, n9, c9, a8, n8, c8, rfl, hb⟩
  have hPU := hPU.past hb
  have hPD := hPD.past hb
  have hQU := hQU.past hb
  have hQD := hQD.past hb
  have hTU := hTU.past hb
  have hTD := hTD.past hb
  have h1U := h1U.past hb
  have h1D := h1D.past hb
  have qp0 := bq hb lp qp0; have qp1 := bq hb lp qp1; have qp2 := bq hb lp qp2
  have lp := bl hb lp
  have qq0 := bq hb lq qq0; have qq1 := bq hb lq qq1; have qq2 := bq hb lq qq2
  have lq := bl hb lq
  have qt0 := bq hb lt qt0; have qt1 := bq hb lt qt1; have qt2 := bq hb lt qt2
  have lt := bl hb lt
  have hB := below_later hB hb
  clear hb
  go_wp2_with fail
  obtain ⟨w48, hW, hz0, hb, q, f⟩ := box1g w47 (w47.heap.size) (by omega) #[.bool false, .slice a9 n9 c9, .slice a8 n8 c8] 31
  rw [hW]
  clear hW
  have hPU := hPU.past hb
  have hPD := hPD.past hb
  have hQU := hQU.past hb
  have hQD := hQD.past hb
  have hTU := hTU.past hb
  have hTD := hTD.past hb
  have qp0 := bq hb lp qp0; have qp1 := bq hb lp qp1; have qp2 := bq hb lp qp2
  have lp := bl hb lp
  have qq0 := bq hb lq qq0; have qq1 := bq hb lq qq1; have qq2 := bq hb lq qq2
  have lq := bl hb lq
  have qt0 := bq hb lt qt0; have qt1 := bq hb lt qt1; have qt2 := bq hb lt qt2
  have lt := bl hb lt
  have hB := below_later hB hb
  clear hb
  have lzz : w47.heap.size < w48.heap.size := by omega
  have qzz0 := q 0; have qzz1 := q 1; have qzz2 := q 2
  simp only [List.getElem?_toArray, List.getElem?_cons_zero, List.getElem?_cons_succ] at qzz0 qzz1 qzz2
  clear q f
  clear hz0
  refine (is05_yes hPU.toNatAt hPD.toNatAt (8) 27 rfl rfl (by decide) (by decide) (by decide)).mono ?_
  rintro e w49 ⟨rfl, hb⟩
  have hPU := hPU.past hb
  have hPD := hPD.past hb
  have hQU := hQU.past hb
  have hQD := hQD.past hb
  have hTU := hTU.past hb
  have hTD := hTD.past hb
  have qp0 := bq hb lp qp0; have qp1 := bq hb lp qp1; have qp2 := bq hb lp qp2
  have lp := bl hb lp
  have qq0 := bq hb lq qq0; have qq1 := bq hb lq qq1; have qq2 := bq hb lq qq2
  have lq := bl hb lq
  have qt0 := bq hb lt qt0; have qt1 := bq hb lt qt1; have qt2 := bq hb lt qt2
  have lt := bl hb lt
  have qzz0 := bq hb lzz qzz0; have qzz1 := bq hb lzz qzz1; have qzz2 := bq hb lzz qzz2
  have lzz := bl hb lzz
  have hB := below_later hB hb
  clear hb
  go_wp2_with fail
  refine (is05_yes hQU.toNatAt hQD.toNatAt (9) 4 rfl rfl (by decide) (by decide) (by decide)).mono ?_
  rintro e w50 ⟨rfl, hb⟩
  have hPU := hPU.past hb
  have hPD := hPD.past hb
  have hQU := hQU.past hb
  have hQD := hQD.past hb
  have hTU := hTU.past hb
  have hTD := hTD.past hb
  have qp0 := bq hb lp qp0; have qp1 := bq hb lp qp1; have qp2 := bq hb lp qp2
  have lp := bl hb lp
  have qq0 := bq hb lq qq0; have qq1 := bq hb lq qq1; have qq2 := bq hb lq qq2
  have lq := bl hb lq
  have qt0 := bq hb lt qt0; have qt1 := bq hb lt qt1; have qt2 := bq hb lt qt2
  have lt := bl hb lt
  have hB := below_later hB hb
  clear hb
  go_wp2_with fail
  refine (is05_yes hTU.toNatAt hTD.toNatAt (1) 1 rfl rfl (by decide) (by decide) (by decide)).mono ?_
  rintro e w51 ⟨rfl, hb⟩
  have hPU := hPU.past hb
  have hPD := hPD.past hb
  have hQU := hQU.past hb
  have hQD := hQD.past hb
  have hTU := hTU.past hb
  have hTD := hTD.past hb
  have qp0 := bq hb lp qp0; have qp1 := bq hb lp qp1; have qp2 := bq hb lp qp2
  have lp := bl hb lp
  have qq0 := bq hb lq qq0; have qq1 := bq hb lq qq1; have qq2 := bq hb lq qq2
  have lq := bl hb lq
  have qt0 := bq hb lt qt0; have qt1 := bq hb lt qt1; have qt2 := bq hb lt qt2
  have lt := bl hb lt
  have hB := below_later hB hb
  clear hb
  go_wp2_with fail
  with_reducible refine (awake05 _).mono ?_
  rintro e w52 ⟨rfl, hb⟩
  have hB := below_later hB hb
  clear hb
  go_wp2_with fail
  refine (of05_fr 5 2 (by decide) (by decide) _ (by decide) (by decide) (by decide)).mono ?_
  rintro e w53 ⟨ah1U, nh1U, ch1U, ah1D, nh1D, ch1D, rfl, h1U, h1D, hb⟩
  have hB := below_later hB hb
  clear hb
  go_wp2_with fail
  with_reducible refine (rounded_yes (fr 5 2) 2 (by decide +kernel) _ _ _ _ _ _ _ h1U.toNatAt h1D.toNatAt (fr_short _ _ _ _ (by decide) (by decide)) (by decide) (by decide)).mono ?_
  rintro e w54 ⟨rfl, hb⟩
  have h1U := h1U.past hb
  have h1D := h1D.past hb
  have hB := below_later hB hb
  clear hb
  go_wp2_with fail
  refine (of05_fr 7 2 (by decide) (by decide) _ (by decide) (by decide) (by decide)).mono ?_
  rintro e w55 ⟨ah1U, nh1U, ch1U, ah1D, nh1D, ch1D, rfl, h1U, h1D, hb⟩
  have hB := below_later hB hb
  clear hb
  go_wp2_with fail
  with_reducible refine (rounded_yes (fr 7 2) 4 (by decide +kernel) _ _ _ _ _ _ _ h1U.toNatAt h1D.toNatAt (fr_short _ _ _ _ (by decide) (by decide)) (by decide) (by decide)).mono ?_
  rintro e w56 ⟨rfl, hb⟩
  have h1U := h1U.past hb
  have h1D := h1D.past hb
  have hB := below_later hB hb
  clear hb
  go_wp2_with fail
  refine (of05_fr (-1) 3 (by decide) (by decide) _ (by decide) (by decide) (by decide)).mono ?_
  rintro e w57 ⟨ah1U, nh1U, ch1U, ah1D, nh1D, ch1D, rfl, h1U, h1D, hb⟩
  have hB := below_later hB hb
  clear hb
  go_wp2_with fail
  with_reducible refine (rounded_yes (fr (-1) 3) 0 (by decide +kernel) _ _ _ _ _ _ _ h1U.toNatAt h1D.toNatAt (fr_short _ _ _ _ (by decide) (by decide)) (by decide) (by decide)).mono ?_
  rintro e w58 ⟨rfl, hb⟩
  have h1U := h1U.past hb
  have h1D := h1D.past hb
  have hB := below_later hB hb
  clear hb
  go_wp2
  go_ret
  exact ⟨rfl, hB⟩

end Go.Proofs.Ytmhjhhcdjecdbaa
