import Derived.Test.YtmhjhhcdjecdbaaGreatS0Rk
import Derived.Test.YtmhjhhcdjecdbaaGreatA9Rk
import Derived.Test.YtmhjhhcdjecdbaaGreatB1Rk
set_option linter.unusedVariables false
set_option linter.unusedSimpArgs false
namespace Go.Proofs.YtmhjhhcdjecdbaaGreat
open Go.RowKit
def fr (x : Int) (d : Nat) (h : d ≠ 0 := by decide) (h2 : x.natAbs.Coprime d := by decide) : Rat := ⟨x, d, h, h2⟩
def RetOf (x : Int) (d : Nat) (w : World) (e : Ending) (w' : World) : Prop :=
 ∃ a n c a2 n2 c2, e = .returned (.agg #[.bool (neg x), .slice a n c, .slice a2 n2 c2]) ∧ OwnAt w' w.heap.size a n c (digs x.natAbs) ∧ OwnAt w' w.heap.size a2 n2 c2 [d] ∧ Below w.heap.size w w'
set_option maxRecDepth 100000 in
set_option maxHeartbeats 4000000 in
theorem of05_any (x : Int) (d : Nat) (w : World) (hx : -9223372036854775807 ≤ x) (hx2 : x ≤ 9223372036854775807) (hd : d < 18446744073709551616) :
 Calls Tryz.prog 30 #[.int .i64 x, .int .u64 (d : Int)] w (RetOf x d w) := by
 by_cases hn : x < 0
 · obtain ⟨k, rfl, hk⟩ : ∃ k : Nat, x = -(k : Int) ∧ 0 < k := ⟨x.natAbs, by omega, by omega⟩
   have t1 : decide (-(k : Int) < 0) = true := decide_eq_true (by omega)
   have t2 : IntKind.u64.wrap (k : Int) = (k : Int) := by rw [IntKind.wrap_u64]; omega
   have t5 : wrap64 (k : Int) = (k : Int) := by unfold wrap64; omega
   have t4 : decide (0 < (k : Int)) = true := decide_eq_true (by omega)
   have hs : digs (-(k : Int)).natAbs = [k] := by rw [Int.natAbs_neg]; exact digs_small (by omega) (by omega)
   have hs2 : neg (-(k : Int)) = true := t1
   unfold RetOf
   rw [hs, hs2]
   have hk2 : k < 9223372036854775808 := by omega
   clear hs hs2 hx hx2
   go_enter Tryz.func30, Tryz.ntmps30
   have hB := Below.refl w.heap.size w
   go_wp2
   obtain ⟨w1, hW, hz0, hb, q, f⟩ := box1g w (w.heap.size) (by omega) #[.bool true, .slice (some ⟨w.heap.size + 1 + 1, 0, none⟩) 1 1, .slice (some ⟨w.heap.size + 1 + 1 + 1, 0, none⟩) 1 1] 30
   rw [hW]
   clear hW
   have hB := below_later hB hb
   clear hb
   have lr : w.heap.size < w1.heap.size := by omega
   have qr0 := q 0; have qr1 := q 1; have qr2 := q 2
   simp only [lgA, lgZ, lgS] at qr0 qr1 qr2
   clear q f
   obtain ⟨w2, hW, hz1, hb, q, f⟩ := box1g w1 (w.heap.size + 1) (by omega) #[.bool true, .slice (some ⟨w.heap.size + 1 + 1, 0, none⟩) 1 1] 28
   rw [hW]
   clear hW
   obtain ⟨qr0, qr1, qr2, lr⟩ := bq3 hb lr qr0 qr1 qr2
   have hB := below_later hB hb
   clear hb
   have ln : w.heap.size + 1 < w2.heap.size := by omega
   have qn0 := q 0; have qn1 := q 1
   simp only [lgA, lgZ, lgS] at qn0 qn1
   clear q f
   obtain ⟨w3, hW, hz2, hb, q, f⟩ := box1g w2 (w.heap.size + 1 + 1) (by omega) #[.int .u64 k] 51
   have h0hU : OwnAt w3 w2.heap.size (some ⟨w.heap.size + 1 + 1, 0, none⟩) 1 1 [k] := by rw [← hW]; exact litG _ _ _ [k] 1 (by omega) rfl rfl (by decide) (by first | decide | (simp; omega))
   rw [hW]
   clear hW
   obtain ⟨qr0, qr1, qr2, lr⟩ := bq3 hb lr qr0 qr1 qr2
   obtain ⟨qn0, qn1, ln⟩ := bq2 hb ln qn0 qn1
   have hB := below_later hB hb
   clear hb
   have hU := h0hU
   clear h0hU
   have hU := hU.mono (B' := w.heap.size) (by omega)
   clear q f
   obtain ⟨w4, hW, hz3, hb, q, f⟩ := box1g w3 (w.heap.size + 1 + 1 + 1) (by omega) #[.int .u64 d] 51
   have h0hD : OwnAt w4 w3.heap.size (some ⟨w.heap.size + 1 + 1 + 1, 0, none⟩) 1 1 [d] := by rw [← hW]; exact litG _ _ _ [d] 1 (by omega) rfl rfl (by decide) (by first | decide | (simp; omega))
   rw [hW]
   clear hW
   have hU := hU.past hb
   obtain ⟨qr0, qr1, qr2, lr⟩ := bq3 hb lr qr0 qr1 qr2
   obtain ⟨qn0, qn1, ln⟩ := bq2 hb ln qn0 qn1
   have hB := below_later hB hb
   clear hb
   have hD := h0hD
   clear h0hD
   have hD := hD.mono (B' := w.heap.size) (by omega)
   clear q f
   clear hz0
   clear hz1
   clear hz2
   clear hz3
   refine bodyPost_ret (v := .agg #[.bool true, .slice (some ⟨w.heap.size + 1 + 1, 0, none⟩) 1 1, .slice (some ⟨w.heap.size + 1 + 1 + 1, 0, none⟩) 1 1]) ?_ rfl ⟨_, _, _, _, _, _, rfl, hU, hD, hB⟩
   simp [results, Tryz.f30, go_sem, qr0, qr1, qr2]
 by_cases hp : 0 < x
 · obtain ⟨k, rfl, hk⟩ : ∃ k : Nat, x = (k : Int) ∧ 0 < k := ⟨x.natAbs, by omega, by omega⟩
   have t1 : decide ((k : Int) < 0) = false := decide_eq_false (by omega)
   have t2 : IntKind.u64.wrap (k : Int) = (k : Int) := by rw [IntKind.wrap_u64]; omega
   have t4 : decide (0 < (k : Int)) = true := decide_eq_true (by omega)
   have hs : digs (k : Int).natAbs = [k] := digs_small (by omega) (by omega)
   have hs2 : neg (k : Int) = false := t1
   unfold RetOf
   rw [hs, hs2]
   clear hs hs2 hx hn
   go_enter Tryz.func30, Tryz.ntmps30
   have hB := Below.refl w.heap.size w
   go_wp2
   obtain ⟨w1, hW, hz0, hb, q, f⟩ := box1g w (w.heap.size) (by omega) #[.bool false, .slice (some ⟨w.heap.size + 1 + 1, 0, none⟩) 1 1, .slice (some ⟨w.heap.size + 1 + 1 + 1, 0, none⟩) 1 1] 30
   rw [hW]
   clear hW
   have hB := below_later hB hb
   clear hb
   have lr : w.heap.size < w1.heap.size := by omega
   have qr0 := q 0; have qr1 := q 1; have qr2 := q 2
   simp only [lgA, lgZ, lgS] at qr0 qr1 qr2
   clear q f
   obtain ⟨w2, hW, hz1, hb, q, f⟩ := box1g w1 (w.heap.size + 1) (by omega) #[.bool false, .slice (some ⟨w.heap.size + 1 + 1, 0, none⟩) 1 1] 28
   rw [hW]
   clear hW
   obtain ⟨qr0, qr1, qr2, lr⟩ := bq3 hb lr qr0 qr1 qr2
   have hB := below_later hB hb
   clear hb
   have ln : w.heap.size + 1 < w2.heap.size := by omega
   have qn0 := q 0; have qn1 := q 1
   simp only [lgA, lgZ, lgS] at qn0 qn1
   clear q f
   obtain ⟨w3, hW, hz2, hb, q, f⟩ := box1g w2 (w.heap.size + 1 + 1) (by omega) #[.int .u64 k] 51
   have h0hU : OwnAt w3 w2.heap.size (some ⟨w.heap.size + 1 + 1, 0, none⟩) 1 1 [k] := by rw [← hW]; exact litG _ _ _ [k] 1 (by omega) rfl rfl (by decide) (by first | decide | (simp; omega))
   rw [hW]
   clear hW
   obtain ⟨qr0, qr1, qr2, lr⟩ := bq3 hb lr qr0 qr1 qr2
   obtain ⟨qn0, qn1, ln⟩ := bq2 hb ln qn0 qn1
   have hB := below_later hB hb
   clear hb
   have hU := h0hU
   clear h0hU
   have hU := hU.mono (B' := w.heap.size) (by omega)
   clear q f
   obtain ⟨w4, hW, hz3, hb, q, f⟩ := box1g w3 (w.heap.size + 1 + 1 + 1) (by omega) #[.int .u64 d] 51
   have h0hD : OwnAt w4 w3.heap.size (some ⟨w.heap.size + 1 + 1 + 1, 0, none⟩) 1 1 [d] := by rw [← hW]; exact litG _ _ _ [d] 1 (by omega) rfl rfl (by decide) (by first | decide | (simp; omega))
   rw [hW]
   clear hW
   have hU := hU.past hb
   obtain ⟨qr0, qr1, qr2, lr⟩ := bq3 hb lr qr0 qr1 qr2
   obtain ⟨qn0, qn1, ln⟩ := bq2 hb ln qn0 qn1
   have hB := below_later hB hb
   clear hb
   have hD := h0hD
   clear h0hD
   have hD := hD.mono (B' := w.heap.size) (by omega)
   clear q f
   clear hz0
   clear hz1
   clear hz2
   clear hz3
   refine bodyPost_ret (v := .agg #[.bool false, .slice (some ⟨w.heap.size + 1 + 1, 0, none⟩) 1 1, .slice (some ⟨w.heap.size + 1 + 1 + 1, 0, none⟩) 1 1]) ?_ rfl ⟨_, _, _, _, _, _, rfl, hU, hD, hB⟩
   simp [results, Tryz.f30, go_sem, qr0, qr1, qr2]
 · obtain rfl : x = 0 := by omega
   clear hn hp
   go_enter Tryz.func30, Tryz.ntmps30
   have hB := Below.refl w.heap.size w
   go_wp2
   obtain ⟨w1, hW, hz0, hb, q, f⟩ := box1g w (w.heap.size) (by omega) #[.bool false, .slice none 0 0, .slice (some ⟨w.heap.size + 1 + 1, 0, none⟩) 1 1] 30
   rw [hW]
   clear hW
   have hB := below_later hB hb
   clear hb
   have lr : w.heap.size < w1.heap.size := by omega
   have qr0 := q 0; have qr1 := q 1; have qr2 := q 2
   simp only [lgA, lgZ, lgS] at qr0 qr1 qr2
   clear q f
   obtain ⟨w2, hW, hz1, hb, q, f⟩ := box1g w1 (w.heap.size + 1) (by omega) #[.bool false, .slice none 0 0] 28
   rw [hW]
   clear hW
   obtain ⟨qr0, qr1, qr2, lr⟩ := bq3 hb lr qr0 qr1 qr2
   have hB := below_later hB hb
   clear hb
   have ln : w.heap.size + 1 < w2.heap.size := by omega
   have qn0 := q 0; have qn1 := q 1
   simp only [lgA, lgZ, lgS] at qn0 qn1
   clear q f
   obtain ⟨w3, hW, hz2, hb, q, f⟩ := box1g w2 (w.heap.size + 1 + 1) (by omega) #[.int .u64 d] 51
   have h0hD : OwnAt w3 w2.heap.size (some ⟨w.heap.size + 1 + 1, 0, none⟩) 1 1 [d] := by rw [← hW]; exact litG _ _ _ [d] 1 (by omega) rfl rfl (by decide) (by first | decide | (simp; omega))
   rw [hW]
   clear hW
   obtain ⟨qr0, qr1, qr2, lr⟩ := bq3 hb lr qr0 qr1 qr2
   obtain ⟨qn0, qn1, ln⟩ := bq2 hb ln qn0 qn1
   have hB := below_later hB hb
   clear hb
   have hD := h0hD
   clear h0hD
   have hD := hD.mono (B' := w.heap.size) (by omega)
   clear q f
   clear hz0
   clear hz1
   clear hz2
   refine bodyPost_ret (v := .agg #[.bool false, .slice none 0 0, .slice (some ⟨w.heap.size + 1 + 1, 0, none⟩) 1 1]) ?_ rfl ⟨_, _, _, _, _, _, rfl, OwnAt.nil _ _, hD, hB⟩
   simp [results, Tryz.f30, go_sem, qr0, qr1, qr2]
theorem of05_rat (q : Rat) (w : World) (hx : -9223372036854775807 ≤ q.num) (hx2 : q.num ≤ 9223372036854775807) (hd : q.den < 18446744073709551616) :
 Calls Tryz.prog 30 #[.int .i64 q.num, .int .u64 (q.den : Int)] w (RetRat w q) := by
 have h := of05_any q.num q.den w hx hx2 hd
 unfold RetOf at h
 rw [← digs_small q.den_nz hd] at h
 exact h
theorem of05_fr (x : Int) (d : Nat) (h : d ≠ 0) (h2 : x.natAbs.Coprime d) (w : World) (hx : -9223372036854775807 ≤ x) (hx2 : x ≤ 9223372036854775807) (hd : d < 18446744073709551616) :
 Calls Tryz.prog 30 #[.int .i64 x, .int .u64 (d : Int)] w (RetRat w (fr x d h h2)) := of05_rat (fr x d h h2) w hx hx2 hd
set_option maxRecDepth 100000 in
set_option maxHeartbeats 4000000 in
theorem is05_rat (q : Rat) (ax : Option Addr) (nx cx : Nat) (ax2 : Option Addr) (nx2 cx2 : Nat) (w : World) (g1 : NatAt w ax nx cx (digs q.num.natAbs)) (g2 : NatAt w ax2 nx2 cx2 (digs q.den)) (hx : -9223372036854775807 ≤ q.num) (hx2 : q.num ≤ 9223372036854775807) (hd : q.den < 18446744073709551616) :
 Calls Tryz.prog 31 #[.agg #[.bool (neg q.num), .slice ax nx cx, .slice ax2 nx2 cx2], .int .i64 0, .int .i64 q.num, .int .u64 (q.den : Int)] w (RetVal w (.bool true)) := by
 have HF := Lib.hid hx
 have HF2 := Lib.hid hx2
 have HF3 := Lib.hid hd
 have HE := Lib.hid (eqR_same (neg q.num) (digs q.num.natAbs) (digs q.den))
 clear hx hx2 hd
 go_enter Tryz.func31, Tryz.ntmps31
 have hB := Below.refl w.heap.size w
 go_wp2_with fail
 obtain ⟨w1, hW, hz0, hb, q, f⟩ := box1g w (w.heap.size) (by omega) #[.bool (neg q.num), .slice ax nx cx, .slice ax2 nx2 cx2] 30
 rw [hW]
 clear hW
 have g1 := g1.past hb
 have g2 := g2.past hb
 have hB := below_later hB hb
 clear hb
 have lx : w.heap.size < w1.heap.size := by omega
 have qx0 := q 0; have qx1 := q 1; have qx2 := q 2
 simp only [lgA, lgZ, lgS] at qx0 qx1 qx2
 clear q f
 clear hz0
 refine wp_region_inv (by kernel_rfl) rfl (by kernel_rfl) (fun A0 V0 dd aa ww => ∃ (y9 y10 y11 y12 y13 y14 y15 y16 y17 y8 : Value), aa = puts A0 [(9, y9), (10, y10), (11, y11), (12, y12), (13, y13), (14, y14), (15, y15), (16, y16), (17, y17), (8, y8)] ∧ Below V0.heap.size V0 ww ∧ Shut (dd 0 = true → y9 = .int .i64 0) ∧ Shut (dd 1 = true → y10 = .bool true) ∧ Shut (dd 2 = true → y11 = .bool true) ∧ Shut (dd 3 = true → y12 = .agg #[.bool (neg q.num), .slice ax nx cx, .slice ax2 nx2 cx2]) ∧ Shut (dd 4 = true → y13 = .int .i64 q.num) ∧ Shut (dd 5 = true → y14 = .int .u64 (q.den : Int)) ∧ Shut (dd 6 = true → RatV V0.heap.size (q) y15 ww) ∧ Shut (dd 7 = true → y16 = .bool true) ∧ Shut (dd 8 = true → y17 = .bool true) ∧ Shut (dd 9 = true → y8 = .bool true) ∧ True) ?_ ?_ ?_
 · exact ⟨_, _, _, _, _, _, _, _, _, _, puts_self _ [9, 10, 11, 12, 13, 14, 15, 16, 17, 8], (Below.refl _ _).drew, fun h => (by cases h), fun h => (by cases h), fun h => (by cases h), fun h => (by cases h), fun h => (by cases h), fun h => (by cases h), fun h => (by cases h), fun h => (by cases h), fun h => (by cases h), fun h => (by cases h), trivial⟩
 · refine Steps.cons ?_ (Steps.cons ?_ (Steps.cons ?_ (Steps.cons ?_ (Steps.cons ?_ (Steps.cons ?_ (Steps.cons ?_ (Steps.cons ?_ (Steps.cons ?_ (Steps.cons ?_ (Steps.nil))))))))))
   · intro dd aa ww K hc hun hn hI hK
     obtain ⟨y9, y10, y11, y12, y13, y14, y15, y16, y17, y8, ea, hb, f0, f1, f2, f3, f4, f5, f6, f7, f8, f9, _⟩ := hI
     try simp [Region.binds] at hn
     subst ea
     simp only [puts, Act.put, lsA, lsZ, lsS]
     go_simp
     refine hK.out _ _ ?_
     exact ⟨.int .i64 0, y10, y11, y12, y13, y14, y15, y16, y17, y8, by simp only [puts, Act.put, lsA, lsZ, lsS], hb, fun _ => rfl, uo f1 rfl, uo f2 rfl, uo f3 rfl, uo f4 rfl, uo f5 rfl, uo f6 rfl, uo f7 rfl, uo f8 rfl, uo f9 rfl, trivial⟩
   · intro dd aa ww K hc hun hn hI hK
     obtain ⟨y9, y10, y11, y12, y13, y14, y15, y16, y17, y8, ea, hb, f0, f1, f2, f3, f4, f5, f6, f7, f8, f9, _⟩ := hI
     try simp [Region.binds] at hn
     have ex := f0.out (by first | (simp [hn]; done) | exact rc hc hn | exact rc hc hn.1 | exact rc hc hn.2 | exact rc hc hn.2.1 | exact rc hc hn.2.2)
     subst ex
     subst ea
     simp only [puts, Act.put, lsA, lsZ, lsS]
     go_simp
     refine hK.out _ _ ?_
     exact ⟨.int .i64 0, .bool true, y11, y12, y13, y14, y15, y16, y17, y8, by simp only [puts, Act.put, lsA, lsZ, lsS], hb, fun h => rfl, fun _ => rfl, uo f2 rfl, uo f3 rfl, uo f4 rfl, uo f5 rfl, uo f6 rfl, uo f7 rfl, uo f8 rfl, uo f9 rfl, trivial⟩
   · intro dd aa ww K hc hun hn hI hK
     obtain ⟨y9, y10, y11, y12, y13, y14, y15, y16, y17, y8, ea, hb, f0, f1, f2, f3, f4, f5, f6, f7, f8, f9, _⟩ := hI
     try simp [Region.binds] at hn
     have ex := f1.out (by first | (simp [hn]; done) | exact rc hc hn | exact rc hc hn.1 | exact rc hc hn.2 | exact rc hc hn.2.1 | exact rc hc hn.2.2)
     subst ex
     subst ea
     simp only [puts, Act.put, lsA, lsZ, lsS]
     go_simp
     refine hK.out _ _ ?_
     exact ⟨y9, .bool true, .bool true, y12, y13, y14, y15, y16, y17, y8, by simp only [puts, Act.put, lsA, lsZ, lsS], hb, uo f0 rfl, fun h => rfl, fun _ => rfl, uo f3 rfl, uo f4 rfl, uo f5 rfl, uo f6 rfl, uo f7 rfl, uo f8 rfl, uo f9 rfl, trivial⟩
   · intro dd aa ww K hc hun hn hI hK
     obtain ⟨y9, y10, y11, y12, y13, y14, y15, y16, y17, y8, ea, hb, f0, f1, f2, f3, f4, f5, f6, f7, f8, f9, _⟩ := hI
     try simp [Region.binds] at hn
     have ex := f2.out (by first | (simp [hn]; done) | exact rc hc hn | exact rc hc hn.1 | exact rc hc hn.2 | exact rc hc hn.2.1 | exact rc hc hn.2.2)
     subst ex
     have e0 := (hb.cell (p := ⟨w.heap.size, 0, none⟩) lx).trans qx0
     have e1 := (hb.cell (p := ⟨w.heap.size, 1, none⟩) lx).trans qx1
     have e2 := (hb.cell (p := ⟨w.heap.size, 2, none⟩) lx).trans qx2
     subst ea
     simp only [puts, Act.put, lsA, lsZ, lsS]
     go_simp
     refine hK.out _ _ ?_
     exact ⟨y9, y10, .bool true, .agg #[.bool (neg q.num), .slice ax nx cx, .slice ax2 nx2 cx2], y13, y14, y15, y16, y17, y8, by simp only [puts, Act.put, lsA, lsZ, lsS], hb, uo f0 rfl, uo f1 rfl, fun h => rfl, fun _ => rfl, uo f4 rfl, uo f5 rfl, uo f6 rfl, uo f7 rfl, uo f8 rfl, uo f9 rfl, trivial⟩
   · intro dd aa ww K hc hun hn hI hK
     obtain ⟨y9, y10, y11, y12, y13, y14, y15, y16, y17, y8, ea, hb, f0, f1, f2, f3, f4, f5, f6, f7, f8, f9, _⟩ := hI
     try simp [Region.binds] at hn
     have ex := f2.out (by first | (simp [hn]; done) | exact rc hc hn | exact rc hc hn.1 | exact rc hc hn.2 | exact rc hc hn.2.1 | exact rc hc hn.2.2)
     subst ex
     subst ea
     simp only [puts, Act.put, lsA, lsZ, lsS]
     go_simp
     refine hK.out _ _ ?_
     exact ⟨y9, y10, .bool true, y12, .int .i64 q.num, y14, y15, y16, y17, y8, by simp only [puts, Act.put, lsA, lsZ, lsS], hb, uo f0 rfl, uo f1 rfl, fun h => rfl, uo f3 rfl, fun _ => rfl, uo f5 rfl, uo f6 rfl, uo f7 rfl, uo f8 rfl, uo f9 rfl, trivial⟩
   · intro dd aa ww K hc hun hn hI hK
     obtain ⟨y9, y10, y11, y12, y13, y14, y15, y16, y17, y8, ea, hb, f0, f1, f2, f3, f4, f5, f6, f7, f8, f9, _⟩ := hI
     try simp [Region.binds] at hn
     have ex := f2.out (by first | (simp [hn]; done) | exact rc hc hn | exact rc hc hn.1 | exact rc hc hn.2 | exact rc hc hn.2.1 | exact rc hc hn.2.2)
     subst ex
     subst ea
     simp only [puts, Act.put, lsA, lsZ, lsS]
     go_simp
     refine hK.out _ _ ?_
     exact ⟨y9, y10, .bool true, y12, y13, .int .u64 (q.den : Int), y15, y16, y17, y8, by simp only [puts, Act.put, lsA, lsZ, lsS], hb, uo f0 rfl, uo f1 rfl, fun h => rfl, uo f3 rfl, uo f4 rfl, fun _ => rfl, uo f6 rfl, uo f7 rfl, uo f8 rfl, uo f9 rfl, trivial⟩
   · intro dd aa ww K hc hun hn hI hK
     obtain ⟨y9, y10, y11, y12, y13, y14, y15, y16, y17, y8, ea, hb, f0, f1, f2, f3, f4, f5, f6, f7, f8, f9, _⟩ := hI
     try simp [Region.binds] at hn
     have ex := f4.out (by first | (simp [hn]; done) | exact rc hc hn | exact rc hc hn.1 | exact rc hc hn.2 | exact rc hc hn.2.1 | exact rc hc hn.2.2)
     subst ex
     have ex := f5.out (by first | (simp [hn]; done) | exact rc hc hn | exact rc hc hn.1 | exact rc hc hn.2 | exact rc hc hn.2.1 | exact rc hc hn.2.2)
     subst ex
     have ex := f2.out (by first | (simp [hn]; done) | exact rc hc hn | exact rc hc hn.1 | exact rc hc hn.2 | exact rc hc hn.2.1 | exact rc hc hn.2.2)
     subst ex
     subst ea
     simp only [puts, Act.put, lsA, lsZ, lsS]
     go_simp
     with_reducible refine (of05_rat q _ HF.out HF2.out HF3.out).mono ?_
     rintro e w1 ⟨ahFU, nhFU, chFU, ahFD, nhFD, chFD, rfl, hFU, hFD, h1⟩
     refine hK.out _ _ ?_
     exact ⟨y9, y10, .bool true, y12, .int .i64 q.num, .int .u64 (q.den : Int), .agg #[.bool (neg (q).num), .slice ahFU nhFU chFU, .slice ahFD nhFD chFD], y16, y17, y8, by simp only [puts, Act.put, lsA, lsZ, lsS], below_later hb h1, uo f0 rfl, uo f1 rfl, fun h => rfl, uo f3 rfl, fun h => rfl, fun h => rfl, fun _ => ⟨_, _, _, _, _, _, rfl, hFU.mono hb.size, hFD.mono hb.size⟩, uo f7 rfl, uo f8 rfl, uo f9 rfl, trivial⟩
   · intro dd aa ww K hc hun hn hI hK
     obtain ⟨y9, y10, y11, y12, y13, y14, y15, y16, y17, y8, ea, hb, f0, f1, f2, f3, f4, f5, f6, f7, f8, f9, _⟩ := hI
     try simp [Region.binds] at hn
     have ex := f3.out (by first | (simp [hn]; done) | exact rc hc hn | exact rc hc hn.1 | exact rc hc hn.2 | exact rc hc hn.2.1 | exact rc hc hn.2.2)
     subst ex
     obtain ⟨ahFU, nhFU, chFU, ahFD, nhFD, chFD, ex, hFU, hFD⟩ := f6.out (by first | (simp [hn]; done) | exact rc hc hn | exact rc hc hn.1 | exact rc hc hn.2 | exact rc hc hn.2.1 | exact rc hc hn.2.2)
     subst ex
     have ex := f2.out (by first | (simp [hn]; done) | exact rc hc hn | exact rc hc hn.1 | exact rc hc hn.2 | exact rc hc hn.2.1 | exact rc hc hn.2.2)
     subst ex
     subst ea
     simp only [puts, Act.put, lsA, lsZ, lsS]
     go_simp
     with_reducible refine (sameRatio_any _ _ _ _ (digs q.num.natAbs) _ _ _ (digs q.den) _ _ _ _ (digs q.num.natAbs) _ _ _ (digs q.den) _ (g1.past hb) (g2.past hb) hFU.toNatAt hFD.toNatAt).mono ?_
     rintro e w1 ⟨rfl, h1⟩
     rw [HE.out]
     refine hK.out _ _ ?_
     exact ⟨y9, y10, .bool true, .agg #[.bool (neg q.num), .slice ax nx cx, .slice ax2 nx2 cx2], y13, y14, .agg #[.bool (neg (q).num), .slice ahFU nhFU chFU, .slice ahFD nhFD chFD], .bool true, y17, y8, by simp only [puts, Act.put, lsA, lsZ, lsS], below_later hb h1, uo f0 rfl, uo f1 rfl, fun h => rfl, fun h => rfl, uo f4 rfl, uo f5 rfl, fun h => (f6.out (upd_of rfl h)).past h1, fun _ => rfl, uo f8 rfl, uo f9 rfl, trivial⟩
   · intro dd aa ww K hc hun hn hI hK
     obtain ⟨y9, y10, y11, y12, y13, y14, y15, y16, y17, y8, ea, hb, f0, f1, f2, f3, f4, f5, f6, f7, f8, f9, _⟩ := hI
     try simp [Region.binds] at hn
     have ex := f2.out (by first | (simp [hn]; done) | exact rc hc hn | exact rc hc hn.1 | exact rc hc hn.2 | exact rc hc hn.2.1 | exact rc hc hn.2.2)
     subst ex
     have ex := f7.out (by first | (simp [hn]; done) | exact rc hc hn | exact rc hc hn.1 | exact rc hc hn.2 | exact rc hc hn.2.1 | exact rc hc hn.2.2)
     subst ex
     subst ea
     simp only [puts, Act.put, lsA, lsZ, lsS]
     go_simp
     refine hK.out _ _ ?_
     exact ⟨y9, y10, .bool true, y12, y13, y14, y15, .bool true, .bool true, y8, by simp only [puts, Act.put, lsA, lsZ, lsS], hb, uo f0 rfl, uo f1 rfl, fun h => rfl, uo f3 rfl, uo f4 rfl, uo f5 rfl, uo f6 rfl, fun h => rfl, fun _ => rfl, uo f9 rfl, trivial⟩
   · intro dd aa ww K hc hun hn hI hK
     obtain ⟨y9, y10, y11, y12, y13, y14, y15, y16, y17, y8, ea, hb, f0, f1, f2, f3, f4, f5, f6, f7, f8, f9, _⟩ := hI
     try simp [Region.binds] at hn
     have ex := f8.out (by first | (simp [hn]; done) | exact rc hc hn | exact rc hc hn.1 | exact rc hc hn.2 | exact rc hc hn.2.1 | exact rc hc hn.2.2)
     subst ex
     subst ea
     simp only [puts, Act.put, lsA, lsZ, lsS]
     go_simp
     refine hK.out _ _ ?_
     exact ⟨y9, y10, y11, y12, y13, y14, y15, y16, .bool true, .bool true, by simp only [puts, Act.put, lsA, lsZ, lsS], hb, uo f0 rfl, uo f1 rfl, uo f2 rfl, uo f3 rfl, uo f4 rfl, uo f5 rfl, uo f6 rfl, uo f7 rfl, fun h => rfl, fun _ => rfl, trivial⟩
 intro dd aa w2 hd hI
 obtain ⟨y9, y10, y11, y12, y13, y14, y15, y16, y17, y8, ea, hb, f0, f1, f2, f3, f4, f5, f6, f7, f8, f9, _⟩ := hI
 have ex := f0.out (hd 0 (by simp))
 subst ex
 have ex := f1.out (hd 1 (by simp))
 subst ex
 have ex := f2.out (hd 2 (by simp))
 subst ex
 have ex := f3.out (hd 3 (by simp))
 subst ex
 have ex := f4.out (hd 4 (by simp))
 subst ex
 have ex := f5.out (hd 5 (by simp))
 subst ex
 obtain ⟨ahFU, nhFU, chFU, ahFD, nhFD, chFD, ex, hFU, hFD⟩ := f6.out (hd 6 (by simp))
 subst ex
 have ex := f7.out (hd 7 (by simp))
 subst ex
 have ex := f8.out (hd 8 (by simp))
 subst ex
 have ex := f9.out (hd 9 (by simp))
 subst ex
 subst ea
 simp only [puts, Act.put, lsA, lsZ, lsS]
 have g1 := g1.past hb
 have g2 := g2.past hb
 obtain ⟨qx0, qx1, qx2, lx⟩ := bq3 hb lx qx0 qx1 qx2
 have hB := below_later hB hb
 clear hb hd
 go_wp2
 go_ret
 exact ⟨rfl, hB⟩
theorem is05_yes {q : Rat} {a : Option Addr} {n c : Nat} {a2 : Option Addr} {n2 c2 : Nat} {w : World} (g1 : NatAt w a n c (digs q.num.natAbs)) (g2 : NatAt w a2 n2 c2 (digs q.den)) (x : Int) (d : Nat) (hn : q.num = x) (he : q.den = d) (hx : -9223372036854775807 ≤ x) (hx2 : x ≤ 9223372036854775807) (hd : d < 18446744073709551616) :
 Calls Tryz.prog 31 #[.agg #[.bool (neg q.num), .slice a n c, .slice a2 n2 c2], .int .i64 0, .int .i64 x, .int .u64 (d : Int)] w (RetVal w (.bool true)) := by
 subst hn he
 exact is05_rat q _ _ _ _ _ _ w g1 g2 hx hx2 hd
set_option maxRecDepth 100000 in
set_option maxHeartbeats 4000000 in
theorem like05_yes (B : Nat) (r : Ans) (ax : Option Addr) (nx cx : Nat) (ax2 : Option Addr) (nx2 cx2 : Nat) (ay : Option Addr) (ny cy : Nat) (ay2 : Option Addr) (ny2 cy2 : Nat) (w : World) (hw : B ≤ w.heap.size)
 (h1 : OwnAt w B ax nx cx (digs r.up.natAbs)) (h2 : OwnAt w B ax2 nx2 cx2 r.down) (g1 : NatAt w ay ny cy (digs r.up.natAbs)) (g2 : NatAt w ay2 ny2 cy2 r.down) :
 Calls Tryz.prog 10 #[.agg #[.bool (neg r.up), .slice ax nx cx, .slice ax2 nx2 cx2], .int .i64 r.why, .agg #[.bool (neg r.up), .slice ay ny cy, .slice ay2 ny2 cy2], .int .i64 r.why] w fun e w' => e = .returned (.bool true) ∧ Below B w w' ∧ Kept w w' := by
 have HE := Lib.hid (eqR_same (neg r.up) (digs r.up.natAbs) r.down)
 go_enter Tryz.func10, Tryz.ntmps10
 have hB := Below.refl w.heap.size w
 go_wp2_with fail
 obtain ⟨w1, hW, hz0, hb, q, f⟩ := box1g w (w.heap.size) (by omega) #[.bool (neg r.up), .slice ax nx cx, .slice ax2 nx2 cx2] 30
 rw [hW]
 clear hW
 have h1 := h1.past hb
 have h2 := h2.past hb
 have g1 := g1.past hb
 have g2 := g2.past hb
 have hB := below_later hB hb
 clear hb
 have lx : w.heap.size < w1.heap.size := by omega
 have qx0 := q 0; have qx1 := q 1; have qx2 := q 2
 simp only [lgA, lgZ, lgS] at qx0 qx1 qx2
 clear q f
 obtain ⟨w2, hW, hz1, hb, q, f⟩ := box1g w1 (w.heap.size + 1) (by omega) #[.bool (neg r.up), .slice ay ny cy, .slice ay2 ny2 cy2] 30
 rw [hW]
 clear hW
 have h1 := h1.past hb
 have h2 := h2.past hb
 have g1 := g1.past hb
 have g2 := g2.past hb
 obtain ⟨qx0, qx1, qx2, lx⟩ := bq3 hb lx qx0 qx1 qx2
 have hB := below_later hB hb
 clear hb
 have ly : w.heap.size + 1 < w2.heap.size := by omega
 have qy0 := q 0; have qy1 := q 1; have qy2 := q 2
 simp only [lgA, lgZ, lgS] at qy0 qy1 qy2
 clear q f
 clear hz0
 clear hz1
 with_reducible refine (sameRatio_any _ _ _ _ (digs r.up.natAbs) _ _ _ r.down _ _ _ _ (digs r.up.natAbs) _ _ _ r.down _ h1.toNatAt h2.toNatAt g1 g2).mono ?_
 rintro e w3 ⟨rfl, hb⟩
 have h1 := h1.past hb
 have h2 := h2.past hb
 have g1 := g1.past hb
 have g2 := g2.past hb
 obtain ⟨qx0, qx1, qx2, lx⟩ := bq3 hb lx qx0 qx1 qx2
 obtain ⟨qy0, qy1, qy2, ly⟩ := bq3 hb ly qy0 qy1 qy2
 have hB := below_later hB hb
 clear hb
 rw [HE.out]
 go_wp2_with fail
 with_reducible refine (overRatio_any B _ _ _ _ _ _ _ _ h1.writ h2.writ (Nat.le_trans hw hB.size)).mono ?_
 rintro e w4 ⟨rfl, hb, K⟩
 have K := (Kept.of_below hB).trans K
 have hZ := (hB.mono hw).trans hb
 clear hb
 go_wp2
 go_ret
 exact ⟨rfl, hZ, K⟩
end Go.Proofs.YtmhjhhcdjecdbaaGreat
