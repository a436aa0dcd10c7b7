import Derived.Deep.RegionWith
import Derived.Test.YtoecndogaklngaaS0Do
import Derived.Test.YtoecndogaklngaaLaw06aDo
import Derived.Test.YtoecndogaklngaaLaw06sDo
import Derived.Test.YtoecndogaklngaaDigits3Do
import Derived.Test.YtoecndogaklngaaLimbs5Do
import Derived.Test.YtoecndogaklngaaLimbs9Do
import Derived.Test.YtoecndogaklngaaTimes2Do
import Derived.Test.YtoecndogaklngaaRegDo
set_option linter.unusedVariables false
set_option linter.unusedSimpArgs false
namespace Go.Proofs.Ytoecndogaklngaa
open Go.RowKit
def ByV (L : List Nat) (y : Value) (w : World) : Prop := ∃ a n c, y = .slice a n c ∧ BytesAt w a n c L
theorem ByV.past {L : List Nat} {y : Value} {w w' : World} (h : ByV L y w) (hb : Below w.heap.size w w') : ByV L y w' := by
 obtain ⟨a, n, c, e, h⟩ := h
 exact ⟨a, n, c, e, h.past hb⟩
theorem bytes_at (a : Option Addr) (n c : Nat) (l : List Nat) (w : World) (h : NatAt w a n c l) (hs : n ≤ 1073741824) :
 Calls Try.prog 8 #[.slice a n c] w fun e w' => ∃ a2 n2 c2, e = .returned (.slice a2 n2 c2) ∧ BytesAt w' a2 n2 c2 (digL 256 (val l)) ∧ Below w.heap.size w w' :=
 (bytes_any a n c l w h hs).mono fun e w' ⟨a2, n2, c2, he, h2, hb⟩ => ⟨a2, n2, c2, he, h2.toBytesAt, hb⟩
theorem cmpI_less (x y : Nat) : decide (cmpI x y < 0) = decide (x < y) := by
 rcases Nat.lt_trichotomy x y with h | h | h
 · rw [cmpI_lt h]; simp [h]
 · subst h; rw [cmpI_eq]; simp
 · rw [cmpI_gt h]; simp; omega
theorem decS_bound {l : List Nat} (hl : Dig l) (h : l.length ≤ 12) : (decS (val l)).size ≤ 1000 ∧ (bytB (digL 256 (val l))).size ≤ 1000 := by
 have h1 := digL_limbs hl
 have h2 := digL8_limbs hl
 refine ⟨?_, by rw [bytB_size]; omega⟩
 unfold decS decL
 split
 · decide
 · rw [strB_size]; omega
theorem dec_digit {d : Nat} (hd : d < 10) : decS (0 * 10 + d) = strB [d] := by
 have : ∀ d, d < 10 → decS (0 * 10 + d) = strB [d] := by decide +kernel
 exact this d hd
theorem dec_more {v d : Nat} (hv : v ≠ 0) (hd : d < 10) : decS (v * 10 + d) = decS v ++ strB [d] := by
 unfold decS decL
 rw [if_neg (by omega), if_neg hv, digL_snoc (b := 10) (by decide) v d hd, if_neg (by omega), strB_append]
theorem pick10 (x : Int) : ∃ d : Nat, pickI x 10 = (d : Int) ∧ d < 10 := by
 unfold pickI
 rw [if_neg (by decide)]
 exact ⟨(x % 10).toNat, by omega, by omega⟩
theorem tgrow_ten (a : Option Addr) (n c : Nat) (l : List Nat) (w : World) (h : NatAt w a n c l) (hs : n ≤ 274877906944) :
 Calls Try.prog 19 #[.slice a n c, .int .u64 10] w (RetNat w (val l * 10)) := tgrow_any a n c l 10 w h hs (by decide)
theorem len_ten {l : List Nat} (hl : Dig l) : (digs (val l * 10)).length ≤ l.length + 1 := by
 refine digs_length_le.2 ?_
 have h := val_lt hl
 rw [Nat.pow_succ]
 omega
theorem len_more {l : List Nat} (hl : Dig l) {n n7 d : Nat} (h1 : l.length = n) (h7 : (digs (val l * 10 + d)).length = n7) (hn : n ≤ 12) (hd : d < 10) : n7 ≤ 16 := by
 have h2 : (digs (val l * 10 + d)).length ≤ l.length + 1 := by
  refine digs_length_le.2 ?_
  have h := val_lt hl
  have hp : 0 < 18446744073709551616 ^ l.length := Nat.pow_pos (by decide)
  rw [Nat.pow_succ]
  omega
 omega
theorem one_text_at {w : World} {g d : Nat} (h : w.cell? ⟨g, 0, none⟩ = some (.int .u8 (48 + (d : Int)))) (hd : d < 10) : (convert 27 9 (.slice (some ⟨g, 0, none⟩) 1 1)).run Try.prog w = .ok (.string (strB [d])) w := by
 have hb : BytesAt w (some ⟨g, 0, none⟩) 1 1 (chrs [d]) := by
  refine ⟨rfl, Nat.le_refl _, by decide, by simp [chrs]; omega, .inr ⟨g, 0, rfl, fun i hi => ?_⟩, fun e => by cases e⟩
  obtain rfl : i = 0 := by omega
  exact h
 have := hb.text (P := Try.prog) 27 5 9 Try.underlying27 Try.underlying5 Try.underlying9
 rw [bytB_chrs] at this
 exact this
set_option maxRecDepth 100000 in
set_option maxHeartbeats 8000000 in
theorem digitsOrder_long1 (a : Option Addr) (n c : Nat) (l : List Nat) (a2 : Option Addr) (n2 c2 : Nat) (l2 : List Nat) (x : Int) (w : World) (g1 : NatAt w a n c l) (g2 : NatAt w a2 n2 c2 l2) (hx : -9223372036854775808 ≤ x ∧ x ≤ 9223372036854775807) (h1 : 12 < n) :
 Calls Try.prog 4 #[.slice a n c, .slice a2 n2 c2, .int .i64 x] w (RetVal w (.bool true)) := by
 have hcle := g1.cle
 have hle := g1.le
 have hcle2 := g2.cle
 have hle2 := g2.le
 have t1 : decide ((12 : Int) < (n : Int)) = true := by simp; omega
 go_enter Try.func4, Try.ntmps4
 have hB := Below.refl w.heap.size w
 go_wp2_with fail
 with_reducible refine (awake06 _).mono ?_
 rintro e w1 ⟨rfl, hb⟩
 have hB := below_later hB hb
 clear hb
 go_wp2_with fail
 with_reducible refine (longNat_any _ _ _ _ _ (by omega)).mono ?_
 rintro e w' ⟨rfl, rfl⟩
 go_wp2
 go_ret
 exact ⟨rfl, hB⟩
set_option maxRecDepth 100000 in
set_option maxHeartbeats 8000000 in
theorem digitsOrder_long2 (a : Option Addr) (n c : Nat) (l : List Nat) (a2 : Option Addr) (n2 c2 : Nat) (l2 : List Nat) (x : Int) (w : World) (g1 : NatAt w a n c l) (g2 : NatAt w a2 n2 c2 l2) (hx : -9223372036854775808 ≤ x ∧ x ≤ 9223372036854775807) (h1 : ¬ 12 < n) (h2 : 12 < n2) :
 Calls Try.prog 4 #[.slice a n c, .slice a2 n2 c2, .int .i64 x] w (RetVal w (.bool true)) := by
 have hcle := g1.cle
 have hle := g1.le
 have hcle2 := g2.cle
 have hle2 := g2.le
 have t1 : decide ((12 : Int) < (n : Int)) = false := by simp; omega
 have t2 : decide ((12 : Int) < (n2 : Int)) = true := by simp; omega
 go_enter Try.func4, Try.ntmps4
 have hB := Below.refl w.heap.size w
 go_wp2_with fail
 with_reducible refine (awake06 _).mono ?_
 rintro e w1 ⟨rfl, hb⟩
 have hB := below_later hB hb
 clear hb
 go_wp2_with fail
 with_reducible refine (longNat_any _ _ _ _ _ (by omega)).mono ?_
 rintro e w' ⟨rfl, rfl⟩
 go_wp2_with fail
 with_reducible refine (longNat_any _ _ _ _ _ (by omega)).mono ?_
 rintro e w' ⟨rfl, rfl⟩
 go_wp2
 go_ret
 exact ⟨rfl, hB⟩
set_option maxRecDepth 100000 in
set_option maxHeartbeats 8000000 in
theorem digitsOrder_main (a : Option Addr) (n c : Nat) (l : List Nat) (a2 : Option Addr) (n2 c2 : Nat) (l2 : List Nat) (x : Int) (w : World) (g1 : NatAt w a n c l) (g2 : NatAt w a2 n2 c2 l2) (hx : -9223372036854775808 ≤ x ∧ x ≤ 9223372036854775807) (h1 : ¬ 12 < n) (h2 : ¬ 12 < n2) :
 Calls Try.prog 4 #[.slice a n c, .slice a2 n2 c2, .int .i64 x] w (RetVal w (.bool true)) := by
 have hcle := g1.cle
 have hle := g1.le
 have hcle2 := g2.cle
 have hle2 := g2.le
 have t1 : decide ((12 : Int) < (n : Int)) = false := by simp; omega
 have t2 : decide ((12 : Int) < (n2 : Int)) = false := by simp; omega
 obtain ⟨LE, hLE⟩ : ∃ LE, decide (val l < val l2) = LE := ⟨_, rfl⟩
 have hcm := cmpI_less (val l) (val l2)
 obtain ⟨K, hK⟩ : ∃ K, cmpI (val l) (val l2) = K := ⟨_, rfl⟩
 have bd1 := decS_bound g1.dig (by rw [g1.len]; omega)
 have bd2 := decS_bound g2.dig (by rw [g2.len]; omega)
 have hsh1 := fun w => shorter_any (decS (val l)) (decS (val l2)) w (by omega) (by omega)
 have hsh2 := fun w => shorter_any (bytB (digL 256 (val l))) (bytB (digL 256 (val l2))) w (by omega) (by omega)
 simp only [← less_dec, hLE] at hsh1
 simp only [← less_byt, hLE] at hsh2
 have hcc := fun w (g1 : NatAt w a n c l) (g2 : NatAt w a2 n2 c2 l2) => cmp_any a n c l a2 n2 c2 l2 w g1 g2
 simp only [hK] at hcc
 rw [hK, hLE] at hcm
 have HSH1 := Lib.hid hsh1
 have HSH2 := Lib.hid hsh2
 have HCC := Lib.hid hcc
 have BD1 := Lib.hid bd1
 clear hsh1 hsh2 hcc hLE hK bd1 bd2
 go_enter Try.func4, Try.ntmps4
 have hB := Below.refl w.heap.size w
 go_wp2_with fail
 with_reducible refine (awake06 _).mono ?_
 rintro e w1 ⟨rfl, hb⟩
 have g1 := g1.past hb
 have g2 := g2.past hb
 have hB := below_later hB hb
 clear hb
 go_wp2_with fail
 with_reducible refine (longNat_any _ _ _ _ _ (by omega)).mono ?_
 rintro e w' ⟨rfl, rfl⟩
 go_wp2_with fail
 with_reducible refine (longNat_any _ _ _ _ _ (by omega)).mono ?_
 rintro e w' ⟨rfl, rfl⟩
 go_wp2_with fail
 with_reducible refine (HCC.out _ g1 g2).mono ?_
 rintro e w2 ⟨rfl, hb⟩
 have g1 := g1.past hb
 have g2 := g2.past hb
 have hB := below_later hB hb
 clear hb
 go_wp2_with fail
 refine wp_region_inv (by kernel_rfl) rfl (by kernel_rfl) (fun A0 V0 dd aa ww => ∃ (y23 y24 y25 y26 y27 y28 y29 y30 y31 y32 y33 y34 y35 y36 y37 y38 y39 y40 : Value), aa = puts A0 [(23, y23), (24, y24), (25, y25), (26, y26), (27, y27), (28, y28), (29, y29), (30, y30), (31, y31), (32, y32), (33, y33), (34, y34), (35, y35), (36, y36), (37, y37), (38, y38), (39, y39), (40, y40)] ∧ Below V0.heap.size V0 ww ∧ Shut (dd 0 = true → y23 = .bool LE) ∧ Shut (dd 1 = true → y24 = .slice a n c) ∧ Shut (dd 2 = true → y25 = .string (decS (val l))) ∧ Shut (dd 3 = true → y26 = .slice a2 n2 c2) ∧ Shut (dd 4 = true → y27 = .string (decS (val l2))) ∧ Shut (dd 5 = true → y28 = .bool LE) ∧ Shut (dd 6 = true → y29 = .bool false) ∧ Shut (dd 7 = true → y30 = .bool false) ∧ Shut (dd 8 = true → y31 = .bool LE) ∧ Shut (dd 9 = true → y32 = .slice a n c) ∧ Shut (dd 10 = true → ByV (digL 256 (val l)) y33 ww) ∧ Shut (dd 11 = true → y34 = .string (bytB (digL 256 (val l)))) ∧ Shut (dd 12 = true → y35 = .slice a2 n2 c2) ∧ Shut (dd 13 = true → ByV (digL 256 (val l2)) y36 ww) ∧ Shut (dd 14 = true → y37 = .string (bytB (digL 256 (val l2)))) ∧ Shut (dd 15 = true → y38 = .bool LE) ∧ Shut (dd 16 = true → y39 = .bool false) ∧ Shut (dd 17 = true → y40 = .bool false) ∧ True) ?_ ?_ ?_
 · exact ⟨_, _, _, _, _, _, _, _, _, _, _, _, _, _, _, _, _, _, puts_self _ [23, 24, 25, 26, 27, 28, 29, 30, 31, 32, 33, 34, 35, 36, 37, 38, 39, 40], (Below.refl _ _).drew, fun h => (by cases h), fun h => (by cases h), fun h => (by cases h), fun h => (by cases h), fun h => (by cases h), fun h => (by cases h), fun h => (by cases h), fun h => (by cases h), fun h => (by cases h), fun h => (by cases h), fun h => (by cases h), fun h => (by cases h), fun h => (by cases h), fun h => (by cases h), fun h => (by cases h), fun h => (by cases h), fun h => (by cases h), fun h => (by cases h), trivial⟩
 · refine Steps.cons ?_ (Steps.cons ?_ (Steps.cons ?_ (Steps.cons ?_ (Steps.cons ?_ (Steps.cons ?_ (Steps.cons ?_ (Steps.cons ?_ (Steps.cons ?_ (Steps.cons ?_ (Steps.cons ?_ (Steps.cons ?_ (Steps.cons ?_ (Steps.cons ?_ (Steps.cons ?_ (Steps.cons ?_ (Steps.cons ?_ (Steps.cons ?_ (Steps.nil))))))))))))))))))
   · intro dd aa ww K hc hun hn hI hK
     obtain ⟨y23, y24, y25, y26, y27, y28, y29, y30, y31, y32, y33, y34, y35, y36, y37, y38, y39, y40, ea, hb, f0, f1, f2, f3, f4, f5, f6, f7, f8, f9, f10, f11, f12, f13, f14, f15, f16, f17, _⟩ := hI
     try simp [Region.binds] at hn
     subst ea
     simp only [puts, Act.put, lsA, lsZ, lsS]
     go_simp
     refine hK.out _ _ ?_
     exact ⟨.bool LE, y24, y25, y26, y27, y28, y29, y30, y31, y32, y33, y34, y35, y36, y37, y38, y39, y40, by simp only [puts, Act.put, lsA, lsZ, lsS], hb, fun _ => rfl, uo f1 rfl, uo f2 rfl, uo f3 rfl, uo f4 rfl, uo f5 rfl, uo f6 rfl, uo f7 rfl, uo f8 rfl, uo f9 rfl, fun h => absurd (hc.reach (f := 8) (s := 10) (l := 0) (by kernel_rfl) (upd_of rfl h)) (by rw [hun]; decide), uo f11 rfl, uo f12 rfl, fun h => absurd (hc.reach (f := 8) (s := 13) (l := 0) (by kernel_rfl) (upd_of rfl h)) (by rw [hun]; decide), uo f14 rfl, uo f15 rfl, uo f16 rfl, uo f17 rfl, trivial⟩
   · intro dd aa ww K hc hun hn hI hK
     obtain ⟨y23, y24, y25, y26, y27, y28, y29, y30, y31, y32, y33, y34, y35, y36, y37, y38, y39, y40, ea, hb, f0, f1, f2, f3, f4, f5, f6, f7, f8, f9, f10, f11, f12, f13, f14, f15, f16, f17, _⟩ := hI
     try simp [Region.binds] at hn
     subst ea
     simp only [puts, Act.put, lsA, lsZ, lsS]
     go_simp
     refine hK.out _ _ ?_
     exact ⟨y23, .slice a n c, y25, y26, y27, y28, y29, y30, y31, y32, y33, y34, y35, y36, y37, y38, y39, y40, by simp only [puts, Act.put, lsA, lsZ, lsS], hb, uo f0 rfl, fun _ => rfl, uo f2 rfl, uo f3 rfl, uo f4 rfl, uo f5 rfl, uo f6 rfl, uo f7 rfl, uo f8 rfl, uo f9 rfl, fun h => absurd (hc.reach (f := 8) (s := 10) (l := 1) (by kernel_rfl) (upd_of rfl h)) (by rw [hun]; decide), uo f11 rfl, uo f12 rfl, fun h => absurd (hc.reach (f := 8) (s := 13) (l := 1) (by kernel_rfl) (upd_of rfl h)) (by rw [hun]; decide), uo f14 rfl, uo f15 rfl, uo f16 rfl, uo f17 rfl, trivial⟩
   · intro dd aa ww K hc hun hn hI hK
     obtain ⟨y23, y24, y25, y26, y27, y28, y29, y30, y31, y32, y33, y34, y35, y36, y37, y38, y39, y40, ea, hb, f0, f1, f2, f3, f4, f5, f6, f7, f8, f9, f10, f11, f12, f13, f14, f15, f16, f17, _⟩ := hI
     try simp [Region.binds] at hn
     have ex := f1.out (by first | (simp [hn]; done) | exact rc hc hn | exact rc hc hn.1 | exact rc hc hn.2 | exact rc hc hn.2.1 | exact rc hc hn.2.2 | exact rc hc hn.2.2.1 | exact rc hc hn.2.2.2)
     subst ex
     subst ea
     simp only [puts, Act.put, lsA, lsZ, lsS]
     go_simp
     with_reducible refine (put_any _ _ _ _ _ (g1.past hb) (by omega)).mono ?_
     rintro e w1 ⟨rfl, h1⟩
     refine hK.out _ _ ?_
     exact ⟨y23, .slice a n c, .string (decS (val l)), y26, y27, y28, y29, y30, y31, y32, y33, y34, y35, y36, y37, y38, y39, y40, by simp only [puts, Act.put, lsA, lsZ, lsS], below_later hb h1, uo f0 rfl, fun h => rfl, fun _ => rfl, uo f3 rfl, uo f4 rfl, uo f5 rfl, uo f6 rfl, uo f7 rfl, uo f8 rfl, uo f9 rfl, fun h => absurd (hc.reach (f := 8) (s := 10) (l := 2) (by kernel_rfl) (upd_of rfl h)) (by rw [hun]; decide), uo f11 rfl, uo f12 rfl, fun h => absurd (hc.reach (f := 8) (s := 13) (l := 2) (by kernel_rfl) (upd_of rfl h)) (by rw [hun]; decide), uo f14 rfl, uo f15 rfl, uo f16 rfl, uo f17 rfl, trivial⟩
   · intro dd aa ww K hc hun hn hI hK
     obtain ⟨y23, y24, y25, y26, y27, y28, y29, y30, y31, y32, y33, y34, y35, y36, y37, y38, y39, y40, ea, hb, f0, f1, f2, f3, f4, f5, f6, f7, f8, f9, f10, f11, f12, f13, f14, f15, f16, f17, _⟩ := hI
     try simp [Region.binds] at hn
     subst ea
     simp only [puts, Act.put, lsA, lsZ, lsS]
     go_simp
     refine hK.out _ _ ?_
     exact ⟨y23, y24, y25, .slice a2 n2 c2, y27, y28, y29, y30, y31, y32, y33, y34, y35, y36, y37, y38, y39, y40, by simp only [puts, Act.put, lsA, lsZ, lsS], hb, uo f0 rfl, uo f1 rfl, uo f2 rfl, fun _ => rfl, uo f4 rfl, uo f5 rfl, uo f6 rfl, uo f7 rfl, uo f8 rfl, uo f9 rfl, fun h => absurd (hc.reach (f := 8) (s := 10) (l := 3) (by kernel_rfl) (upd_of rfl h)) (by rw [hun]; decide), uo f11 rfl, uo f12 rfl, fun h => absurd (hc.reach (f := 8) (s := 13) (l := 3) (by kernel_rfl) (upd_of rfl h)) (by rw [hun]; decide), uo f14 rfl, uo f15 rfl, uo f16 rfl, uo f17 rfl, trivial⟩
   · intro dd aa ww K hc hun hn hI hK
     obtain ⟨y23, y24, y25, y26, y27, y28, y29, y30, y31, y32, y33, y34, y35, y36, y37, y38, y39, y40, ea, hb, f0, f1, f2, f3, f4, f5, f6, f7, f8, f9, f10, f11, f12, f13, f14, f15, f16, f17, _⟩ := hI
     try simp [Region.binds] at hn
     have ex := f3.out (by first | (simp [hn]; done) | exact rc hc hn | exact rc hc hn.1 | exact rc hc hn.2 | exact rc hc hn.2.1 | exact rc hc hn.2.2 | exact rc hc hn.2.2.1 | exact rc hc hn.2.2.2)
     subst ex
     subst ea
     simp only [puts, Act.put, lsA, lsZ, lsS]
     go_simp
     with_reducible refine (put_any _ _ _ _ _ (g2.past hb) (by omega)).mono ?_
     rintro e w1 ⟨rfl, h1⟩
     refine hK.out _ _ ?_
     exact ⟨y23, y24, y25, .slice a2 n2 c2, .string (decS (val l2)), y28, y29, y30, y31, y32, y33, y34, y35, y36, y37, y38, y39, y40, by simp only [puts, Act.put, lsA, lsZ, lsS], below_later hb h1, uo f0 rfl, uo f1 rfl, uo f2 rfl, fun h => rfl, fun _ => rfl, uo f5 rfl, uo f6 rfl, uo f7 rfl, uo f8 rfl, uo f9 rfl, fun h => absurd (hc.reach (f := 8) (s := 10) (l := 4) (by kernel_rfl) (upd_of rfl h)) (by rw [hun]; decide), uo f11 rfl, uo f12 rfl, fun h => absurd (hc.reach (f := 8) (s := 13) (l := 4) (by kernel_rfl) (upd_of rfl h)) (by rw [hun]; decide), uo f14 rfl, uo f15 rfl, uo f16 rfl, uo f17 rfl, trivial⟩
   · intro dd aa ww K hc hun hn hI hK
     obtain ⟨y23, y24, y25, y26, y27, y28, y29, y30, y31, y32, y33, y34, y35, y36, y37, y38, y39, y40, ea, hb, f0, f1, f2, f3, f4, f5, f6, f7, f8, f9, f10, f11, f12, f13, f14, f15, f16, f17, _⟩ := hI
     try simp [Region.binds] at hn
     have ex := f2.out (by first | (simp [hn]; done) | exact rc hc hn | exact rc hc hn.1 | exact rc hc hn.2 | exact rc hc hn.2.1 | exact rc hc hn.2.2 | exact rc hc hn.2.2.1 | exact rc hc hn.2.2.2)
     subst ex
     have ex := f4.out (by first | (simp [hn]; done) | exact rc hc hn | exact rc hc hn.1 | exact rc hc hn.2 | exact rc hc hn.2.1 | exact rc hc hn.2.2 | exact rc hc hn.2.2.1 | exact rc hc hn.2.2.2)
     subst ex
     subst ea
     simp only [puts, Act.put, lsA, lsZ, lsS]
     go_simp
     with_reducible refine (HSH1.out _).mono ?_
     rintro e w1 ⟨rfl, h1⟩
     refine hK.out _ _ ?_
     exact ⟨y23, y24, .string (decS (val l)), y26, .string (decS (val l2)), .bool LE, y29, y30, y31, y32, y33, y34, y35, y36, y37, y38, y39, y40, by simp only [puts, Act.put, lsA, lsZ, lsS], below_later hb h1, uo f0 rfl, uo f1 rfl, fun h => rfl, uo f3 rfl, fun h => rfl, fun _ => rfl, uo f6 rfl, uo f7 rfl, uo f8 rfl, uo f9 rfl, fun h => absurd (hc.reach (f := 8) (s := 10) (l := 5) (by kernel_rfl) (upd_of rfl h)) (by rw [hun]; decide), uo f11 rfl, uo f12 rfl, fun h => absurd (hc.reach (f := 8) (s := 13) (l := 5) (by kernel_rfl) (upd_of rfl h)) (by rw [hun]; decide), uo f14 rfl, uo f15 rfl, uo f16 rfl, uo f17 rfl, trivial⟩
   · intro dd aa ww K hc hun hn hI hK
     obtain ⟨y23, y24, y25, y26, y27, y28, y29, y30, y31, y32, y33, y34, y35, y36, y37, y38, y39, y40, ea, hb, f0, f1, f2, f3, f4, f5, f6, f7, f8, f9, f10, f11, f12, f13, f14, f15, f16, f17, _⟩ := hI
     try simp [Region.binds] at hn
     have ex := f0.out (by first | (simp [hn]; done) | exact rc hc hn | exact rc hc hn.1 | exact rc hc hn.2 | exact rc hc hn.2.1 | exact rc hc hn.2.2 | exact rc hc hn.2.2.1 | exact rc hc hn.2.2.2)
     subst ex
     have ex := f5.out (by first | (simp [hn]; done) | exact rc hc hn | exact rc hc hn.1 | exact rc hc hn.2 | exact rc hc hn.2.1 | exact rc hc hn.2.2 | exact rc hc hn.2.2.1 | exact rc hc hn.2.2.2)
     subst ex
     subst ea
     simp only [puts, Act.put, lsA, lsZ, lsS]
     go_simp
     refine hK.out _ _ ?_
     exact ⟨.bool LE, y24, y25, y26, y27, .bool LE, .bool false, y30, y31, y32, y33, y34, y35, y36, y37, y38, y39, y40, by simp only [puts, Act.put, lsA, lsZ, lsS], hb, fun h => rfl, uo f1 rfl, uo f2 rfl, uo f3 rfl, uo f4 rfl, fun h => rfl, fun _ => rfl, uo f7 rfl, uo f8 rfl, uo f9 rfl, fun h => absurd (hc.reach (f := 8) (s := 10) (l := 6) (by kernel_rfl) (upd_of rfl h)) (by rw [hun]; decide), uo f11 rfl, uo f12 rfl, fun h => absurd (hc.reach (f := 8) (s := 13) (l := 6) (by kernel_rfl) (upd_of rfl h)) (by rw [hun]; decide), uo f14 rfl, uo f15 rfl, uo f16 rfl, uo f17 rfl, trivial⟩
   · intro dd aa ww K hc hun hn hI hK
     obtain ⟨y23, y24, y25, y26, y27, y28, y29, y30, y31, y32, y33, y34, y35, y36, y37, y38, y39, y40, ea, hb, f0, f1, f2, f3, f4, f5, f6, f7, f8, f9, f10, f11, f12, f13, f14, f15, f16, f17, _⟩ := hI
     try simp [Region.binds] at hn
     have ex := f6.out (by first | (simp [hn]; done) | exact rc hc hn | exact rc hc hn.1 | exact rc hc hn.2 | exact rc hc hn.2.1 | exact rc hc hn.2.2 | exact rc hc hn.2.2.1 | exact rc hc hn.2.2.2)
     subst ex
     subst ea
     simp only [puts, Act.put, lsA, lsZ, lsS]
     go_simp
     refine hK.out _ _ ?_
     exact ⟨y23, y24, y25, y26, y27, y28, .bool false, .bool false, y31, y32, y33, y34, y35, y36, y37, y38, y39, y40, by simp only [puts, Act.put, lsA, lsZ, lsS], hb, uo f0 rfl, uo f1 rfl, uo f2 rfl, uo f3 rfl, uo f4 rfl, uo f5 rfl, fun h => rfl, fun _ => rfl, uo f8 rfl, uo f9 rfl, fun h => absurd (hc.reach (f := 8) (s := 10) (l := 7) (by kernel_rfl) (upd_of rfl h)) (by rw [hun]; decide), uo f11 rfl, uo f12 rfl, fun h => absurd (hc.reach (f := 8) (s := 13) (l := 7) (by kernel_rfl) (upd_of rfl h)) (by rw [hun]; decide), uo f14 rfl, uo f15 rfl, uo f16 rfl, uo f17 rfl, trivial⟩
   · intro dd aa ww K hc hun hn hI hK
     obtain ⟨y23, y24, y25, y26, y27, y28, y29, y30, y31, y32, y33, y34, y35, y36, y37, y38, y39, y40, ea, hb, f0, f1, f2, f3, f4, f5, f6, f7, f8, f9, f10, f11, f12, f13, f14, f15, f16, f17, _⟩ := hI
     try simp [Region.binds] at hn
     have ex := f7.out (by first | (simp [hn]; done) | exact rc hc hn | exact rc hc hn.1 | exact rc hc hn.2 | exact rc hc hn.2.1 | exact rc hc hn.2.2 | exact rc hc hn.2.2.1 | exact rc hc hn.2.2.2)
     subst ex
     subst ea
     simp only [puts, Act.put, lsA, lsZ, lsS]
     go_simp
     refine hK.out _ _ ?_
     exact ⟨y23, y24, y25, y26, y27, y28, y29, .bool false, .bool LE, y32, y33, y34, y35, y36, y37, y38, y39, y40, by simp only [puts, Act.put, lsA, lsZ, lsS], hb, uo f0 rfl, uo f1 rfl, uo f2 rfl, uo f3 rfl, uo f4 rfl, uo f5 rfl, uo f6 rfl, fun h => rfl, fun _ => rfl, uo f9 rfl, uo f10 rfl, uo f11 rfl, uo f12 rfl, uo f13 rfl, uo f14 rfl, uo f15 rfl, uo f16 rfl, uo f17 rfl, trivial⟩
   · intro dd aa ww K hc hun hn hI hK
     obtain ⟨y23, y24, y25, y26, y27, y28, y29, y30, y31, y32, y33, y34, y35, y36, y37, y38, y39, y40, ea, hb, f0, f1, f2, f3, f4, f5, f6, f7, f8, f9, f10, f11, f12, f13, f14, f15, f16, f17, _⟩ := hI
     try simp [Region.binds] at hn
     have ex := f7.out (by first | (simp [hn]; done) | exact rc hc hn | exact rc hc hn.1 | exact rc hc hn.2 | exact rc hc hn.2.1 | exact rc hc hn.2.2 | exact rc hc hn.2.2.1 | exact rc hc hn.2.2.2)
     subst ex
     subst ea
     simp only [puts, Act.put, lsA, lsZ, lsS]
     go_simp
     refine hK.out _ _ ?_
     exact ⟨y23, y24, y25, y26, y27, y28, y29, .bool false, y31, .slice a n c, y33, y34, y35, y36, y37, y38, y39, y40, by simp only [puts, Act.put, lsA, lsZ, lsS], hb, uo f0 rfl, uo f1 rfl, uo f2 rfl, uo f3 rfl, uo f4 rfl, uo f5 rfl, uo f6 rfl, fun h => rfl, uo f8 rfl, fun _ => rfl, fun h => absurd (hc.reach (f := 8) (s := 10) (l := 9) (by kernel_rfl) (upd_of rfl h)) (by rw [hun]; decide), uo f11 rfl, uo f12 rfl, uo f13 rfl, uo f14 rfl, uo f15 rfl, uo f16 rfl, uo f17 rfl, trivial⟩
   · intro dd aa ww K hc hun hn hI hK
     obtain ⟨y23, y24, y25, y26, y27, y28, y29, y30, y31, y32, y33, y34, y35, y36, y37, y38, y39, y40, ea, hb, f0, f1, f2, f3, f4, f5, f6, f7, f8, f9, f10, f11, f12, f13, f14, f15, f16, f17, _⟩ := hI
     try simp [Region.binds] at hn
     have ex := f9.out (by first | (simp [hn]; done) | exact rc hc hn | exact rc hc hn.1 | exact rc hc hn.2 | exact rc hc hn.2.1 | exact rc hc hn.2.2 | exact rc hc hn.2.2.1 | exact rc hc hn.2.2.2)
     subst ex
     have ex := f7.out (by first | (simp [hn]; done) | exact rc hc hn | exact rc hc hn.1 | exact rc hc hn.2 | exact rc hc hn.2.1 | exact rc hc hn.2.2 | exact rc hc hn.2.2.1 | exact rc hc hn.2.2.2)
     subst ex
     subst ea
     simp only [puts, Act.put, lsA, lsZ, lsS]
     go_simp
     with_reducible refine (bytes_at _ _ _ _ _ (g1.past hb) (by omega)).mono ?_
     rintro e w1 ⟨ahX, nhX, chX, rfl, hX, h1⟩
     refine hK.out _ _ ?_
     exact ⟨y23, y24, y25, y26, y27, y28, y29, .bool false, y31, .slice a n c, .slice ahX nhX chX, y34, y35, y36, y37, y38, y39, y40, by simp only [puts, Act.put, lsA, lsZ, lsS], below_later hb h1, uo f0 rfl, uo f1 rfl, uo f2 rfl, uo f3 rfl, uo f4 rfl, uo f5 rfl, uo f6 rfl, fun h => rfl, uo f8 rfl, fun h => rfl, fun _ => ⟨_, _, _, rfl, hX⟩, uo f11 rfl, uo f12 rfl, fun h => (f13.out (upd_of rfl h)).past h1, uo f14 rfl, uo f15 rfl, uo f16 rfl, uo f17 rfl, trivial⟩
   · intro dd aa ww K hc hun hn hI hK
     obtain ⟨y23, y24, y25, y26, y27, y28, y29, y30, y31, y32, y33, y34, y35, y36, y37, y38, y39, y40, ea, hb, f0, f1, f2, f3, f4, f5, f6, f7, f8, f9, f10, f11, f12, f13, f14, f15, f16, f17, _⟩ := hI
     try simp [Region.binds] at hn
     obtain ⟨ahX, nhX, chX, ex, hX⟩ := f10.out (by first | (simp [hn]; done) | exact rc hc hn | exact rc hc hn.1 | exact rc hc hn.2 | exact rc hc hn.2.1 | exact rc hc hn.2.2 | exact rc hc hn.2.2.1 | exact rc hc hn.2.2.2)
     subst ex
     have ex := f7.out (by first | (simp [hn]; done) | exact rc hc hn | exact rc hc hn.1 | exact rc hc hn.2 | exact rc hc hn.2.1 | exact rc hc hn.2.2 | exact rc hc hn.2.2.1 | exact rc hc hn.2.2.2)
     subst ex
     have tx := hX.text (P := Try.prog) 27 5 9 Try.underlying27 Try.underlying5 Try.underlying9
     subst ea
     simp only [puts, Act.put, lsA, lsZ, lsS]
     go_simp
     refine hK.out _ _ ?_
     exact ⟨y23, y24, y25, y26, y27, y28, y29, .bool false, y31, y32, .slice ahX nhX chX, .string (bytB (digL 256 (val l))), y35, y36, y37, y38, y39, y40, by simp only [puts, Act.put, lsA, lsZ, lsS], hb, uo f0 rfl, uo f1 rfl, uo f2 rfl, uo f3 rfl, uo f4 rfl, uo f5 rfl, uo f6 rfl, fun h => rfl, uo f8 rfl, uo f9 rfl, uo f10 rfl, fun _ => rfl, uo f12 rfl, uo f13 rfl, uo f14 rfl, uo f15 rfl, uo f16 rfl, uo f17 rfl, trivial⟩
   · intro dd aa ww K hc hun hn hI hK
     obtain ⟨y23, y24, y25, y26, y27, y28, y29, y30, y31, y32, y33, y34, y35, y36, y37, y38, y39, y40, ea, hb, f0, f1, f2, f3, f4, f5, f6, f7, f8, f9, f10, f11, f12, f13, f14, f15, f16, f17, _⟩ := hI
     try simp [Region.binds] at hn
     have ex := f7.out (by first | (simp [hn]; done) | exact rc hc hn | exact rc hc hn.1 | exact rc hc hn.2 | exact rc hc hn.2.1 | exact rc hc hn.2.2 | exact rc hc hn.2.2.1 | exact rc hc hn.2.2.2)
     subst ex
     subst ea
     simp only [puts, Act.put, lsA, lsZ, lsS]
     go_simp
     refine hK.out _ _ ?_
     exact ⟨y23, y24, y25, y26, y27, y28, y29, .bool false, y31, y32, y33, y34, .slice a2 n2 c2, y36, y37, y38, y39, y40, by simp only [puts, Act.put, lsA, lsZ, lsS], hb, uo f0 rfl, uo f1 rfl, uo f2 rfl, uo f3 rfl, uo f4 rfl, uo f5 rfl, uo f6 rfl, fun h => rfl, uo f8 rfl, uo f9 rfl, uo f10 rfl, uo f11 rfl, fun _ => rfl, fun h => absurd (hc.reach (f := 8) (s := 13) (l := 12) (by kernel_rfl) (upd_of rfl h)) (by rw [hun]; decide), uo f14 rfl, uo f15 rfl, uo f16 rfl, uo f17 rfl, trivial⟩
   · intro dd aa ww K hc hun hn hI hK
     obtain ⟨y23, y24, y25, y26, y27, y28, y29, y30, y31, y32, y33, y34, y35, y36, y37, y38, y39, y40, ea, hb, f0, f1, f2, f3, f4, f5, f6, f7, f8, f9, f10, f11, f12, f13, f14, f15, f16, f17, _⟩ := hI
     try simp [Region.binds] at hn
     have ex := f12.out (by first | (simp [hn]; done) | exact rc hc hn | exact rc hc hn.1 | exact rc hc hn.2 | exact rc hc hn.2.1 | exact rc hc hn.2.2 | exact rc hc hn.2.2.1 | exact rc hc hn.2.2.2)
     subst ex
     have ex := f7.out (by first | (simp [hn]; done) | exact rc hc hn | exact rc hc hn.1 | exact rc hc hn.2 | exact rc hc hn.2.1 | exact rc hc hn.2.2 | exact rc hc hn.2.2.1 | exact rc hc hn.2.2.2)
     subst ex
     subst ea
     simp only [puts, Act.put, lsA, lsZ, lsS]
     go_simp
     with_reducible refine (bytes_at _ _ _ _ _ (g2.past hb) (by omega)).mono ?_
     rintro e w1 ⟨ahY, nhY, chY, rfl, hY, h1⟩
     refine hK.out _ _ ?_
     exact ⟨y23, y24, y25, y26, y27, y28, y29, .bool false, y31, y32, y33, y34, .slice a2 n2 c2, .slice ahY nhY chY, y37, y38, y39, y40, by simp only [puts, Act.put, lsA, lsZ, lsS], below_later hb h1, uo f0 rfl, uo f1 rfl, uo f2 rfl, uo f3 rfl, uo f4 rfl, uo f5 rfl, uo f6 rfl, fun h => rfl, uo f8 rfl, uo f9 rfl, fun h => (f10.out (upd_of rfl h)).past h1, uo f11 rfl, fun h => rfl, fun _ => ⟨_, _, _, rfl, hY⟩, uo f14 rfl, uo f15 rfl, uo f16 rfl, uo f17 rfl, trivial⟩
   · intro dd aa ww K hc hun hn hI hK
     obtain ⟨y23, y24, y25, y26, y27, y28, y29, y30, y31, y32, y33, y34, y35, y36, y37, y38, y39, y40, ea, hb, f0, f1, f2, f3, f4, f5, f6, f7, f8, f9, f10, f11, f12, f13, f14, f15, f16, f17, _⟩ := hI
     try simp [Region.binds] at hn
     obtain ⟨ahY, nhY, chY, ex, hY⟩ := f13.out (by first | (simp [hn]; done) | exact rc hc hn | exact rc hc hn.1 | exact rc hc hn.2 | exact rc hc hn.2.1 | exact rc hc hn.2.2 | exact rc hc hn.2.2.1 | exact rc hc hn.2.2.2)
     subst ex
     have ex := f7.out (by first | (simp [hn]; done) | exact rc hc hn | exact rc hc hn.1 | exact rc hc hn.2 | exact rc hc hn.2.1 | exact rc hc hn.2.2 | exact rc hc hn.2.2.1 | exact rc hc hn.2.2.2)
     subst ex
     have tx := hY.text (P := Try.prog) 27 5 9 Try.underlying27 Try.underlying5 Try.underlying9
     subst ea
     simp only [puts, Act.put, lsA, lsZ, lsS]
     go_simp
     refine hK.out _ _ ?_
     exact ⟨y23, y24, y25, y26, y27, y28, y29, .bool false, y31, y32, y33, y34, y35, .slice ahY nhY chY, .string (bytB (digL 256 (val l2))), y38, y39, y40, by simp only [puts, Act.put, lsA, lsZ, lsS], hb, uo f0 rfl, uo f1 rfl, uo f2 rfl, uo f3 rfl, uo f4 rfl, uo f5 rfl, uo f6 rfl, fun h => rfl, uo f8 rfl, uo f9 rfl, uo f10 rfl, uo f11 rfl, uo f12 rfl, uo f13 rfl, fun _ => rfl, uo f15 rfl, uo f16 rfl, uo f17 rfl, trivial⟩
   · intro dd aa ww K hc hun hn hI hK
     obtain ⟨y23, y24, y25, y26, y27, y28, y29, y30, y31, y32, y33, y34, y35, y36, y37, y38, y39, y40, ea, hb, f0, f1, f2, f3, f4, f5, f6, f7, f8, f9, f10, f11, f12, f13, f14, f15, f16, f17, _⟩ := hI
     try simp [Region.binds] at hn
     have ex := f11.out (by first | (simp [hn]; done) | exact rc hc hn | exact rc hc hn.1 | exact rc hc hn.2 | exact rc hc hn.2.1 | exact rc hc hn.2.2 | exact rc hc hn.2.2.1 | exact rc hc hn.2.2.2)
     subst ex
     have ex := f14.out (by first | (simp [hn]; done) | exact rc hc hn | exact rc hc hn.1 | exact rc hc hn.2 | exact rc hc hn.2.1 | exact rc hc hn.2.2 | exact rc hc hn.2.2.1 | exact rc hc hn.2.2.2)
     subst ex
     have ex := f7.out (by first | (simp [hn]; done) | exact rc hc hn | exact rc hc hn.1 | exact rc hc hn.2 | exact rc hc hn.2.1 | exact rc hc hn.2.2 | exact rc hc hn.2.2.1 | exact rc hc hn.2.2.2)
     subst ex
     subst ea
     simp only [puts, Act.put, lsA, lsZ, lsS]
     go_simp
     with_reducible refine (HSH2.out _).mono ?_
     rintro e w1 ⟨rfl, h1⟩
     refine hK.out _ _ ?_
     exact ⟨y23, y24, y25, y26, y27, y28, y29, .bool false, y31, y32, y33, .string (bytB (digL 256 (val l))), y35, y36, .string (bytB (digL 256 (val l2))), .bool LE, y39, y40, by simp only [puts, Act.put, lsA, lsZ, lsS], below_later hb h1, uo f0 rfl, uo f1 rfl, uo f2 rfl, uo f3 rfl, uo f4 rfl, uo f5 rfl, uo f6 rfl, fun h => rfl, uo f8 rfl, uo f9 rfl, fun h => (f10.out (upd_of rfl h)).past h1, fun h => rfl, uo f12 rfl, fun h => (f13.out (upd_of rfl h)).past h1, fun h => rfl, fun _ => rfl, uo f16 rfl, uo f17 rfl, trivial⟩
   · intro dd aa ww K hc hun hn hI hK
     obtain ⟨y23, y24, y25, y26, y27, y28, y29, y30, y31, y32, y33, y34, y35, y36, y37, y38, y39, y40, ea, hb, f0, f1, f2, f3, f4, f5, f6, f7, f8, f9, f10, f11, f12, f13, f14, f15, f16, f17, _⟩ := hI
     try simp [Region.binds] at hn
     have ex := f8.out (by first | (simp [hn]; done) | exact rc hc hn | exact rc hc hn.1 | exact rc hc hn.2 | exact rc hc hn.2.1 | exact rc hc hn.2.2 | exact rc hc hn.2.2.1 | exact rc hc hn.2.2.2)
     subst ex
     have ex := f15.out (by first | (simp [hn]; done) | exact rc hc hn | exact rc hc hn.1 | exact rc hc hn.2 | exact rc hc hn.2.1 | exact rc hc hn.2.2 | exact rc hc hn.2.2.1 | exact rc hc hn.2.2.2)
     subst ex
     have ex := f7.out (by first | (simp [hn]; done) | exact rc hc hn | exact rc hc hn.1 | exact rc hc hn.2 | exact rc hc hn.2.1 | exact rc hc hn.2.2 | exact rc hc hn.2.2.1 | exact rc hc hn.2.2.2)
     subst ex
     subst ea
     simp only [puts, Act.put, lsA, lsZ, lsS]
     go_simp
     refine hK.out _ _ ?_
     exact ⟨y23, y24, y25, y26, y27, y28, y29, .bool false, .bool LE, y32, y33, y34, y35, y36, y37, .bool LE, .bool false, y40, by simp only [puts, Act.put, lsA, lsZ, lsS], hb, uo f0 rfl, uo f1 rfl, uo f2 rfl, uo f3 rfl, uo f4 rfl, uo f5 rfl, uo f6 rfl, fun h => rfl, fun h => rfl, uo f9 rfl, uo f10 rfl, uo f11 rfl, uo f12 rfl, uo f13 rfl, uo f14 rfl, fun h => rfl, fun _ => rfl, uo f17 rfl, trivial⟩
   · intro dd aa ww K hc hun hn hI hK
     obtain ⟨y23, y24, y25, y26, y27, y28, y29, y30, y31, y32, y33, y34, y35, y36, y37, y38, y39, y40, ea, hb, f0, f1, f2, f3, f4, f5, f6, f7, f8, f9, f10, f11, f12, f13, f14, f15, f16, f17, _⟩ := hI
     try simp [Region.binds] at hn
     have ex := f7.out (by first | (simp [hn]; done) | exact rc hc hn | exact rc hc hn.1 | exact rc hc hn.2 | exact rc hc hn.2.1 | exact rc hc hn.2.2 | exact rc hc hn.2.2.1 | exact rc hc hn.2.2.2)
     subst ex
     have ex := f16.out (by first | (simp [hn]; done) | exact rc hc hn | exact rc hc hn.1 | exact rc hc hn.2 | exact rc hc hn.2.1 | exact rc hc hn.2.2 | exact rc hc hn.2.2.1 | exact rc hc hn.2.2.2)
     subst ex
     subst ea
     simp only [puts, Act.put, lsA, lsZ, lsS]
     go_simp
     refine hK.out _ _ ?_
     exact ⟨y23, y24, y25, y26, y27, y28, y29, .bool false, y31, y32, y33, y34, y35, y36, y37, y38, .bool false, .bool false, by simp only [puts, Act.put, lsA, lsZ, lsS], hb, uo f0 rfl, uo f1 rfl, uo f2 rfl, uo f3 rfl, uo f4 rfl, uo f5 rfl, uo f6 rfl, fun h => rfl, uo f8 rfl, uo f9 rfl, uo f10 rfl, uo f11 rfl, uo f12 rfl, uo f13 rfl, uo f14 rfl, uo f15 rfl, fun h => rfl, fun _ => rfl, trivial⟩
 intro dd aa w3 hd hI
 obtain ⟨y23, y24, y25, y26, y27, y28, y29, y30, y31, y32, y33, y34, y35, y36, y37, y38, y39, y40, ea, hb, f0, f1, f2, f3, f4, f5, f6, f7, f8, f9, f10, f11, f12, f13, f14, f15, f16, f17, _⟩ := hI
 have ex := f0.out (hd 0 (by simp))
 subst ex
 have ex := f1.out (hd 1 (by simp))
 subst ex
 have ex := f2.out (hd 2 (by simp))
 subst ex
 have ex := f3.out (hd 3 (by simp))
 subst ex
 have ex := f4.out (hd 4 (by simp))
 subst ex
 have ex := f5.out (hd 5 (by simp))
 subst ex
 have ex := f6.out (hd 6 (by simp))
 subst ex
 have ex := f7.out (hd 7 (by simp))
 subst ex
 have ex := f8.out (hd 8 (by simp))
 subst ex
 have ex := f9.out (hd 9 (by simp))
 subst ex
 obtain ⟨ahX, nhX, chX, ex, hX⟩ := f10.out (hd 10 (by simp))
 subst ex
 have ex := f11.out (hd 11 (by simp))
 subst ex
 have ex := f12.out (hd 12 (by simp))
 subst ex
 obtain ⟨ahY, nhY, chY, ex, hY⟩ := f13.out (hd 13 (by simp))
 subst ex
 have ex := f14.out (hd 14 (by simp))
 subst ex
 have ex := f15.out (hd 15 (by simp))
 subst ex
 have ex := f16.out (hd 16 (by simp))
 subst ex
 have ex := f17.out (hd 17 (by simp))
 subst ex
 subst ea
 simp only [puts, Act.put, lsA, lsZ, lsS]
 have g1 := g1.past hb
 have g2 := g2.past hb
 have hB := below_later hB hb
 clear hb hd
 go_wp2_with fail
 with_reducible refine (pick_any _ _ _ hx.1 hx.2 (by decide)).mono ?_
 rintro e w' ⟨rfl, rfl⟩
 obtain ⟨d, hd, hd10⟩ := pick10 x
 rw [hd]
 have hd0 : (0 : Int) ≤ (d : Int) := by omega
 clear hd
 go_wp2_with fail
 with_reducible refine (tgrow_ten _ _ _ _ _ g1 (by omega)).mono ?_
 rintro e w4 ⟨a5, n5, c5, rfl, h5, hb⟩
 have g1 := g1.past hb
 have g2 := g2.past hb
 have hB := below_later hB hb
 clear hb
 go_wp2_with fail
 with_reducible refine (of_any d _ (by omega)).mono ?_
 rintro e w5 ⟨a6, n6, c6, rfl, h6, hb⟩
 have g1 := g1.past hb
 have g2 := g2.past hb
 have h5 := h5.past hb
 have hB := below_later hB hb
 clear hb
 have l5 := h5.len
 have l6 := h6.len
 have k5 : n5 ≤ 14 := by have := len_ten g1.dig; have := g1.len; omega
 have k6 : n6 ≤ 1 := by have := digs_length_le.2 (show d < 18446744073709551616 ^ 1 by omega); omega
 clear l5 l6
 go_wp2_with fail
 with_reducible refine (add_any _ _ _ _ _ _ _ _ _ h5.toNatAt h6.toNatAt (by omega) (by omega)).mono ?_
 rintro e w6 ⟨a7, n7, c7, rfl, h7, hb⟩
 have g1 := g1.past hb
 have g2 := g2.past hb
 have h5 := h5.past hb
 have h6 := h6.past hb
 have hB := below_later hB hb
 clear hb
 rw [val_digs, val_digs] at h7
 have k7 : n7 ≤ 16 := len_more g1.dig g1.len h7.len (by omega) (by omega)
 have hw1 : IntKind.i64.wrap (48 + (d : Int)) = 48 + (d : Int) := by rw [IntKind.wrap_i64]; omega
 have hw2 : IntKind.u8.wrap (48 + (d : Int)) = 48 + (d : Int) := by rw [IntKind.wrap_u8]; omega
 have HW1 := Lib.hid hw1
 have HW2 := Lib.hid hw2
 clear hw1 hw2
 have hsz : (decS (val l)).size + (strB [d]).size ≤ 9223372036854775807 := by rw [strB_size]; have := BD1.out.1; simp; omega
 go_wp2_with fail
 refine wp_region_inv (by kernel_rfl) rfl (by kernel_rfl) (fun A0 V0 dd aa ww => ∃ (y49 y50 y51 y52 y53 y54 y55 y56 y10 : Value), aa = puts A0 [(49, y49), (50, y50), (51, y51), (52, y52), (53, y53), (54, y54), (55, y55), (56, y56), (10, y10)] ∧ Below V0.heap.size V0 ww ∧ Shut (dd 0 = true → y49 = .slice a n c) ∧ Shut (dd 1 = true → y50 = .string (decS (val l))) ∧ Shut (dd 2 = true → y51 = .int .i64 (d : Int)) ∧ Shut (dd 3 = true → y52 = .int .i64 (48 + (d : Int))) ∧ Shut (dd 4 = true → y53 = .int .u8 (48 + (d : Int))) ∧ Shut (dd 5 = true → dd 6 = false → LstV V0.heap.size 1 ([y53].flatMap cellsOf) y54 ww) ∧ Shut (dd 6 = true → y55 = .string (strB [d])) ∧ Shut (dd 7 = true → y56 = .string (decS (val l) ++ strB [d])) ∧ Shut (dd 8 = true → y10 = y56) ∧ True) ?_ ?_ ?_
 · exact ⟨_, _, _, _, _, _, _, _, _, puts_self _ [49, 50, 51, 52, 53, 54, 55, 56, 10], (Below.refl _ _).drew, fun h => (by cases h), fun h => (by cases h), fun h => (by cases h), fun h => (by cases h), fun h => (by cases h), fun h => (by cases h), fun h => (by cases h), fun h => (by cases h), fun h => (by cases h), trivial⟩
 · refine Steps.cons ?_ (Steps.cons ?_ (Steps.cons ?_ (Steps.cons ?_ (Steps.cons ?_ (Steps.cons ?_ (Steps.cons ?_ (Steps.cons ?_ (Steps.cons ?_ (Steps.nil)))))))))
   · intro dd aa ww K hc hun hn hI hK
     obtain ⟨y49, y50, y51, y52, y53, y54, y55, y56, y10, ea, hb, f0, f1, f2, f3, f4, f5, f6, f7, f8, _⟩ := hI
     try simp [Region.binds] at hn
     subst ea
     simp only [puts, Act.put, lsA, lsZ, lsS]
     go_simp
     refine hK.out _ _ ?_
     exact ⟨.slice a n c, y50, y51, y52, y53, y54, y55, y56, y10, by simp only [puts, Act.put, lsA, lsZ, lsS], hb, fun _ => rfl, uo f1 rfl, uo f2 rfl, uo f3 rfl, uo f4 rfl, fun h h2 => ((f5.out (upd_of rfl h)) (upd_off h2)), uo f6 rfl, uo f7 rfl, uo f8 rfl, trivial⟩
   · intro dd aa ww K hc hun hn hI hK
     obtain ⟨y49, y50, y51, y52, y53, y54, y55, y56, y10, ea, hb, f0, f1, f2, f3, f4, f5, f6, f7, f8, _⟩ := hI
     try simp [Region.binds] at hn
     have ex := f0.out (by first | (simp [hn]; done) | exact rc hc hn | exact rc hc hn.1 | exact rc hc hn.2 | exact rc hc hn.2.1 | exact rc hc hn.2.2 | exact rc hc hn.2.2.1 | exact rc hc hn.2.2.2)
     subst ex
     subst ea
     simp only [puts, Act.put, lsA, lsZ, lsS]
     go_simp
     with_reducible refine (put_any _ _ _ _ _ (g1.past hb) (by omega)).mono ?_
     rintro e w1 ⟨rfl, h1⟩
     refine hK.out _ _ ?_
     exact ⟨.slice a n c, .string (decS (val l)), y51, y52, y53, y54, y55, y56, y10, by simp only [puts, Act.put, lsA, lsZ, lsS], below_later hb h1, fun h => rfl, fun _ => rfl, uo f2 rfl, uo f3 rfl, uo f4 rfl, fun h h2 => ((f5.out (upd_of rfl h)) (upd_off h2)).past h1, uo f6 rfl, uo f7 rfl, uo f8 rfl, trivial⟩
   · intro dd aa ww K hc hun hn hI hK
     obtain ⟨y49, y50, y51, y52, y53, y54, y55, y56, y10, ea, hb, f0, f1, f2, f3, f4, f5, f6, f7, f8, _⟩ := hI
     try simp [Region.binds] at hn
     subst ea
     simp only [puts, Act.put, lsA, lsZ, lsS]
     go_simp
     refine hK.out _ _ ?_
     exact ⟨y49, y50, .int .i64 (d : Int), y52, y53, y54, y55, y56, y10, by simp only [puts, Act.put, lsA, lsZ, lsS], hb, uo f0 rfl, uo f1 rfl, fun _ => rfl, uo f3 rfl, uo f4 rfl, fun h h2 => ((f5.out (upd_of rfl h)) (upd_off h2)), uo f6 rfl, uo f7 rfl, uo f8 rfl, trivial⟩
   · intro dd aa ww K hc hun hn hI hK
     obtain ⟨y49, y50, y51, y52, y53, y54, y55, y56, y10, ea, hb, f0, f1, f2, f3, f4, f5, f6, f7, f8, _⟩ := hI
     try simp [Region.binds] at hn
     have ex := f2.out (by first | (simp [hn]; done) | exact rc hc hn | exact rc hc hn.1 | exact rc hc hn.2 | exact rc hc hn.2.1 | exact rc hc hn.2.2 | exact rc hc hn.2.2.1 | exact rc hc hn.2.2.2)
     subst ex
     subst ea
     simp only [puts, Act.put, lsA, lsZ, lsS]
     go_simp
     try rw [HW1.out]
     refine hK.out _ _ ?_
     exact ⟨y49, y50, .int .i64 (d : Int), .int .i64 (48 + (d : Int)), y53, y54, y55, y56, y10, by simp only [puts, Act.put, lsA, lsZ, lsS], hb, uo f0 rfl, uo f1 rfl, fun h => rfl, fun _ => rfl, uo f4 rfl, fun h h2 => ((f5.out (upd_of rfl h)) (upd_off h2)), uo f6 rfl, uo f7 rfl, uo f8 rfl, trivial⟩
   · intro dd aa ww K hc hun hn hI hK
     obtain ⟨y49, y50, y51, y52, y53, y54, y55, y56, y10, ea, hb, f0, f1, f2, f3, f4, f5, f6, f7, f8, _⟩ := hI
     try simp [Region.binds] at hn
     have ex := f3.out (by first | (simp [hn]; done) | exact rc hc hn | exact rc hc hn.1 | exact rc hc hn.2 | exact rc hc hn.2.1 | exact rc hc hn.2.2 | exact rc hc hn.2.2.1 | exact rc hc hn.2.2.2)
     subst ex
     subst ea
     simp only [puts, Act.put, lsA, lsZ, lsS]
     go_simp
     try rw [HW2.out]
     refine hK.out _ _ ?_
     exact ⟨y49, y50, y51, .int .i64 (48 + (d : Int)), .int .u8 (48 + (d : Int)), y54, y55, y56, y10, by simp only [puts, Act.put, lsA, lsZ, lsS], hb, uo f0 rfl, uo f1 rfl, uo f2 rfl, fun h => rfl, fun _ => rfl, fun h => absurd (hc.reach (f := 8) (s := 5) (l := 4) (by kernel_rfl) (upd_of rfl h)) (by rw [hun]; decide), uo f6 rfl, uo f7 rfl, uo f8 rfl, trivial⟩
   · intro dd aa ww K hc hun hn hI hK
     obtain ⟨y49, y50, y51, y52, y53, y54, y55, y56, y10, ea, hb, f0, f1, f2, f3, f4, f5, f6, f7, f8, _⟩ := hI
     try simp [Region.binds] at hn
     have ex := f4.out (by first | (simp [hn]; done) | exact rc hc hn | exact rc hc hn.1 | exact rc hc hn.2 | exact rc hc hn.2.1 | exact rc hc hn.2.2 | exact rc hc hn.2.2.1 | exact rc hc hn.2.2.2)
     subst ex
     subst ea
     simp only [puts, Act.put, lsA, lsZ, lsS]
     go_simp
     refine hK.out _ _ ?_
     exact ⟨y49, y50, y51, y52, .int .u8 (48 + (d : Int)), .slice (some ⟨ww.heap.size, 0, none⟩) 1 1, y55, y56, y10, by simp only [puts, Act.put, lsA, lsZ, lsS], below_alloc hb _, uo f0 rfl, uo f1 rfl, uo f2 rfl, uo f3 rfl, fun h => rfl, fun _ _ => LstV.new hb.size _ _, uo f6 rfl, uo f7 rfl, uo f8 rfl, trivial⟩
   · intro dd aa ww K hc hun hn hI hK
     obtain ⟨y49, y50, y51, y52, y53, y54, y55, y56, y10, ea, hb, f0, f1, f2, f3, f4, f5, f6, f7, f8, _⟩ := hI
     try simp [Region.binds] at hn
     have ex := f4.out (by first | (simp [hn]; done) | exact rc hc hn | exact rc hc hn.1 | exact rc hc hn.2 | exact rc hc hn.2.1 | exact rc hc hn.2.2 | exact rc hc hn.2.2.1 | exact rc hc hn.2.2.2)
     subst ex
     obtain ⟨G5, ex, hg1, hg2, hg3⟩ := f5.out (by first | (simp [hn]; done) | exact rc hc hn | exact rc hc hn.1 | exact rc hc hn.2 | exact rc hc hn.2.1 | exact rc hc hn.2.2 | exact rc hc hn.2.2.1 | exact rc hc hn.2.2.2) hun
     subst ex
     have z0 := hg3 0 (by simp [cellsOf])
     simp only [List.flatMap_cons, List.flatMap_nil, cellsOf, List.cons_append, List.nil_append, List.append_nil, lgZ, lgS] at z0
     have tx := one_text_at z0 hd10
     subst ea
     simp only [puts, Act.put, lsA, lsZ, lsS]
     go_simp
     refine hK.out _ _ ?_
     exact ⟨y49, y50, y51, y52, .int .u8 (48 + (d : Int)), .slice (some ⟨G5, 0, none⟩) 1 1, .string (strB [d]), y56, y10, by simp only [puts, Act.put, lsA, lsZ, lsS], hb, uo f0 rfl, uo f1 rfl, uo f2 rfl, uo f3 rfl, fun h => rfl, fun _ h2 => absurd h2 (by simp [upd]), fun _ => rfl, uo f7 rfl, uo f8 rfl, trivial⟩
   · intro dd aa ww K hc hun hn hI hK
     obtain ⟨y49, y50, y51, y52, y53, y54, y55, y56, y10, ea, hb, f0, f1, f2, f3, f4, f5, f6, f7, f8, _⟩ := hI
     try simp [Region.binds] at hn
     have ex := f1.out (by first | (simp [hn]; done) | exact rc hc hn | exact rc hc hn.1 | exact rc hc hn.2 | exact rc hc hn.2.1 | exact rc hc hn.2.2 | exact rc hc hn.2.2.1 | exact rc hc hn.2.2.2)
     subst ex
     have ex := f6.out (by first | (simp [hn]; done) | exact rc hc hn | exact rc hc hn.1 | exact rc hc hn.2 | exact rc hc hn.2.1 | exact rc hc hn.2.2 | exact rc hc hn.2.2.1 | exact rc hc hn.2.2.2)
     subst ex
     subst ea
     simp only [puts, Act.put, lsA, lsZ, lsS]
     go_simp
     rw [if_neg (Nat.not_lt.2 hsz)]
     refine hK.out _ _ ?_
     exact ⟨y49, .string (decS (val l)), y51, y52, y53, y54, .string (strB [d]), .string (decS (val l) ++ strB [d]), y10, by simp only [puts, Act.put, lsA, lsZ, lsS], hb, uo f0 rfl, fun h => rfl, uo f2 rfl, uo f3 rfl, uo f4 rfl, fun _ h2 => absurd (show dd 6 = true from (by first | (simp [hn]; done) | exact rc hc hn | exact rc hc hn.1 | exact rc hc hn.2 | exact rc hc hn.2.1 | exact rc hc hn.2.2 | exact rc hc hn.2.2.1 | exact rc hc hn.2.2.2)) (by rw [upd_off h2]; decide), fun h => rfl, fun _ => rfl, fun h => absurd (hc.reach (f := 8) (s := 8) (l := 7) (by kernel_rfl) (upd_of rfl h)) (by rw [hun]; decide), trivial⟩
   · intro dd aa ww K hc hun hn hI hK
     obtain ⟨y49, y50, y51, y52, y53, y54, y55, y56, y10, ea, hb, f0, f1, f2, f3, f4, f5, f6, f7, f8, _⟩ := hI
     try simp [Region.binds] at hn
     have ex := f7.out (by first | (simp [hn]; done) | exact rc hc hn | exact rc hc hn.1 | exact rc hc hn.2 | exact rc hc hn.2.1 | exact rc hc hn.2.2 | exact rc hc hn.2.2.1 | exact rc hc hn.2.2.2)
     subst ex
     subst ea
     simp only [puts, Act.put, lsA, lsZ, lsS]
     go_simp
     refine hK.out _ _ ?_
     exact ⟨y49, y50, y51, y52, y53, y54, y55, .string (decS (val l) ++ strB [d]), .string (decS (val l) ++ strB [d]), by simp only [puts, Act.put, lsA, lsZ, lsS], hb, uo f0 rfl, uo f1 rfl, uo f2 rfl, uo f3 rfl, uo f4 rfl, fun _ h2 => absurd (show dd 6 = true from (by first | (simp [hn]; done) | exact rc hc hn | exact rc hc hn.1 | exact rc hc hn.2 | exact rc hc hn.2.1 | exact rc hc hn.2.2 | exact rc hc hn.2.2.1 | exact rc hc hn.2.2.2)) (by rw [upd_off h2]; decide), uo f6 rfl, fun h => rfl, fun _ => rfl, trivial⟩
 intro dd aa w7 hd hI
 obtain ⟨y49, y50, y51, y52, y53, y54, y55, y56, y10, ea, hb, f0, f1, f2, f3, f4, f5, f6, f7, f8, _⟩ := hI
 have ex := f0.out (hd 0 (by simp))
 subst ex
 have ex := f1.out (hd 1 (by simp))
 subst ex
 have ex := f2.out (hd 2 (by simp))
 subst ex
 have ex := f3.out (hd 3 (by simp))
 subst ex
 have ex := f4.out (hd 4 (by simp))
 subst ex
 have ex := f6.out (hd 6 (by simp))
 subst ex
 have ex := f7.out (hd 7 (by simp))
 subst ex
 have ex : y10 = .string (decS (val l) ++ strB [d]) := f8.out (hd 8 (by simp))
 subst ex
 subst ea
 simp only [puts, Act.put, lsA, lsZ, lsS]
 have g1 := g1.past hb
 have h7 := h7.past hb
 have hB := below_later hB hb
 clear hb hd
 have e1 := g1
 obtain ⟨NB, hNB⟩ : ∃ NB, nbits (val l) = NB := ⟨_, rfl⟩
 have hlen := fun w (g1 : NatAt w a n c l) => len_any a n c l w g1 (by omega)
 simp only [hNB] at hlen
 have HLEN := Lib.hid hlen
 have hput := fun w (h7 : NatAt w a7 n7 c7 (digs (val l * 10 + d))) => put_any _ _ _ _ w h7 (by omega)
 rw [val_digs] at hput
 by_cases hz : val l = 0
 · have hnb : ((NB : Int) == 0) = true := by rw [← hNB, hz]; rfl
   have hput2 : decS (val l * 10 + d) = strB [d] := by rw [hz]; exact dec_digit hd10
   rw [hput2] at hput
   obtain ⟨WT, hWT⟩ : ∃ WT, decS (val l) ++ strB [d] = WT := ⟨_, rfl⟩
   have hws : WT.size = 2 ∧ WT = strB [0, d] := by rw [← hWT, hz]; exact ⟨rfl, rfl⟩
   have hsl : ∀ W, (Instr.slice 9 (.string WT) (some (.int .i64 1)) none none).run Try.prog W = .ok (.string (strB [d])) W := by
    intro W
    rw [run_slice_string_from_if W 9 WT .i64 1 Try.underlying9, if_pos ⟨by decide, by rw [hws.1]; decide⟩, hws.2]
    rfl
   have hmin : min (1 : Int) (WT.size : Int) = 1 := by rw [hws.1]; rfl
   rw [hWT]
   have HPUT := Lib.hid hput
   clear hput hput2 hlen hNB hz hWT hws hsz
   go_wp2_with fail
   with_reducible refine (HLEN.out _ g1).mono ?_
   rintro e w' ⟨rfl, rfl⟩
   go_wp2_with fail
   with_reducible refine (HPUT.out _ h7.toNatAt).mono ?_
   rintro e wz ⟨rfl, hb⟩
   have hB := below_later hB hb
   go_wp2
   go_ret
   exact ⟨rfl, hB⟩
 · have hnb : ((NB : Int) == 0) = false := beq_eq_false_iff_ne.2 (by rw [← hNB]; have := nbits_pos hz; omega)
   have hput2 : decS (val l * 10 + d) = decS (val l) ++ strB [d] := dec_more hz hd10
   rw [hput2] at hput
   have HPUT := Lib.hid hput
   clear hput hput2 hlen hNB hz hsz
   go_wp2_with fail
   with_reducible refine (HLEN.out _ g1).mono ?_
   rintro e w' ⟨rfl, rfl⟩
   go_wp2_with fail
   with_reducible refine (HPUT.out _ h7.toNatAt).mono ?_
   rintro e wz ⟨rfl, hb⟩
   have hB := below_later hB hb
   go_wp2
   go_ret
   exact ⟨rfl, hB⟩
theorem digitsOrder_any (a : Option Addr) (n c : Nat) (l : List Nat) (a2 : Option Addr) (n2 c2 : Nat) (l2 : List Nat) (x : Int) (w : World) (g1 : NatAt w a n c l) (g2 : NatAt w a2 n2 c2 l2) (hx : -9223372036854775808 ≤ x ∧ x ≤ 9223372036854775807) :
 Calls Try.prog 4 #[.slice a n c, .slice a2 n2 c2, .int .i64 x] w (RetVal w (.bool true)) := by
 by_cases h1 : 12 < n
 · exact digitsOrder_long1 _ _ _ _ _ _ _ _ _ _ g1 g2 hx h1
 · by_cases h2 : 12 < n2
   · exact digitsOrder_long2 _ _ _ _ _ _ _ _ _ _ g1 g2 hx h1 h2
   · exact digitsOrder_main _ _ _ _ _ _ _ _ _ _ g1 g2 hx h1 h2
end Go.Proofs.Ytoecndogaklngaa
