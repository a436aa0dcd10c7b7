import Derived.Test.YtlkoenpdmlbhlaaGreatS0Sm
import Derived.Test.YtlkoenpdmlbhlaaGreatB3Sm
import Derived.Test.YtlkoenpdmlbhlaaGreatA9Sm
set_option linter.unusedVariables false
set_option linter.unusedSimpArgs false
namespace Go.Proofs.YtlkoenpdmlbhlaaGreat
open Go.RowKit
abbrev Who := Except Int Int
def Who.up : Who → Int
 | .ok z => z
 | .error _ => 0
def Who.why : Who → Int
 | .ok _ => 0
 | .error e => e
def RetWho (w : World) (r : Who) (e : Ending) (w' : World) : Prop :=
 ∃ a n c, e = .returned (.tuple #[.agg #[.bool (neg r.up), .slice a n c], .int .i64 r.why]) ∧ OwnAt w' w.heap.size a n c (digs r.up.natAbs) ∧ Below w.heap.size w w'
def roundA (x : Bool × List Nat × List Nat) : Who := if chk3 x = 0 then .ok (rndR (ratOf x)) else .error 6
theorem roundA_rat (q : Rat) : roundA (partsOf q) = .ok (rndR q) := by unfold roundA; rw [if_pos (chk3_parts q), ratOf_parts]
theorem tgrow_two (a : Option Addr) (n c : Nat) (l : List Nat) (w : World) (h : NatAt w a n c l) (hs : n ≤ 274877906944) :
 Calls Tryz.prog 117 #[.slice a n c, .int .u64 2] w (RetNat w (val l * 2)) := tgrow_any a n c l 2 w h hs (by decide)
theorem round_key (N d : Nat) : (cmpI (2 * (N % d)) d = 1 ∧ N / d + 1 = rndN N d) ∨ (cmpI (2 * (N % d)) d = 0 ∧ N / d % 2 = 1 ∧ N / d + 1 = rndN N d) ∨ (cmpI (2 * (N % d)) d = 0 ∧ N / d % 2 = 0 ∧ N / d = rndN N d) ∨ (cmpI (2 * (N % d)) d = -1 ∧ N / d = rndN N d) := by
 unfold rndN
 rcases Nat.lt_trichotomy (2 * (N % d)) d with hc | hc | hc
 · exact .inr (.inr (.inr ⟨cmpI_lt hc, by rw [if_neg (by omega)]⟩))
 · rcases Nat.mod_two_eq_zero_or_one (N / d) with ho | ho
   · exact .inr (.inr (.inl ⟨by rw [hc]; exact cmpI_eq _, ho, by rw [if_neg (by omega)]⟩))
   · exact .inr (.inl ⟨by rw [hc]; exact cmpI_eq _, ho, by rw [if_pos (.inr ⟨hc, ho⟩)]⟩)
 · exact .inl ⟨cmpI_gt hc, by rw [if_pos (.inl hc)]⟩
set_option maxRecDepth 100000 in
set_option maxHeartbeats 16000000 in
theorem round05_rat (q : Rat) (a1 : Option Addr) (n1 c1 : Nat) (a2 : Option Addr) (n2 c2 : Nat) (w : World) (g1 : NatAt w a1 n1 c1 (digs q.num.natAbs)) (g2 : NatAt w a2 n2 c2 (digs q.den)) (hs1 : n1 ≤ 17179869184) (hs2 : n2 ≤ 17179869184) :
 Calls Tryz.prog 73 #[.agg #[.bool (neg q.num), .slice a1 n1 c1, .slice a2 n2 c2]] w (RetWho w (.ok (rndR q))) := by
 have HC := Lib.hid (chkR_canon q)
 have hkey := round_key q.num.natAbs q.den
 have hle : rndN q.num.natAbs q.den ≤ q.num.natAbs / q.den + 1 := by rcases hkey with ⟨_, h⟩ | ⟨_, _, h⟩ | ⟨_, _, h⟩ | ⟨_, h⟩ <;> omega
 have e1 : val (digs q.num.natAbs) / val (digs q.den) = q.num.natAbs / q.den := by rw [val_digs, val_digs]
 have e2 : val (digs q.num.natAbs) % val (digs q.den) = q.num.natAbs % q.den := by rw [val_digs, val_digs]
 have e3 : val (digs (q.num.natAbs % q.den)) * 2 = 2 * (q.num.natAbs % q.den) := by rw [val_digs, Nat.mul_comm]
 have e5 : sg (neg q.num) (val (digs (rndN q.num.natAbs q.den))) = rndR q := by rw [val_digs]; rfl
 have e6 : val (digs (q.num.natAbs / q.den)) + val (digs 1) = q.num.natAbs / q.den + 1 := by rw [val_digs, val_digs]
 have hz : val (digs q.den) ≠ 0 := by rw [val_digs]; exact q.den_nz
 have l1 : (digs (q.num.natAbs / q.den)).length ≤ n1 := Nat.le_trans (digs_len_mono (Nat.div_le_self _ _)) (by rw [← g1.len]; exact Nat.le_refl _)
 have l2 : (digs (q.num.natAbs % q.den)).length ≤ n1 := Nat.le_trans (digs_len_mono (Nat.mod_le _ _)) (by rw [← g1.len]; exact Nat.le_refl _)
 have l3 : (digs (rndN q.num.natAbs q.den)).length ≤ n1 + 2 := by have h1 := digs_len_mono hle; have h2 := digs_len_add (q.num.natAbs / q.den) 1; have e : (digs 1).length = 1 := rfl; omega
 obtain ⟨c, hc⟩ : ∃ c, cmpI (2 * (q.num.natAbs % q.den)) q.den = c := ⟨_, rfl⟩
 rw [hc] at hkey
 have e4 : cmpI (val (digs (2 * (q.num.natAbs % q.den)))) (val (digs q.den)) = c := by rw [val_digs, val_digs]; exact hc
 clear hc hle
 generalize rndN q.num.natAbs q.den = S at *
 generalize rndR q = Z at *
 generalize q.num.natAbs / q.den = D at *
 generalize q.num.natAbs % q.den = M at *
 have E1 := Lib.hid e1
 have E2 := Lib.hid e2
 have E3 := Lib.hid e3
 have E4 := Lib.hid e4
 have E5 := Lib.hid e5
 have E6 := Lib.hid e6
 have HZ := Lib.hid hz
 have L1 := Lib.hid l1
 have L2 := Lib.hid l2
 have L3 := Lib.hid l3
 have KEY := Lib.hid hkey
 clear e1 e2 e3 e4 e5 e6 hz l1 l2 l3 hkey
 go_enter Tryz.func73, Tryz.ntmps73
 have hB := Below.refl w.heap.size w
 go_wp2_with fail
 obtain ⟨w1, hW, hz0, hb, q, f⟩ := box1g w (w.heap.size) (by omega) #[.bool (neg q.num), .slice a1 n1 c1, .slice a2 n2 c2] 27
 rw [hW]
 clear hW
 have g1 := g1.past hb
 have g2 := g2.past hb
 have hB := below_later hB hb
 clear hb
 have lx : w.heap.size < w1.heap.size := by omega
 have qx0 := q 0; have qx1 := q 1; have qx2 := q 2
 simp only [lgA, lgZ, lgS] at qx0 qx1 qx2
 clear q f
 obtain ⟨w2, hW, hz1, hb, q, f⟩ := box1g w1 (w.heap.size + 1) (by omega) #[.bool false, .slice none 0 0] 25
 rw [hW]
 clear hW
 have g1 := g1.past hb
 have g2 := g2.past hb
 obtain ⟨qx0, qx1, qx2, lx⟩ := bq3 hb lx qx0 qx1 qx2
 have hB := below_later hB hb
 clear hb
 have lr : w.heap.size + 1 < w2.heap.size := by omega
 have qr0 := q 0; have qr1 := q 1
 simp only [lgA, lgZ, lgS] at qr0 qr1
 have xr : BoxAt w2 (w.heap.size + 1) 2 := BoxAt.of q f rfl (by simp [notU_bool, notU_slice, notU_i64])
 clear q f
 clear hz0
 clear hz1
 with_reducible refine (check05_any _ _ _ _ (digs q.num.natAbs) _ _ _ (digs q.den) _ g1 g2 (by omega) (by omega)).mono ?_
 rintro e w3 ⟨rfl, hb⟩
 have g1 := g1.past hb
 have g2 := g2.past hb
 obtain ⟨qx0, qx1, qx2, lx⟩ := bq3 hb lx qx0 qx1 qx2
 have xr := xr.past hb lr
 obtain ⟨qr0, qr1, lr⟩ := bq2 hb lr qr0 qr1
 have hB := below_later hB hb
 clear hb
 rw [HC.out]
 go_wp2_with fail
 with_reducible refine (div_yes _ _ _ (digs q.num.natAbs) _ _ _ (digs q.den) _ g1 g2 (by omega) (by omega) HZ.out).mono ?_
 rintro e w4 ⟨ahQ, nhQ, chQ, ahL, nhL, chL, rfl, hQ, hL, hb⟩
 have hQ := hQ.mono hB.size
 have hL := hL.mono hB.size
 have g1 := g1.past hb
 have g2 := g2.past hb
 obtain ⟨qx0, qx1, qx2, lx⟩ := bq3 hb lx qx0 qx1 qx2
 have xr := xr.past hb lr
 obtain ⟨qr0, qr1, lr⟩ := bq2 hb lr qr0 qr1
 have hB := below_later hB hb
 clear hb
 rw [E1.out] at hQ
 rw [E2.out] at hL
 have bQ : nhQ ≤ n1 := by rw [← hQ.len]; exact L1.out
 have bL : nhL ≤ n1 := by rw [← hL.len]; exact L2.out
 go_wp2_with fail
 refine (part_yes _ _ _ (digs D) 2 _ hQ.toNatAt (by omega) (by decide) (by decide)).mono ?_
 rintro e w5 ⟨ahP, nhP, chP, rfl, hP, hb⟩
 have hP := hP.mono hB.size
 have g1 := g1.past hb
 have g2 := g2.past hb
 have hQ := hQ.past hb
 have hL := hL.past hb
 obtain ⟨qx0, qx1, qx2, lx⟩ := bq3 hb lx qx0 qx1 qx2
 have xr := xr.past hb lr
 obtain ⟨qr0, qr1, lr⟩ := bq2 hb lr qr0 qr1
 have hB := below_later hB hb
 clear hb
 obtain ⟨O, hO⟩ : ∃ O, val (digs D) % 2 = O := ⟨_, rfl⟩
 rw [hO]
 rw [val_digs] at hO
 have HO := Lib.hid hO
 clear hO
 go_wp2_with fail
 have szW := hB.size
 refine wp_region_inv (by kernel_rfl) rfl (by kernel_rfl) (fun A0 V0 dd aa ww => ∃ (y31 y32 y33 y34 y35 y10 : Value), aa = puts A0 [(31, y31), (32, y32), (33, y33), (34, y34), (35, y35), (10, y10)] ∧ Below V0.heap.size V0 ww ∧ Shut (dd 0 = true → y31 = .slice ahL nhL chL) ∧ Shut (dd 1 = true → NatV V0.heap.size (digs (2 * M)) y32 ww) ∧ Shut (dd 2 = true → y33 = .pointer (some ⟨w.heap.size, 2, none⟩)) ∧ Shut (dd 3 = true → y34 = .slice a2 n2 c2) ∧ Shut (dd 4 = true → y35 = .int .i64 c) ∧ Shut (dd 5 = true → y10 = y35) ∧ True) ?_ ?_ ?_
 · exact ⟨_, _, _, _, _, _, puts_self _ [31, 32, 33, 34, 35, 10], (Below.refl _ _).drew, fun h => (by cases h), fun h => (by cases h), fun h => (by cases h), fun h => (by cases h), fun h => (by cases h), fun h => (by cases h), trivial⟩
 · refine Steps.cons ?_ (Steps.cons ?_ (Steps.cons ?_ (Steps.cons ?_ (Steps.cons ?_ (Steps.cons ?_ (Steps.nil))))))
   · intro dd aa ww K hc hun hn hI hK
     obtain ⟨y31, y32, y33, y34, y35, y10, ea, hb, f0, f1, f2, f3, f4, f5, _⟩ := hI
     try simp [Region.binds] at hn
     subst ea
     simp only [puts, Act.put, lsA, lsZ, lsS]
     go_simp
     refine hK.out _ _ ?_
     exact ⟨.slice ahL nhL chL, y32, y33, y34, y35, y10, by simp only [puts, Act.put, lsA, lsZ, lsS], hb, fun _ => rfl, uo f1 rfl, uo f2 rfl, uo f3 rfl, uo f4 rfl, uo f5 rfl, trivial⟩
   · intro dd aa ww K hc hun hn hI hK
     obtain ⟨y31, y32, y33, y34, y35, y10, ea, hb, f0, f1, f2, f3, f4, f5, _⟩ := hI
     try simp [Region.binds] at hn
     have ex := f0.out (by first | (simp [hn]; done) | exact rc hc hn | exact rc hc hn.1 | exact rc hc hn.2 | exact rc hc hn.2.1 | exact rc hc hn.2.2)
     subst ex
     subst ea
     simp only [puts, Act.put, lsA, lsZ, lsS]
     go_simp
     with_reducible refine (tgrow_two _ _ _ (digs M) _ (hL.past hb).toNatAt (by omega)).mono ?_
     rintro e w1 ⟨ahT, nhT, chT, rfl, hT, h1⟩
     rw [E3.out] at hT
     refine hK.out _ _ ?_
     exact ⟨.slice ahL nhL chL, .slice ahT nhT chT, y33, y34, y35, y10, by simp only [puts, Act.put, lsA, lsZ, lsS], below_later hb h1, fun h => rfl, fun _ => ⟨_, _, _, rfl, hT.mono hb.size⟩, uo f2 rfl, uo f3 rfl, uo f4 rfl, uo f5 rfl, trivial⟩
   · intro dd aa ww K hc hun hn hI hK
     obtain ⟨y31, y32, y33, y34, y35, y10, ea, hb, f0, f1, f2, f3, f4, f5, _⟩ := hI
     try simp [Region.binds] at hn
     subst ea
     simp only [puts, Act.put, lsA, lsZ, lsS]
     go_simp
     refine hK.out _ _ ?_
     exact ⟨y31, y32, .pointer (some ⟨w.heap.size, 2, none⟩), y34, y35, y10, by simp only [puts, Act.put, lsA, lsZ, lsS], hb, uo f0 rfl, uo f1 rfl, fun _ => rfl, uo f3 rfl, uo f4 rfl, uo f5 rfl, trivial⟩
   · intro dd aa ww K hc hun hn hI hK
     obtain ⟨y31, y32, y33, y34, y35, y10, ea, hb, f0, f1, f2, f3, f4, f5, _⟩ := hI
     try simp [Region.binds] at hn
     have ex := f2.out (by first | (simp [hn]; done) | exact rc hc hn | exact rc hc hn.1 | exact rc hc hn.2 | exact rc hc hn.2.1 | exact rc hc hn.2.2)
     subst ex
     have e2 := (hb.cell (p := ⟨w.heap.size, 2, none⟩) lx).trans qx2
     subst ea
     simp only [puts, Act.put, lsA, lsZ, lsS]
     go_simp
     refine hK.out _ _ ?_
     exact ⟨y31, y32, .pointer (some ⟨w.heap.size, 2, none⟩), .slice a2 n2 c2, y35, y10, by simp only [puts, Act.put, lsA, lsZ, lsS], hb, uo f0 rfl, uo f1 rfl, fun h => rfl, fun _ => rfl, uo f4 rfl, uo f5 rfl, trivial⟩
   · intro dd aa ww K hc hun hn hI hK
     obtain ⟨y31, y32, y33, y34, y35, y10, ea, hb, f0, f1, f2, f3, f4, f5, _⟩ := hI
     try simp [Region.binds] at hn
     obtain ⟨ahT, nhT, chT, ex, hT⟩ := f1.out (by first | (simp [hn]; done) | exact rc hc hn | exact rc hc hn.1 | exact rc hc hn.2 | exact rc hc hn.2.1 | exact rc hc hn.2.2)
     subst ex
     have ex := f3.out (by first | (simp [hn]; done) | exact rc hc hn | exact rc hc hn.1 | exact rc hc hn.2 | exact rc hc hn.2.1 | exact rc hc hn.2.2)
     subst ex
     subst ea
     simp only [puts, Act.put, lsA, lsZ, lsS]
     go_simp
     with_reducible refine (cmp_any _ _ _ (digs (2 * M)) _ _ _ (digs q.den) _ hT.toNatAt (g2.past hb)).mono ?_
     rintro e w1 ⟨rfl, h1⟩
     rw [E4.out]
     refine hK.out _ _ ?_
     exact ⟨y31, .slice ahT nhT chT, y33, .slice a2 n2 c2, .int .i64 c, y10, by simp only [puts, Act.put, lsA, lsZ, lsS], below_later hb h1, uo f0 rfl, fun h => (f1.out (upd_of rfl h)).past h1, uo f2 rfl, fun h => rfl, fun _ => rfl, fun h => absurd (hc.reach (f := 8) (s := 5) (l := 4) (by kernel_rfl) (upd_of rfl h)) (by rw [hun]; decide), trivial⟩
   · intro dd aa ww K hc hun hn hI hK
     obtain ⟨y31, y32, y33, y34, y35, y10, ea, hb, f0, f1, f2, f3, f4, f5, _⟩ := hI
     try simp [Region.binds] at hn
     have ex := f4.out (by first | (simp [hn]; done) | exact rc hc hn | exact rc hc hn.1 | exact rc hc hn.2 | exact rc hc hn.2.1 | exact rc hc hn.2.2)
     subst ex
     subst ea
     simp only [puts, Act.put, lsA, lsZ, lsS]
     go_simp
     refine hK.out _ _ ?_
     exact ⟨y31, y32, y33, y34, .int .i64 c, .int .i64 c, by simp only [puts, Act.put, lsA, lsZ, lsS], hb, uo f0 rfl, uo f1 rfl, uo f2 rfl, uo f3 rfl, fun h => rfl, fun _ => rfl, trivial⟩
 intro dd aa w6 hd hI
 obtain ⟨y31, y32, y33, y34, y35, y10, ea, hb, f0, f1, f2, f3, f4, f5, _⟩ := hI
 have ex := f0.out (hd 0 (by simp))
 subst ex
 obtain ⟨ahT, nhT, chT, ex, hT⟩ := f1.out (hd 1 (by simp))
 subst ex
 have ex := f2.out (hd 2 (by simp))
 subst ex
 have ex := f3.out (hd 3 (by simp))
 subst ex
 have ex := f4.out (hd 4 (by simp))
 subst ex
 have ex : y10 = .int .i64 c := f5.out (hd 5 (by simp))
 subst ex
 subst ea
 simp only [puts, Act.put, lsA, lsZ, lsS]
 have hT := hT.mono szW
 have g1 := g1.past hb
 have g2 := g2.past hb
 have hQ := hQ.past hb
 have hL := hL.past hb
 obtain ⟨qx0, qx1, qx2, lx⟩ := bq3 hb lx qx0 qx1 qx2
 have xr := xr.past hb lr
 obtain ⟨qr0, qr1, lr⟩ := bq2 hb lr qr0 qr1
 have hB := below_later hB hb
 clear hb hd
 rcases KEY.out with ⟨rfl, hs⟩ | ⟨rfl, ho, hs⟩ | ⟨rfl, ho, hs⟩ | ⟨rfl, hs⟩
 · have HS := Lib.hid hs
   clear hs
   go_wp2_with fail
   with_reducible refine (one05_any _).mono ?_
   rintro e w7 ⟨ahO, nhO, chO, rfl, hO, hb⟩
   have hO := hO.mono hB.size
   have g1 := g1.past hb
   have g2 := g2.past hb
   have hQ := hQ.past hb
   obtain ⟨qx0, qx1, qx2, lx⟩ := bq3 hb lx qx0 qx1 qx2
   have xr := xr.past hb lr
   obtain ⟨qr0, qr1, lr⟩ := bq2 hb lr qr0 qr1
   have hB := below_later hB hb
   clear hb
   have bO : nhO ≤ 1 := by rw [← hO.len]; exact Nat.le_refl _
   go_wp2_with fail
   with_reducible refine (add_any _ _ _ (digs D) _ _ _ (digs 1) _ hQ.toNatAt hO.toNatAt (by omega) (by omega)).mono ?_
   rintro e w8 ⟨ahS, nhS, chS, rfl, hS, hb⟩
   have hS := hS.mono hB.size
   have g1 := g1.past hb
   have g2 := g2.past hb
   have hQ := hQ.past hb
   have hO := hO.past hb
   obtain ⟨qx0, qx1, qx2, lx⟩ := bq3 hb lx qx0 qx1 qx2
   have xr := xr.past hb lr
   obtain ⟨qr0, qr1, lr⟩ := bq2 hb lr qr0 qr1
   have hB := below_later hB hb
   clear hb
   rw [E6.out, HS.out] at hS
   have bS : nhS ≤ n1 + 2 := by rw [← hS.len]; exact L3.out
   go_wp2_with fail
   with_reducible refine (make_any (neg q.num) _ _ _ (digs S) _ hS.toNatAt (by omega)).mono ?_
   rintro e w9 ⟨ahA, nhA, chA, rfl, hA, hb⟩
   have hA := hA.mono hB.size
   have g1 := g1.past hb
   have g2 := g2.past hb
   have hS := hS.past hb
   obtain ⟨qx0, qx1, qx2, lx⟩ := bq3 hb lx qx0 qx1 qx2
   have xr := xr.past hb lr
   obtain ⟨qr0, qr1, lr⟩ := bq2 hb lr qr0 qr1
   have hB := below_later hB hb
   clear hb
   rw [E5.out] at hA ⊢
   have zf0 := xr.f 0 (by decide)
   have zf1 := xr.f 1 (by decide)
   go_wp2
   obtain ⟨w10, hW, hO, qN0, qN1, xN⟩ := store2 xr (.bool (neg Z)) (.slice ahA nhA chA) (nu rfl) (nu rfl)
   try rw [hW]
   clear hW
   have hA := hO.own hA
   have qx0 := (hO.cell (b2 := w.heap.size) (k := 0) (by omega)).trans qx0
   have qx1 := (hO.cell (b2 := w.heap.size) (k := 1) (by omega)).trans qx1
   have qx2 := (hO.cell (b2 := w.heap.size) (k := 2) (by omega)).trans qx2
   have lx : w.heap.size < w10.heap.size := by rw [hO.size]; exact lx
   have lr : w.heap.size + 1 < w10.heap.size := by rw [hO.size]; exact lr
   have qr0 := qN0
   have qr1 := qN1
   have xr := xN
   have hB := hO.below (by omega) hB
   clear hO qN0 qN1 xN zf0 zf1
   refine bodyPost_ret (v := .tuple #[.agg #[.bool (neg Z), .slice ahA nhA chA], .int .i64 0]) ?_ rfl ⟨_, _, _, rfl, hA, hB⟩
   simp [results, Tryz.f73, go_sem, qr0, qr1]
 · have HS := Lib.hid hs
   obtain rfl : O = 1 := HO.out.symm.trans ho
   clear hs ho
   go_wp2_with fail
   with_reducible refine (one05_any _).mono ?_
   rintro e w7 ⟨ahO, nhO, chO, rfl, hO, hb⟩
   have hO := hO.mono hB.size
   have g1 := g1.past hb
   have g2 := g2.past hb
   have hQ := hQ.past hb
   obtain ⟨qx0, qx1, qx2, lx⟩ := bq3 hb lx qx0 qx1 qx2
   have xr := xr.past hb lr
   obtain ⟨qr0, qr1, lr⟩ := bq2 hb lr qr0 qr1
   have hB := below_later hB hb
   clear hb
   have bO : nhO ≤ 1 := by rw [← hO.len]; exact Nat.le_refl _
   go_wp2_with fail
   with_reducible refine (add_any _ _ _ (digs D) _ _ _ (digs 1) _ hQ.toNatAt hO.toNatAt (by omega) (by omega)).mono ?_
   rintro e w8 ⟨ahS, nhS, chS, rfl, hS, hb⟩
   have hS := hS.mono hB.size
   have g1 := g1.past hb
   have g2 := g2.past hb
   have hQ := hQ.past hb
   have hO := hO.past hb
   obtain ⟨qx0, qx1, qx2, lx⟩ := bq3 hb lx qx0 qx1 qx2
   have xr := xr.past hb lr
   obtain ⟨qr0, qr1, lr⟩ := bq2 hb lr qr0 qr1
   have hB := below_later hB hb
   clear hb
   rw [E6.out, HS.out] at hS
   have bS : nhS ≤ n1 + 2 := by rw [← hS.len]; exact L3.out
   go_wp2_with fail
   with_reducible refine (make_any (neg q.num) _ _ _ (digs S) _ hS.toNatAt (by omega)).mono ?_
   rintro e w9 ⟨ahA, nhA, chA, rfl, hA, hb⟩
   have hA := hA.mono hB.size
   have g1 := g1.past hb
   have g2 := g2.past hb
   have hS := hS.past hb
   obtain ⟨qx0, qx1, qx2, lx⟩ := bq3 hb lx qx0 qx1 qx2
   have xr := xr.past hb lr
   obtain ⟨qr0, qr1, lr⟩ := bq2 hb lr qr0 qr1
   have hB := below_later hB hb
   clear hb
   rw [E5.out] at hA ⊢
   have zf0 := xr.f 0 (by decide)
   have zf1 := xr.f 1 (by decide)
   go_wp2
   obtain ⟨w10, hW, hO, qN0, qN1, xN⟩ := store2 xr (.bool (neg Z)) (.slice ahA nhA chA) (nu rfl) (nu rfl)
   try rw [hW]
   clear hW
   have hA := hO.own hA
   have qx0 := (hO.cell (b2 := w.heap.size) (k := 0) (by omega)).trans qx0
   have qx1 := (hO.cell (b2 := w.heap.size) (k := 1) (by omega)).trans qx1
   have qx2 := (hO.cell (b2 := w.heap.size) (k := 2) (by omega)).trans qx2
   have lx : w.heap.size < w10.heap.size := by rw [hO.size]; exact lx
   have lr : w.heap.size + 1 < w10.heap.size := by rw [hO.size]; exact lr
   have qr0 := qN0
   have qr1 := qN1
   have xr := xN
   have hB := hO.below (by omega) hB
   clear hO qN0 qN1 xN zf0 zf1
   refine bodyPost_ret (v := .tuple #[.agg #[.bool (neg Z), .slice ahA nhA chA], .int .i64 0]) ?_ rfl ⟨_, _, _, rfl, hA, hB⟩
   simp [results, Tryz.f73, go_sem, qr0, qr1]
 · have HS := Lib.hid hs
   obtain rfl : O = 0 := HO.out.symm.trans ho
   clear hs ho
   have eS : digs D = digs S := by rw [HS.out]
   rw [eS] at hQ
   go_wp2_with fail
   with_reducible refine (make_any (neg q.num) _ _ _ (digs S) _ hQ.toNatAt (by omega)).mono ?_
   rintro e w7 ⟨ahA, nhA, chA, rfl, hA, hb⟩
   have hA := hA.mono hB.size
   have g1 := g1.past hb
   have g2 := g2.past hb
   have hQ := hQ.past hb
   obtain ⟨qx0, qx1, qx2, lx⟩ := bq3 hb lx qx0 qx1 qx2
   have xr := xr.past hb lr
   obtain ⟨qr0, qr1, lr⟩ := bq2 hb lr qr0 qr1
   have hB := below_later hB hb
   clear hb
   rw [E5.out] at hA ⊢
   have zf0 := xr.f 0 (by decide)
   have zf1 := xr.f 1 (by decide)
   go_wp2
   obtain ⟨w8, hW, hO, qN0, qN1, xN⟩ := store2 xr (.bool (neg Z)) (.slice ahA nhA chA) (nu rfl) (nu rfl)
   try rw [hW]
   clear hW
   have hA := hO.own hA
   have qx0 := (hO.cell (b2 := w.heap.size) (k := 0) (by omega)).trans qx0
   have qx1 := (hO.cell (b2 := w.heap.size) (k := 1) (by omega)).trans qx1
   have qx2 := (hO.cell (b2 := w.heap.size) (k := 2) (by omega)).trans qx2
   have lx : w.heap.size < w8.heap.size := by rw [hO.size]; exact lx
   have lr : w.heap.size + 1 < w8.heap.size := by rw [hO.size]; exact lr
   have qr0 := qN0
   have qr1 := qN1
   have xr := xN
   have hB := hO.below (by omega) hB
   clear hO qN0 qN1 xN zf0 zf1
   refine bodyPost_ret (v := .tuple #[.agg #[.bool (neg Z), .slice ahA nhA chA], .int .i64 0]) ?_ rfl ⟨_, _, _, rfl, hA, hB⟩
   simp [results, Tryz.f73, go_sem, qr0, qr1]
 · have HS := Lib.hid hs
   clear hs
   have eS : digs D = digs S := by rw [HS.out]
   rw [eS] at hQ
   go_wp2_with fail
   with_reducible refine (make_any (neg q.num) _ _ _ (digs S) _ hQ.toNatAt (by omega)).mono ?_
   rintro e w7 ⟨ahA, nhA, chA, rfl, hA, hb⟩
   have hA := hA.mono hB.size
   have g1 := g1.past hb
   have g2 := g2.past hb
   have hQ := hQ.past hb
   obtain ⟨qx0, qx1, qx2, lx⟩ := bq3 hb lx qx0 qx1 qx2
   have xr := xr.past hb lr
   obtain ⟨qr0, qr1, lr⟩ := bq2 hb lr qr0 qr1
   have hB := below_later hB hb
   clear hb
   rw [E5.out] at hA ⊢
   have zf0 := xr.f 0 (by decide)
   have zf1 := xr.f 1 (by decide)
   go_wp2
   obtain ⟨w8, hW, hO, qN0, qN1, xN⟩ := store2 xr (.bool (neg Z)) (.slice ahA nhA chA) (nu rfl) (nu rfl)
   try rw [hW]
   clear hW
   have hA := hO.own hA
   have qx0 := (hO.cell (b2 := w.heap.size) (k := 0) (by omega)).trans qx0
   have qx1 := (hO.cell (b2 := w.heap.size) (k := 1) (by omega)).trans qx1
   have qx2 := (hO.cell (b2 := w.heap.size) (k := 2) (by omega)).trans qx2
   have lx : w.heap.size < w8.heap.size := by rw [hO.size]; exact lx
   have lr : w.heap.size + 1 < w8.heap.size := by rw [hO.size]; exact lr
   have qr0 := qN0
   have qr1 := qN1
   have xr := xN
   have hB := hO.below (by omega) hB
   clear hO qN0 qN1 xN zf0 zf1
   refine bodyPost_ret (v := .tuple #[.agg #[.bool (neg Z), .slice ahA nhA chA], .int .i64 0]) ?_ rfl ⟨_, _, _, rfl, hA, hB⟩
   simp [results, Tryz.f73, go_sem, qr0, qr1]
end Go.Proofs.YtlkoenpdmlbhlaaGreat
