import Derived.Test.YtlkoenpdmlbhlaaGreatS0Cm
import Derived.Test.YtlkoenpdmlbhlaaGreatChance8Cm
import Derived.Test.YtlkoenpdmlbhlaaGreatTimes5Cm
import Derived.Test.YtlkoenpdmlbhlaaGreatRatio14Cm
set_option linter.unusedVariables false
set_option linter.unusedSimpArgs false
namespace Go.Proofs.YtlkoenpdmlbhlaaGreat
open Go.RowKit
set_option maxRecDepth 100000 in
set_option maxHeartbeats 4000000 in
theorem rtotal_any (a : Option Addr) (n c : Nat) (zs : List Int) (w : World) (g : IntsAt w a n c zs) : Calls Tryz.prog 66 #[.slice a n c] w (RetVal w (.int .i64 (sumW zs n))) := by
 have hcl : c ≤ 9223372036854775807 := by have h1 := g.cle; simp only [maxLen] at h1; omega
 have hle := g.le
 have hlen := g.len
 go_enter Tryz.func66, Tryz.ntmps66
 go_wp2
 go_loopw [3, 4] (fun s i wr => ∃ (k : Nat), k ≤ n ∧ s = .int .i64 (sumW zs k) ∧ i = .int .i64 ((k : Nat) : Int) ∧ Below w.heap.size w wr) (fun s i _ => n - (intOf i).toNat)
 case atStart => exact ⟨0, Nat.zero_le _, rfl, rfl, Below.refl _ _⟩
 case round =>
  obtain ⟨k, hk, rfl, rfl, hB⟩ := hrel
  by_cases hlt : k < n
  · have hq : ∃ b o, a = some ⟨b, o, none⟩ ∧ wr.cell? ⟨b, o + k, none⟩ = some (.int .i64 (zs.getD k 0)) := by
     rcases (g.past hB).cell with h | ⟨b, o, h1, h2, h3⟩
     · omega
     · exact ⟨b, o, h1, h3 k hlt⟩
    obtain ⟨b, o, rfl, hq⟩ := hq
    have hs : sumW zs (k + 1) = wrap64 (sumW zs k + zs.getD k 0) := rfl
    obtain ⟨z, hz⟩ : ∃ z, zs.getD k 0 = z := ⟨_, rfl⟩
    obtain ⟨S, hS⟩ : ∃ S, sumW zs k = S := ⟨_, rfl⟩
    rw [hz] at hs hq
    rw [hS] at hs ⊢
    have HS := Lib.hid hs
    clear hs hz hS
    go_wp2
    go_roundw
    case rel => exact ⟨k + 1, by omega, by rw [HS.out], by go_num, hB⟩
    case measure => simp [intOf]; omega
  · obtain rfl : k = n := by omega
    go_wp2
    go_ret
    exact ⟨rfl, hB⟩
set_option maxRecDepth 100000 in
set_option maxHeartbeats 4000000 in
theorem rrefuses_no (a : Option Addr) (n c : Nat) (zs : List Int) (k u : Int) (w : World) (h : ¬ (1 ≤ k ∧ k ≤ 1024 ∧ 0 ≤ u ∧ u ≤ k)) :
 Calls Tryz.prog 65 #[.slice a n c, .int .i64 k, .int .i64 u] w (RetVal w (.int .i64 3)) := by
 have hc : ¬ 1 ≤ k ∨ (1 ≤ k ∧ ¬ k ≤ 1024) ∨ (1 ≤ k ∧ k ≤ 1024 ∧ ¬ 0 ≤ u) ∨ (1 ≤ k ∧ k ≤ 1024 ∧ 0 ≤ u ∧ ¬ u ≤ k) := by omega
 clear h
 rcases hc with h1 | ⟨h1, h2⟩ | ⟨h1, h2, h3⟩ | ⟨h1, h2, h3, h4⟩
 all_goals
  go_enter Tryz.func65, Tryz.ntmps65
  go_wp2
  go_ret
  exact ⟨rfl, Below.refl _ _⟩
set_option maxRecDepth 100000 in
set_option maxHeartbeats 4000000 in
theorem rrefuses_bad (a : Option Addr) (n c : Nat) (zs : List Int) (k u : Int) (w : World) (g : IntsAt w a n c zs) (h1 : 1 ≤ k) (h2 : k ≤ 1024) (h3 : 0 ≤ u) (h4 : u ≤ k) (h5 : ¬ okT zs k) :
 Calls Tryz.prog 65 #[.slice a n c, .int .i64 k, .int .i64 u] w (RetVal w (.int .i64 13)) := by
 have hc := chkT_no h5
 have HC := Lib.hid hc
 clear hc h5
 go_enter Tryz.func65, Tryz.ntmps65
 have hB := Below.refl w.heap.size w
 go_wp2_with fail
 with_reducible refine (rCheck13 _ _ _ zs k _ g).mono ?_
 rintro e w1 ⟨rfl, hb⟩
 have g := g.past hb
 have hB := below_later hB hb
 clear hb
 rw [HC.out]
 go_wp2
 go_ret
 exact ⟨rfl, hB⟩
set_option maxRecDepth 100000 in
set_option maxHeartbeats 4000000 in
theorem rrefuses_ok (a : Option Addr) (n c : Nat) (zs : List Int) (k u : Int) (w : World) (g : IntsAt w a n c zs) (h1 : 1 ≤ k) (h2 : k ≤ 1024) (h3 : 0 ≤ u) (h4 : u ≤ k) (h5 : okT zs k) :
 Calls Tryz.prog 65 #[.slice a n c, .int .i64 k, .int .i64 u] w (RetVal w (.int .i64 0)) := by
 have hc := chkT_yes h5
 have HC := Lib.hid hc
 clear hc h5
 go_enter Tryz.func65, Tryz.ntmps65
 have hB := Below.refl w.heap.size w
 go_wp2_with fail
 with_reducible refine (rCheck13 _ _ _ zs k _ g).mono ?_
 rintro e w1 ⟨rfl, hb⟩
 have g := g.past hb
 have hB := below_later hB hb
 clear hb
 rw [HC.out]
 go_wp2
 go_ret
 exact ⟨rfl, hB⟩
theorem rrefuses_any (a : Option Addr) (n c : Nat) (zs : List Int) (k u : Int) (w : World) (g : IntsAt w a n c zs) :
 Calls Tryz.prog 65 #[.slice a n c, .int .i64 k, .int .i64 u] w (RetVal w (.int .i64 (refA zs k u))) := by
 unfold refA
 by_cases h : 1 ≤ k ∧ k ≤ 1024 ∧ 0 ≤ u ∧ u ≤ k
 · rw [if_pos h]
   obtain ⟨h1, h2, h3, h4⟩ := h
   by_cases h5 : okT zs k
   · rw [chkT_yes h5]
     exact rrefuses_ok a n c zs k u w g h1 h2 h3 h4 h5
   · rw [chkT_no h5]
     exact rrefuses_bad a n c zs k u w g h1 h2 h3 h4 h5
 · rw [if_neg h]
   exact rrefuses_no a n c zs k u w h
theorem rmake_nat {x : Int} {d : Nat} {q : Rat} {a : Option Addr} {n c : Nat} {a2 : Option Addr} {n2 c2 : Nat} {w : World} (g1 : NatAt w a n c (digs x.natAbs)) (g2 : NatAt w a2 n2 c2 [d]) (hd : d ≠ 0) (hq : mkRat x d = q) (hs : n ≤ 200000) :
 Calls Tryz.prog 96 #[.agg #[.bool (neg x), .slice a n c], .slice a2 n2 c2] w (RetOk w q) := by
 have h := rmake05_any (neg x) a n c _ a2 n2 c2 _ w g1 g2 hs (by have := g2.len; simp at this; omega)
 have e : makeR (neg x) (digs x.natAbs) [d] = .ok q := by
  unfold makeR
  have hv : val [d] = d := by simp [val]
  rw [if_neg (by rw [chkZ_canon]; simp), if_neg (by rw [hv]; exact hd), sg_canon, hv, hq]
 rw [e] at h
 exact h.mono fun _ _ h => h.ok
set_option maxRecDepth 100000 in
set_option maxHeartbeats 4000000 in
theorem rwhole_any (N : Nat) (a : Option Addr) (n c : Nat) (w : World) (g : NatAt w a n c (digs N)) (hs : n ≤ 200000) :
 Calls Tryz.prog 57 #[.slice a n c] w (RetRat w (mkRat (N : Int) 1)) := by
 have hv : sg false (val (digs N)) = (N : Int) := by rw [val_digs]; rfl
 obtain ⟨X, hX⟩ : ∃ X : Int, (N : Int) = X := ⟨_, rfl⟩
 rw [hX] at hv ⊢
 have HV := Lib.hid hv
 have hl : (digs X.natAbs).length ≤ 200000 := by rw [← hX, Int.natAbs_natCast]; have := g.len; omega
 obtain ⟨Q, hQ⟩ : ∃ Q, mkRat X 1 = Q := ⟨_, rfl⟩
 rw [hQ]
 have HQ := Lib.hid hQ
 clear hv hX hQ
 go_enter Tryz.func57, Tryz.ntmps57
 have hB := Below.refl w.heap.size w
 go_wp2_with fail
 obtain ⟨w1, hW, hz0, hb, q, f⟩ := box1g w (w.heap.size) (by omega) #[.bool false, .slice none 0 0, .slice none 0 0] 27
 rw [hW]
 clear hW
 have g := g.past hb
 have hB := below_later hB hb
 clear hb
 have lr : w.heap.size < w1.heap.size := by omega
 have qr0 := q 0; have qr1 := q 1; have qr2 := q 2
 simp only [lgA, lgZ, lgS] at qr0 qr1 qr2
 have xr : BoxAt w1 (w.heap.size) 3 := BoxAt.of q f rfl (by simp [notU_bool, notU_slice, notU_i64])
 clear q f
 clear hz0
 with_reducible refine (rsmake_any false _ _ _ _ _ g (by omega)).mono ?_
 rintro e w2 ⟨aA, nA, cA, rfl, hA, hb⟩
 have hA := hA.mono hB.size
 have g := g.past hb
 have xr := xr.past hb lr
 obtain ⟨qr0, qr1, qr2, lr⟩ := bq3 hb lr qr0 qr1 qr2
 have hB := below_later hB hb
 clear hb
 rw [HV.out] at hA ⊢
 go_wp2_with fail
 obtain ⟨w3, hW, hz0, hb, q, f⟩ := box1g w2 (w2.heap.size) (by omega) #[.int .u64 1] 99
 have h0d : OwnAt w3 w2.heap.size (some ⟨w2.heap.size, 0, none⟩) 1 1 [1] := by rw [← hW]; exact litG _ _ _ [1] 1 (by omega) rfl rfl (by decide) (by first | decide | (simp; omega))
 rw [hW]
 clear hW
 have hA := hA.past hb
 have xr := xr.past hb lr
 obtain ⟨qr0, qr1, qr2, lr⟩ := bq3 hb lr qr0 qr1 qr2
 have hB := below_later hB hb
 clear hb
 have d := h0d
 clear h0d
 have d := d.mono (B' := w.heap.size) (by omega)
 clear q f
 clear hz0
 with_reducible refine (rmake_nat hA.toNatAt d.toNatAt (by decide) HQ.out (by have := hA.len; omega)).mono ?_
 rintro e w4 ⟨ahZU, nhZU, chZU, ahZD, nhZD, chZD, rfl, hZU, hZD, hb⟩
 have hZU := hZU.mono hB.size
 have hZD := hZD.mono hB.size
 have hA := hA.past hb
 have d := d.past hb
 have xr := xr.past hb lr
 obtain ⟨qr0, qr1, qr2, lr⟩ := bq3 hb lr qr0 qr1 qr2
 have hB := below_later hB hb
 clear hb
 have zf0 := xr.f 0 (by decide)
 have zf1 := xr.f 1 (by decide)
 have zf2 := xr.f 2 (by decide)
 go_wp2
 have zf0 := xr.f 0 (by decide)
 have zf1 := xr.f 1 (by decide)
 have zf2 := xr.f 2 (by decide)
 obtain ⟨w5, hW, hO, qN0, qN1, qN2, xN⟩ := store3 xr (.bool (neg (Q).num)) (.slice ahZU nhZU chZU) (.slice ahZD nhZD chZD) (nu rfl) (nu rfl) (nu rfl)
 try rw [hW]
 clear hW
 have hZU := hO.own hZU
 have hZD := hO.own hZD
 have lr : w.heap.size < w5.heap.size := by rw [hO.size]; exact lr
 have qr0 := qN0
 have qr1 := qN1
 have qr2 := qN2
 have xr := xN
 have hB := hO.below (by omega) hB
 clear hO qN0 qN1 qN2 xN zf0 zf1 zf2
 obtain ⟨w6, hW, hz0, hb, q, f⟩ := box1g w5 (w5.heap.size) (by omega) #[.bool (neg (Q).num), .slice ahZU nhZU chZU, .slice ahZD nhZD chZD] 27
 rw [hW]
 clear hW
 have hZU := hZU.past hb
 have hZD := hZD.past hb
 have xr := xr.past hb lr
 obtain ⟨qr0, qr1, qr2, lr⟩ := bq3 hb lr qr0 qr1 qr2
 have hB := below_later hB hb
 clear hb
 have lx : w5.heap.size < w6.heap.size := by omega
 have qx0 := q 0; have qx1 := q 1; have qx2 := q 2
 simp only [lgA, lgZ, lgS] at qx0 qx1 qx2
 clear q f
 clear hz0
 refine bodyPost_ret (v := .agg #[.bool (neg Q.num), .slice ahZU nhZU chZU, .slice ahZD nhZD chZD]) ?_ rfl ⟨_, _, _, _, _, _, rfl, hZU, hZD, hB⟩
 simp [results, Tryz.f57, go_sem, qr0, qr1, qr2]
theorem rwhole_nil (w : World) : Calls Tryz.prog 57 #[.slice none 0 0] w (RetRat w 0) := by
 have h := rwhole_any 0 none 0 0 w (NatAt.nil _) (by decide)
 rwa [show mkRat ((0 : Nat) : Int) 1 = 0 by simp] at h
theorem meets_off {k u j d : Nat} (hu : u ≤ k) (h : d < j ∨ (j ≤ d ∧ k - u < d - j)) : meetsR k u j d = 0 := by
 unfold meetsR chz
 rw [if_neg (by omega), Nat.mul_zero]
 simp
set_option maxRecDepth 100000 in
set_option maxHeartbeats 4000000 in
theorem r24of_offa (k u j d : Nat) (w : World) (hk : k ≤ 20) (hu : u ≤ k) (hj : j ≤ u) (hd : 1 ≤ d) (hd2 : d ≤ k) (h : d < j) :
 Calls Tryz.prog 67 #[.int .i64 (k : Int), .int .i64 (u : Int), .int .i64 (j : Int), .int .i64 (d : Int)] w (RetRat w 0) := by
 obtain ⟨Z, hZ0⟩ : ∃ Z : Rat, (0 : Rat) = Z := ⟨_, rfl⟩
 have hz := fun w => rwhole_nil w
 simp only [hZ0] at hz ⊢
 have HZ := Lib.hid hz
 clear hz hZ0
 go_enter Tryz.func67, Tryz.ntmps67
 have hB := Below.refl w.heap.size w
 go_wp2_with fail
 obtain ⟨w1, hW, hz0, hb, q, f⟩ := box1g w (w.heap.size) (by omega) #[.bool false, .slice none 0 0, .slice none 0 0] 27
 rw [hW]
 clear hW
 have hB := below_later hB hb
 clear hb
 have lr : w.heap.size < w1.heap.size := by omega
 have qr0 := q 0; have qr1 := q 1; have qr2 := q 2
 simp only [lgA, lgZ, lgS] at qr0 qr1 qr2
 have xr : BoxAt w1 (w.heap.size) 3 := BoxAt.of q f rfl (by simp [notU_bool, notU_slice, notU_i64])
 clear q f
 clear hz0
 with_reducible refine (HZ.out _).mono ?_
 rintro e w2 ⟨ahZU, nhZU, chZU, ahZD, nhZD, chZD, rfl, hZU, hZD, hb⟩
 have hZU := hZU.mono hB.size
 have hZD := hZD.mono hB.size
 have xr := xr.past hb lr
 obtain ⟨qr0, qr1, qr2, lr⟩ := bq3 hb lr qr0 qr1 qr2
 have hB := below_later hB hb
 clear hb
 have zf0 := xr.f 0 (by decide)
 have zf1 := xr.f 1 (by decide)
 have zf2 := xr.f 2 (by decide)
 go_wp2
 obtain ⟨w3, hW, hO, qN0, qN1, qN2, xN⟩ := store3 xr (.bool (neg (Z).num)) (.slice ahZU nhZU chZU) (.slice ahZD nhZD chZD) (nu rfl) (nu rfl) (nu rfl)
 try rw [hW]
 clear hW
 have hZU := hO.own hZU
 have hZD := hO.own hZD
 have lr : w.heap.size < w3.heap.size := by rw [hO.size]; exact lr
 have qr0 := qN0
 have qr1 := qN1
 have qr2 := qN2
 have xr := xN
 have hB := hO.below (by omega) hB
 clear hO qN0 qN1 qN2 xN zf0 zf1 zf2
 refine bodyPost_ret (v := .agg #[.bool (neg Z.num), .slice ahZU nhZU chZU, .slice ahZD nhZD chZD]) ?_ rfl ⟨_, _, _, _, _, _, rfl, hZU, hZD, hB⟩
 simp [results, Tryz.f67, go_sem, qr0, qr1, qr2]
set_option maxRecDepth 100000 in
set_option maxHeartbeats 4000000 in
theorem r24of_offb (k u j d : Nat) (w : World) (hk : k ≤ 20) (hu : u ≤ k) (hj : j ≤ u) (hd : 1 ≤ d) (hd2 : d ≤ k) (h0 : j ≤ d) (h : k - u < d - j) :
 Calls Tryz.prog 67 #[.int .i64 (k : Int), .int .i64 (u : Int), .int .i64 (j : Int), .int .i64 (d : Int)] w (RetRat w 0) := by
 have t0 : decide ((d : Int) < (j : Int)) = false := decide_eq_false (by omega)
 have t1 : wrap64 ((d : Int) - (j : Int)) = (d : Int) - (j : Int) := by unfold wrap64; omega
 have t2 : wrap64 ((k : Int) - (u : Int)) = (k : Int) - (u : Int) := by unfold wrap64; omega
 have t3 : decide ((k : Int) - (u : Int) < (d : Int) - (j : Int)) = true := decide_eq_true (by omega)
 obtain ⟨Z, hZ0⟩ : ∃ Z : Rat, (0 : Rat) = Z := ⟨_, rfl⟩
 have hz := fun w => rwhole_nil w
 simp only [hZ0] at hz ⊢
 have HZ := Lib.hid hz
 clear hz hZ0
 go_enter Tryz.func67, Tryz.ntmps67
 have hB := Below.refl w.heap.size w
 go_wp2_with fail
 obtain ⟨w1, hW, hz0, hb, q, f⟩ := box1g w (w.heap.size) (by omega) #[.bool false, .slice none 0 0, .slice none 0 0] 27
 rw [hW]
 clear hW
 have hB := below_later hB hb
 clear hb
 have lr : w.heap.size < w1.heap.size := by omega
 have qr0 := q 0; have qr1 := q 1; have qr2 := q 2
 simp only [lgA, lgZ, lgS] at qr0 qr1 qr2
 have xr : BoxAt w1 (w.heap.size) 3 := BoxAt.of q f rfl (by simp [notU_bool, notU_slice, notU_i64])
 clear q f
 clear hz0
 with_reducible refine (HZ.out _).mono ?_
 rintro e w2 ⟨ahZU, nhZU, chZU, ahZD, nhZD, chZD, rfl, hZU, hZD, hb⟩
 have hZU := hZU.mono hB.size
 have hZD := hZD.mono hB.size
 have xr := xr.past hb lr
 obtain ⟨qr0, qr1, qr2, lr⟩ := bq3 hb lr qr0 qr1 qr2
 have hB := below_later hB hb
 clear hb
 have zf0 := xr.f 0 (by decide)
 have zf1 := xr.f 1 (by decide)
 have zf2 := xr.f 2 (by decide)
 go_wp2
 obtain ⟨w3, hW, hO, qN0, qN1, qN2, xN⟩ := store3 xr (.bool (neg (Z).num)) (.slice ahZU nhZU chZU) (.slice ahZD nhZD chZD) (nu rfl) (nu rfl) (nu rfl)
 try rw [hW]
 clear hW
 have hZU := hO.own hZU
 have hZD := hO.own hZD
 have lr : w.heap.size < w3.heap.size := by rw [hO.size]; exact lr
 have qr0 := qN0
 have qr1 := qN1
 have qr2 := qN2
 have xr := xN
 have hB := hO.below (by omega) hB
 clear hO qN0 qN1 qN2 xN zf0 zf1 zf2
 refine bodyPost_ret (v := .agg #[.bool (neg Z.num), .slice ahZU nhZU chZU, .slice ahZD nhZD chZD]) ?_ rfl ⟨_, _, _, _, _, _, rfl, hZU, hZD, hB⟩
 simp [results, Tryz.f67, go_sem, qr0, qr1, qr2]
theorem natR_len {N : Nat} {m : Nat} (h : (digs N).length ≤ m) (hm : 1 ≤ m) : rlen (mkRat (N : Int) 1) ≤ m := rlen_mkRat (by decide) (by rw [Int.natAbs_natCast]; exact h) (Nat.le_trans (by decide) hm)
theorem of_quot (A C : Nat) (hC : 0 < C) : mkRat (A : Int) 1 / mkRat (C : Int) 1 = mkRat (A : Int) C := by
 rw [Rat.mkRat_eq_div, Rat.mkRat_eq_div, Rat.mkRat_eq_div, Rat.intCast_natCast C]
 simp only [Rat.div_def]
 have e : ((1 : Nat) : Rat)⁻¹ = 1 := by decide +kernel
 rw [e, Rat.mul_one, Rat.mul_one]
theorem natR_ne {C : Nat} (hC : 0 < C) : mkRat (C : Int) 1 ≠ 0 := by
 intro h
 rw [Rat.mkRat_one] at h
 have h2 : ((C : Int) : Rat) = ((0 : Int) : Rat) := h
 have := Rat.intCast_inj.1 h2
 omega
set_option maxRecDepth 100000 in
set_option maxHeartbeats 4000000 in
theorem r24of_on (u e j f : Nat) (w : World) (hk : u + e ≤ 20) (hj : j ≤ u) (hf : f ≤ e) (hd : 1 ≤ j + f) :
 Calls Tryz.prog 67 #[.int .i64 ((u + e : Nat) : Int), .int .i64 (u : Int), .int .i64 (j : Int), .int .i64 ((j + f : Nat) : Int)] w (RetRat w (mkRat ((ch u j * ch e f : Nat) : Int) (ch (u + e) (j + f)))) := by
 obtain ⟨k, hke⟩ : ∃ k, u + e = k := ⟨_, rfl⟩
 obtain ⟨d, hde⟩ : ∃ d, j + f = d := ⟨_, rfl⟩
 rw [hke] at hk ⊢
 rw [hde] at hd ⊢
 have t0 : decide ((d : Int) < (j : Int)) = false := decide_eq_false (by omega)
 have t1 : (d : Int) - (j : Int) = (f : Int) := by omega
 have t2 : (k : Int) - (u : Int) = (e : Int) := by omega
 have t3 : decide ((e : Int) < (f : Int)) = false := decide_eq_false (by omega)
 have t3' : decide (e < f) = false := decide_eq_false (by omega)
 have t4 : decide ((u : Int) < (j : Int)) = false := decide_eq_false (by omega)
 have t4' : decide (u < j) = false := decide_eq_false (by omega)
 have t0' : decide (d < j) = false := decide_eq_false (by omega)
 have l1 := ch_len (n := u) (by omega) j
 have l2 := ch_len (n := e) (by omega) f
 have l3 := ch_len (n := k) (by omega) d
 have lm := digs_len_prod (ch u j) (ch e f)
 have hC := ch_pos (n := k) (k := d) (by omega)
 have HA := Lib.hid (fun w => rchoose_in u j w (by omega) hj)
 have HE := Lib.hid (fun w => rchoose_in e f w (by omega) hf)
 have HC := Lib.hid (fun w => rchoose_in k d w (by omega) (by omega))
 have hq := of_quot (ch u j * ch e f) (ch k d) hC
 have hne := natR_ne hC
 have lp := natR_len (N := ch u j * ch e f) (m := 1000) (by omega) (by decide)
 have lc := natR_len (N := ch k d) (m := 1000) (by omega) (by decide)
 obtain ⟨A, hA⟩ : ∃ A, ch u j = A := ⟨_, rfl⟩
 obtain ⟨E, hE⟩ : ∃ E, ch e f = E := ⟨_, rfl⟩
 obtain ⟨C, hCe⟩ : ∃ C, ch k d = C := ⟨_, rfl⟩
 rw [hA, hE, hCe] at hq ⊢
 rw [hA, hE] at lp lm
 rw [hCe] at hne lc l3
 rw [hA] at l1
 rw [hE] at l2
 obtain ⟨M, hM⟩ : ∃ M, A * E = M := ⟨_, rfl⟩
 rw [hM] at hq lp lm ⊢
 have hv : val (digs A) * val (digs E) = M := by rw [val_digs, val_digs, hM]
 obtain ⟨Q, hQ⟩ : ∃ Q, mkRat (M : Int) C = Q := ⟨_, rfl⟩
 rw [hQ] at hq ⊢
 have HQ := Lib.hid hq
 have HV := Lib.hid hv
 have HN := Lib.hid hne
 have HA2 := Lib.hid hA
 have HE2 := Lib.hid hE
 have HC2 := Lib.hid hCe
 have LP := Lib.hid lp
 have LC := Lib.hid lc
 clear hq hv hne hA hE hCe hM hQ lp lc
 go_enter Tryz.func67, Tryz.ntmps67
 have hB := Below.refl w.heap.size w
 go_wp2_with fail
 obtain ⟨w1, hW, hz0, hb, q, f⟩ := box1g w (w.heap.size) (by omega) #[.bool false, .slice none 0 0, .slice none 0 0] 27
 rw [hW]
 clear hW
 have hB := below_later hB hb
 clear hb
 have lr : w.heap.size < w1.heap.size := by omega
 have qr0 := q 0; have qr1 := q 1; have qr2 := q 2
 simp only [lgA, lgZ, lgS] at qr0 qr1 qr2
 have xr : BoxAt w1 (w.heap.size) 3 := BoxAt.of q f rfl (by simp [notU_bool, notU_slice, notU_i64])
 clear q f
 clear hz0
 with_reducible refine (HA.out _).mono ?_
 rintro e w2 ⟨ahA, nhA, chA, rfl, hA, hb⟩
 have hA := hA.mono hB.size
 have xr := xr.past hb lr
 obtain ⟨qr0, qr1, qr2, lr⟩ := bq3 hb lr qr0 qr1 qr2
 have hB := below_later hB hb
 clear hb
 rw [HA2.out] at hA
 go_wp2_with fail
 with_reducible refine (HE.out _).mono ?_
 rintro e w3 ⟨ahE, nhE, chE, rfl, hE, hb⟩
 have hE := hE.mono hB.size
 have hA := hA.past hb
 have xr := xr.past hb lr
 obtain ⟨qr0, qr1, qr2, lr⟩ := bq3 hb lr qr0 qr1 qr2
 have hB := below_later hB hb
 clear hb
 rw [HE2.out] at hE
 go_wp2_with fail
 with_reducible refine (HC.out _).mono ?_
 rintro e w4 ⟨ahC, nhC, chC, rfl, hC, hb⟩
 have hC := hC.mono hB.size
 have hA := hA.past hb
 have hE := hE.past hb
 have xr := xr.past hb lr
 obtain ⟨qr0, qr1, qr2, lr⟩ := bq3 hb lr qr0 qr1 qr2
 have hB := below_later hB hb
 clear hb
 rw [HC2.out] at hC
 go_wp2_with fail
 with_reducible refine (rmul_any _ _ _ _ _ _ _ _ _ hA.toNatAt hE.toNatAt (by have := hA.len; omega) (by have := hE.len; omega)).mono ?_
 rintro e w5 ⟨ahM, nhM, chM, rfl, hM, hb⟩
 have hM := hM.mono hB.size
 have hA := hA.past hb
 have hE := hE.past hb
 have hC := hC.past hb
 have xr := xr.past hb lr
 obtain ⟨qr0, qr1, qr2, lr⟩ := bq3 hb lr qr0 qr1 qr2
 have hB := below_later hB hb
 clear hb
 rw [HV.out] at hM
 go_wp2_with fail
 with_reducible refine (rwhole_any M _ _ _ _ hM.toNatAt (by have := hM.len; omega)).mono ?_
 rintro e w6 ⟨ahPU, nhPU, chPU, ahPD, nhPD, chPD, rfl, hPU, hPD, hb⟩
 have hPU := hPU.mono hB.size
 have hPD := hPD.mono hB.size
 have hC := hC.past hb
 have hM := hM.past hb
 have xr := xr.past hb lr
 obtain ⟨qr0, qr1, qr2, lr⟩ := bq3 hb lr qr0 qr1 qr2
 have hB := below_later hB hb
 clear hb
 go_wp2_with fail
 with_reducible refine (rwhole_any C _ _ _ _ hC.toNatAt (by have := hC.len; omega)).mono ?_
 rintro e w7 ⟨ahQU, nhQU, chQU, ahQD, nhQD, chQD, rfl, hQU, hQD, hb⟩
 have hQU := hQU.mono hB.size
 have hQD := hQD.mono hB.size
 have hC := hC.past hb
 have hPU := hPU.past hb
 have hPD := hPD.past hb
 have xr := xr.past hb lr
 obtain ⟨qr0, qr1, qr2, lr⟩ := bq3 hb lr qr0 qr1 qr2
 have hB := below_later hB hb
 clear hb
 go_wp2_with fail
 with_reducible refine (rdiv05_rat _ _ _ _ _ _ _ _ _ _ _ _ _ _ _ hPU.toNatAt hPD.toNatAt hQU.toNatAt hQD.toNatAt (by have := LP.out; unfold rlen at this; have := hPU.len; omega) (by have := LP.out; unfold rlen at this; have := hPD.len; omega) (by have := LC.out; unfold rlen at this; have := hQU.len; omega) (by have := LC.out; unfold rlen at this; have := hQD.len; omega) HN.out).mono ?_
 rintro e w8 ⟨ahZU, nhZU, chZU, ahZD, nhZD, chZD, rfl, hZU, hZD, hb⟩
 have hZU := hZU.mono hB.size
 have hZD := hZD.mono hB.size
 have hPU := hPU.past hb
 have hPD := hPD.past hb
 have hQU := hQU.past hb
 have hQD := hQD.past hb
 have xr := xr.past hb lr
 obtain ⟨qr0, qr1, qr2, lr⟩ := bq3 hb lr qr0 qr1 qr2
 have hB := below_later hB hb
 clear hb
 rw [HQ.out] at hZU hZD ⊢
 have zf0 := xr.f 0 (by decide)
 have zf1 := xr.f 1 (by decide)
 have zf2 := xr.f 2 (by decide)
 go_wp2
 have zf0 := xr.f 0 (by decide)
 have zf1 := xr.f 1 (by decide)
 have zf2 := xr.f 2 (by decide)
 obtain ⟨w9, hW, hO, qN0, qN1, qN2, xN⟩ := store3 xr (.bool (neg (Q).num)) (.slice ahZU nhZU chZU) (.slice ahZD nhZD chZD) (nu rfl) (nu rfl) (nu rfl)
 try rw [hW]
 clear hW
 have hZU := hO.own hZU
 have hZD := hO.own hZD
 have lr : w.heap.size < w9.heap.size := by rw [hO.size]; exact lr
 have qr0 := qN0
 have qr1 := qN1
 have qr2 := qN2
 have xr := xN
 have hB := hO.below (by omega) hB
 clear hO qN0 qN1 qN2 xN zf0 zf1 zf2
 obtain ⟨w10, hW, hz0, hb, q, f⟩ := box1g w9 (w9.heap.size) (by omega) #[.bool (neg (Q).num), .slice ahZU nhZU chZU, .slice ahZD nhZD chZD] 27
 rw [hW]
 clear hW
 have hZU := hZU.past hb
 have hZD := hZD.past hb
 have xr := xr.past hb lr
 obtain ⟨qr0, qr1, qr2, lr⟩ := bq3 hb lr qr0 qr1 qr2
 have hB := below_later hB hb
 clear hb
 have lx : w9.heap.size < w10.heap.size := by omega
 have qx0 := q 0; have qx1 := q 1; have qx2 := q 2
 simp only [lgA, lgZ, lgS] at qx0 qx1 qx2
 clear q f
 clear hz0
 refine bodyPost_ret (v := .agg #[.bool (neg Q.num), .slice ahZU nhZU chZU, .slice ahZD nhZD chZD]) ?_ rfl ⟨_, _, _, _, _, _, rfl, hZU, hZD, hB⟩
 simp [results, Tryz.f67, go_sem, qr0, qr1, qr2]
theorem r24of_any (k u j d : Nat) (w : World) (hk : k ≤ 20) (hu : u ≤ k) (hj : j ≤ u) (hd : 1 ≤ d) (hd2 : d ≤ k) :
 Calls Tryz.prog 67 #[.int .i64 (k : Int), .int .i64 (u : Int), .int .i64 (j : Int), .int .i64 (d : Int)] w (RetRat w (meetsR k u j d)) := by
 by_cases h1 : d < j
 · rw [meets_off hu (.inl h1)]
   exact r24of_offa k u j d w hk hu hj hd hd2 h1
 · by_cases h2 : k - u < d - j
   · rw [meets_off hu (.inr ⟨by omega, h2⟩)]
     exact r24of_offb k u j d w hk hu hj hd hd2 (by omega) h2
   · obtain ⟨e, rfl⟩ : ∃ e, k = u + e := ⟨k - u, by omega⟩
     obtain ⟨f, rfl⟩ : ∃ f, d = j + f := ⟨d - j, by omega⟩
     have hm : meetsR (u + e) u j (j + f) = mkRat ((ch u j * ch e f : Nat) : Int) (ch (u + e) (j + f)) := by
      unfold meetsR chz
      rw [if_pos (by omega), show u + e - u = e by omega, show (((j + f : Nat) : Int) - (j : Int)).toNat = f by omega]
     rw [hm]
     exact r24of_on u e j f w hk hj (by omega) hd
set_option maxRecDepth 100000 in
set_option maxHeartbeats 4000000 in
theorem rIn_ref (a : Option Addr) (n c : Nat) (zs : List Int) (k u j : Int) (w : World) (g : IntsAt w a n c zs) (X : Int) (h : refA zs k u = X) (hX : X ≠ 0) :
 Calls Tryz.prog 26 #[.slice a n c, .int .i64 k, .int .i64 u, .int .i64 j] w (RetNone w X) := by
 have H := Lib.hid h
 clear h
 have t0 : (X == 0) = false := by rw [beq_eq_false_iff_ne]; exact hX
 have t1 : (X != 0) = true := by simp [hX]
 go_enter Tryz.func26, Tryz.ntmps26
 have hB := Below.refl w.heap.size w
 go_wp2_with fail
 obtain ⟨w1, hW, hz0, hb, q, f⟩ := box1g w (w.heap.size) (by omega) #[.bool false, .slice none 0 0, .slice none 0 0] 27
 rw [hW]
 clear hW
 have g := g.past hb
 have hB := below_later hB hb
 clear hb
 have lr : w.heap.size < w1.heap.size := by omega
 have qr0 := q 0; have qr1 := q 1; have qr2 := q 2
 simp only [lgA, lgZ, lgS] at qr0 qr1 qr2
 have xr : BoxAt w1 (w.heap.size) 3 := BoxAt.of q f rfl (by simp [notU_bool, notU_slice, notU_i64])
 clear q f
 clear hz0
 with_reducible refine (rrefuses_any _ _ _ zs k u _ g).mono ?_
 rintro e w2 ⟨rfl, hb⟩
 have g := g.past hb
 have xr := xr.past hb lr
 obtain ⟨qr0, qr1, qr2, lr⟩ := bq3 hb lr qr0 qr1 qr2
 have hB := below_later hB hb
 clear hb
 rw [H.out]
 have zf0 := xr.f 0 (by decide)
 have zf1 := xr.f 1 (by decide)
 have zf2 := xr.f 2 (by decide)
 go_wp2
 obtain ⟨w3, hW, hO, qN0, qN1, qN2, xN⟩ := store3 xr (.bool false) (.slice none 0 0) (.slice none 0 0) (nu rfl) (nu rfl) (nu rfl)
 try rw [hW]
 clear hW
 have lr : w.heap.size < w3.heap.size := by rw [hO.size]; exact lr
 have qr0 := qN0
 have qr1 := qN1
 have qr2 := qN2
 have xr := xN
 have hB := hO.below (by omega) hB
 clear hO qN0 qN1 qN2 xN zf0 zf1 zf2
 refine bodyPost_ret (v := .tuple #[.agg #[.bool false, .slice none 0 0, .slice none 0 0], .int .i64 X]) ?_ rfl ⟨rfl, hB⟩
 simp [results, Tryz.f26, go_sem, qr0, qr1, qr2]
set_option maxRecDepth 100000 in
set_option maxHeartbeats 4000000 in
theorem rIn_low (a : Option Addr) (n c : Nat) (zs : List Int) (k u j : Int) (w : World) (g : IntsAt w a n c zs) (h : refA zs k u = 0) (hj : j < 0) :
 Calls Tryz.prog 26 #[.slice a n c, .int .i64 k, .int .i64 u, .int .i64 j] w (RetNone w 3) := by
 have H := Lib.hid h
 clear h
 go_enter Tryz.func26, Tryz.ntmps26
 have hB := Below.refl w.heap.size w
 go_wp2_with fail
 obtain ⟨w1, hW, hz0, hb, q, f⟩ := box1g w (w.heap.size) (by omega) #[.bool false, .slice none 0 0, .slice none 0 0] 27
 rw [hW]
 clear hW
 have g := g.past hb
 have hB := below_later hB hb
 clear hb
 have lr : w.heap.size < w1.heap.size := by omega
 have qr0 := q 0; have qr1 := q 1; have qr2 := q 2
 simp only [lgA, lgZ, lgS] at qr0 qr1 qr2
 have xr : BoxAt w1 (w.heap.size) 3 := BoxAt.of q f rfl (by simp [notU_bool, notU_slice, notU_i64])
 clear q f
 clear hz0
 with_reducible refine (rrefuses_any _ _ _ zs k u _ g).mono ?_
 rintro e w2 ⟨rfl, hb⟩
 have g := g.past hb
 have xr := xr.past hb lr
 obtain ⟨qr0, qr1, qr2, lr⟩ := bq3 hb lr qr0 qr1 qr2
 have hB := below_later hB hb
 clear hb
 rw [H.out]
 have zf0 := xr.f 0 (by decide)
 have zf1 := xr.f 1 (by decide)
 have zf2 := xr.f 2 (by decide)
 go_wp2
 obtain ⟨w3, hW, hO, qN0, qN1, qN2, xN⟩ := store3 xr (.bool false) (.slice none 0 0) (.slice none 0 0) (nu rfl) (nu rfl) (nu rfl)
 try rw [hW]
 clear hW
 have lr : w.heap.size < w3.heap.size := by rw [hO.size]; exact lr
 have qr0 := qN0
 have qr1 := qN1
 have qr2 := qN2
 have xr := xN
 have hB := hO.below (by omega) hB
 clear hO qN0 qN1 qN2 xN zf0 zf1 zf2
 refine bodyPost_ret (v := .tuple #[.agg #[.bool false, .slice none 0 0, .slice none 0 0], .int .i64 3]) ?_ rfl ⟨rfl, hB⟩
 simp [results, Tryz.f26, go_sem, qr0, qr1, qr2]
set_option maxRecDepth 100000 in
set_option maxHeartbeats 4000000 in
theorem rIn_high (a : Option Addr) (n c : Nat) (zs : List Int) (k u j : Int) (w : World) (g : IntsAt w a n c zs) (h : refA zs k u = 0) (hj : ¬ j < 0) (hj2 : u < j) :
 Calls Tryz.prog 26 #[.slice a n c, .int .i64 k, .int .i64 u, .int .i64 j] w (RetNone w 3) := by
 have H := Lib.hid h
 clear h
 go_enter Tryz.func26, Tryz.ntmps26
 have hB := Below.refl w.heap.size w
 go_wp2_with fail
 obtain ⟨w1, hW, hz0, hb, q, f⟩ := box1g w (w.heap.size) (by omega) #[.bool false, .slice none 0 0, .slice none 0 0] 27
 rw [hW]
 clear hW
 have g := g.past hb
 have hB := below_later hB hb
 clear hb
 have lr : w.heap.size < w1.heap.size := by omega
 have qr0 := q 0; have qr1 := q 1; have qr2 := q 2
 simp only [lgA, lgZ, lgS] at qr0 qr1 qr2
 have xr : BoxAt w1 (w.heap.size) 3 := BoxAt.of q f rfl (by simp [notU_bool, notU_slice, notU_i64])
 clear q f
 clear hz0
 with_reducible refine (rrefuses_any _ _ _ zs k u _ g).mono ?_
 rintro e w2 ⟨rfl, hb⟩
 have g := g.past hb
 have xr := xr.past hb lr
 obtain ⟨qr0, qr1, qr2, lr⟩ := bq3 hb lr qr0 qr1 qr2
 have hB := below_later hB hb
 clear hb
 rw [H.out]
 have zf0 := xr.f 0 (by decide)
 have zf1 := xr.f 1 (by decide)
 have zf2 := xr.f 2 (by decide)
 go_wp2
 obtain ⟨w3, hW, hO, qN0, qN1, qN2, xN⟩ := store3 xr (.bool false) (.slice none 0 0) (.slice none 0 0) (nu rfl) (nu rfl) (nu rfl)
 try rw [hW]
 clear hW
 have lr : w.heap.size < w3.heap.size := by rw [hO.size]; exact lr
 have qr0 := qN0
 have qr1 := qN1
 have qr2 := qN2
 have xr := xN
 have hB := hO.below (by omega) hB
 clear hO qN0 qN1 qN2 xN zf0 zf1 zf2
 refine bodyPost_ret (v := .tuple #[.agg #[.bool false, .slice none 0 0, .slice none 0 0], .int .i64 3]) ?_ rfl ⟨rfl, hB⟩
 simp [results, Tryz.f26, go_sem, qr0, qr1, qr2]
set_option maxRecDepth 100000 in
set_option maxHeartbeats 16000000 in
theorem rIn_ok (a : Option Addr) (n c : Nat) (zs : List Int) (k u j : Nat) (w : World) (g : IntsAt w a n c zs) (hok : okT zs (k : Int)) (hk1 : 1 ≤ k) (hk : k ≤ 20) (hu : u ≤ k) (hj : j ≤ u) :
 Calls Tryz.prog 26 #[.slice a n c, .int .i64 (k : Int), .int .i64 (u : Int), .int .i64 (j : Int)] w (RetOk w (inR24 zs k u j)) := by
 have h := refA_ok hok hk1 (by omega) hu
 have H := Lib.hid h
 have tj : decide (u < j) = false := decide_eq_false (by omega)
 have hcl : c ≤ 9223372036854775807 := by have h1 := g.cle; simp only [maxLen] at h1; omega
 have hle := g.le
 have hlen := g.len
 have hin := okT_in hok
 rw [hlen] at hin
 have hnk : n ≤ k := by have := hok.2.2.2.1; omega
 have htot := sumW_tot n (by omega) hin
 have hpos := okT_pos hok
 rw [hlen] at hpos
 have htin := totS_in (g := fun i => zs.getD i 0) n hin
 obtain ⟨T, hT⟩ : ∃ T : Nat, totS (fun i => zs.getD i 0) n = (T : Int) := ⟨(totS (fun i => zs.getD i 0) n).toNat, by omega⟩
 have hT0 : 0 < T := by omega
 have hT1 : T < 9223372036854775808 := by omega
 have hql := fun i (hi : i < n) => inE_len (g := fun i => zs.getD i 0) (T := T) (k := k) (u := u) (j := j) (i := i) (hin i hi) hT0 hT1 (by omega) hu hj (by omega)
 have hsl := sumQ_len hql
 have hres : inR24 zs k u j = sumQ 0 (inE (fun i => zs.getD i 0) T k u j) n := by unfold inR24; rw [hlen, hT, Int.toNat_natCast]
 have hlen2 : ∀ i, i ≤ n → rlen (sumQ 0 (inE (fun i => zs.getD i 0) T k u j) i) ≤ 501 := fun i hi => Nat.le_trans (hsl i hi) (by
  have : i * (k + 4 + 1) ≤ 20 * 25 := Nat.mul_le_mul (by omega) (by omega)
  omega)
 rw [hT] at htot
 rw [hres]
 have hstep : ∀ i, sumQ 0 (inE (fun i => zs.getD i 0) T k u j) (i + 1) = sumQ 0 (inE (fun i => zs.getD i 0) T k u j) i + mkRat (zs.getD i 0) T * meetsR k u j (i + 1) := fun i => rfl
 have h0s : sumQ 0 (inE (fun i => zs.getD i 0) T k u j) 0 = 0 := rfl
 obtain ⟨s, hs⟩ : ∃ s, sumQ 0 (inE (fun i => zs.getD i 0) T k u j) = s := ⟨_, rfl⟩
 rw [hs] at hlen2 h0s ⊢
 simp only [hs] at hstep
 have HIN := Lib.hid hin
 have HTOT := Lib.hid htot
 have HL2 := Lib.hid hlen2
 have HST := Lib.hid hstep
 have H0S := Lib.hid h0s
 have HG := Lib.hid g
 obtain ⟨Z, hZ0⟩ : ∃ Z : Rat, (0 : Rat) = Z := ⟨_, rfl⟩
 have hz := fun w => rwhole_nil w
 simp only [hZ0] at hz
 have HZ := Lib.hid hz
 have HZ0 := Lib.hid hZ0
 clear hz hZ0
 clear h hok hin htot hpos htin hT hql hsl hres hlen2 hstep h0s hs
 go_enter Tryz.func26, Tryz.ntmps26
 have hB := Below.refl w.heap.size w
 go_wp2_with fail
 obtain ⟨w1, hW, hz0, hb, q, f⟩ := box1g w (w.heap.size) (by omega) #[.bool false, .slice none 0 0, .slice none 0 0] 27
 rw [hW]
 clear hW
 have g := g.past hb
 have hB := below_later hB hb
 clear hb
 have lr : w.heap.size < w1.heap.size := by omega
 have qr0 := q 0; have qr1 := q 1; have qr2 := q 2
 simp only [lgA, lgZ, lgS] at qr0 qr1 qr2
 have xr : BoxAt w1 (w.heap.size) 3 := BoxAt.of q f rfl (by simp [notU_bool, notU_slice, notU_i64])
 clear q f
 clear hz0
 with_reducible refine (rrefuses_any _ _ _ zs (k : Int) (u : Int) _ g).mono ?_
 rintro e w2 ⟨rfl, hb⟩
 have g := g.past hb
 have xr := xr.past hb lr
 obtain ⟨qr0, qr1, qr2, lr⟩ := bq3 hb lr qr0 qr1 qr2
 have hB := below_later hB hb
 clear hb
 rw [H.out]
 go_wp2_with fail
 with_reducible refine (HZ.out _).mono ?_
 rintro e w3 ⟨ahSU, nhSU, chSU, ahSD, nhSD, chSD, rfl, hSU, hSD, hb⟩
 have hSU := hSU.mono hB.size
 have hSD := hSD.mono hB.size
 have g := g.past hb
 have xr := xr.past hb lr
 obtain ⟨qr0, qr1, qr2, lr⟩ := bq3 hb lr qr0 qr1 qr2
 have hB := below_later hB hb
 clear hb
 go_wp2_with fail
 obtain ⟨w4, hW, hz0, hb, q, f⟩ := box1g w3 (w3.heap.size) (by omega) #[.bool (neg (Z).num), .slice ahSU nhSU chSU, .slice ahSD nhSD chSD] 27
 rw [hW]
 clear hW
 have g := g.past hb
 have hSU := hSU.past hb
 have hSD := hSD.past hb
 have xr := xr.past hb lr
 obtain ⟨qr0, qr1, qr2, lr⟩ := bq3 hb lr qr0 qr1 qr2
 have hB := below_later hB hb
 clear hb
 have ls : w3.heap.size < w4.heap.size := by omega
 have qs0 := q 0; have qs1 := q 1; have qs2 := q 2
 simp only [lgA, lgZ, lgS] at qs0 qs1 qs2
 have xs : BoxAt w4 (w3.heap.size) 3 := BoxAt.of q f rfl (by simp [notU_bool, notU_slice, notU_i64])
 clear q f
 clear hz0
 have hs0 : RatBox w4 w.heap.size (w3.heap.size) (s 0) := by rw [H0S.out, HZ0.out]; exact ⟨_, _, _, _, _, _, qs0, qs1, qs2, xs, ls, hSU, hSD⟩
 have hbs : w.heap.size < w3.heap.size := by have := lr; omega
 obtain ⟨bs, hbse⟩ : ∃ bs, w3.heap.size = bs := ⟨_, rfl⟩
 rw [hbse] at hs0 hbs ⊢
 clear qs0 qs1 qs2 xs ls hSU hSD g qr0 qr1 qr2
 go_loopw [12] (fun i wr => ∃ (m : Nat), m ≤ n ∧ i = .int .i64 ((m : Nat) : Int) ∧ RatBox wr w.heap.size bs (s m) ∧ BoxAt wr w.heap.size 3 ∧ w.heap.size < wr.heap.size ∧ Below w.heap.size w wr) (fun i _ => n - (intOf i).toNat)
 case atStart => exact ⟨0, Nat.zero_le _, rfl, hs0, xr, lr, hB⟩
 case round =>
  clear hs0 xr lr hB
  obtain ⟨m, hm, rfl, hsm, xr, lr, hB⟩ := hrel
  have g := HG.out.past hB
  obtain ⟨ahSU, nhSU, chSU, ahSD, nhSD, chSD, qs0, qs1, qs2, xs, ls, hSU, hSD⟩ := hsm
  obtain ⟨r0, hr0, _⟩ := xr.c 0 (by decide)
  obtain ⟨r1, hr1, _⟩ := xr.c 1 (by decide)
  obtain ⟨r2, hr2, _⟩ := xr.c 2 (by decide)
  by_cases hlt : m < n
  · have hz := HIN.out m hlt
    have hq : ∃ b o, a = some ⟨b, o, none⟩ ∧ b < w.heap.size ∧ w.cell? ⟨b, o + m, none⟩ = some (.int .i64 (zs.getD m 0)) := by
     rcases HG.out.cell with h | ⟨b, o, h1, h2, h3⟩
     · omega
     · exact ⟨b, o, h1, h2, h3 m hlt⟩
    have lS0 := HL2.out m hm
    have lS1 := HL2.out (m + 1) hlt
    have hstep := HST.out m
    obtain ⟨z, hzz⟩ : ∃ z, zs.getD m 0 = z := ⟨_, rfl⟩
    obtain ⟨D, hD⟩ : ∃ D, m + 1 = D := ⟨_, rfl⟩
    rw [hzz, hD] at hstep
    rw [hzz] at hz hq
    have hpr := fun w => rpair_q z T w (by omega) hT0 (by omega)
    have hmt := fun w => r24of_any k u j D w hk hu hj (by omega) (by omega)
    have lp0 : rlen (mkRat z T) ≤ 1 := rlen_mkRat (by omega) (digs_length_le.2 (by simp; omega)) (digs_length_le.2 (by simp; omega))
    have lm0 : rlen (meetsR k u j D) ≤ k + 2 := meets_len (by omega) hu hj (by omega)
    have lx0 : rlen (mkRat z T * meetsR k u j D) ≤ rlen (mkRat z T) + rlen (meetsR k u j D) + 1 := product_short _ _
    rw [hD] at lS1
    obtain ⟨P, hP⟩ : ∃ P, mkRat z T = P := ⟨_, rfl⟩
    obtain ⟨M, hM⟩ : ∃ M, meetsR k u j D = M := ⟨_, rfl⟩
    rw [hP, hM] at hstep lx0
    rw [hP] at lp0
    rw [hM] at lm0
    simp only [hP] at hpr
    simp only [hM] at hmt
    obtain ⟨X, hX⟩ : ∃ X, P * M = X := ⟨_, rfl⟩
    rw [hX] at hstep lx0
    obtain ⟨S, hS⟩ : ∃ S, s m = S := ⟨_, rfl⟩
    rw [hS] at hstep lS0 hSU hSD qs0
    obtain ⟨S2, hS2⟩ : ∃ S2, s D = S2 := ⟨_, rfl⟩
    rw [hS2] at hstep
    obtain ⟨b, o, rfl, lb, hq⟩ := hq
    have HPR := Lib.hid hpr
    have HMT := Lib.hid hmt
    have HX := Lib.hid hX
    have HS2 := Lib.hid hS2
    have HSS := Lib.hid hstep.symm
    have LP := Lib.hid (show rlen P ≤ 10000 by omega)
    have LM := Lib.hid (show rlen M ≤ 10000 by omega)
    have LX := Lib.hid (show rlen X ≤ 10000 by omega)
    have LS := Lib.hid (show rlen S ≤ 10000 by omega)
    have HTD := Lib.hid (show IntKind.i64.wrap ((m : Int) + 1) = (D : Int) by rw [IntKind.wrap_i64]; omega)
    have HD := Lib.hid hD
    have hR0 := Below.refl wr.heap.size wr
    have lbr : b < wr.heap.size := Nat.lt_of_lt_of_le lb hB.size
    have hqr := (hB.cell (p := ⟨b, o + m, none⟩) lb).trans hq
    clear hzz hD hstep hpr hmt lp0 lm0 lx0 lS0 lS1 hP hM hX hS hS2 hq
    go_wp2_with fail
    have szW := hB.size
    refine wp_region_invA (by kernel_rfl) rfl (by kernel_rfl) (fun A0 V0 dd aa ww => ∃ (blk : Nat → Nat) (y41 y42 y43 y44 y45 y46 y47 y40 y48 y49 y13 y14 : Value), aa = puts A0 [(41, y41), (42, y42), (43, y43), (44, y44), (45, y45), (46, y46), (47, y47), (40, y40), (48, y48), (49, y49), (13, y13), (14, y14)] ∧ Below V0.heap.size V0 ww ∧ Boxes [(10, 3)] V0.heap.size dd blk ww ∧ Shut (dd 0 = true → y41 = .slice (some ⟨b, o, none⟩) n c) ∧ Shut (dd 1 = true → y42 = .int .i64 (m : Int)) ∧ Shut (dd 2 = true → y43 = .pointer (some ⟨b, o + m, none⟩)) ∧ Shut (dd 3 = true → y44 = .int .i64 z) ∧ Shut (dd 4 = true → y45 = .slice (some ⟨b, o, none⟩) n c) ∧ Shut (dd 5 = true → y46 = .int .i64 (T : Int)) ∧ Shut (dd 6 = true → OkV V0.heap.size (P) y47 ww) ∧ Shut (dd 7 = true → y40 = y47) ∧ Shut (dd 8 = true → y48 = part 0 y40) ∧ Shut (dd 9 = true → y49 = part 1 y40) ∧ Shut (dd 10 = true → y13 = .pointer (some ⟨blk 10, 0, none⟩)) ∧ Shut (dd 11 = true → HoldsV dd 10 8 (blk 10) y48 ww) ∧ Shut (dd 12 = true → y14 = y49) ∧ True) ?_ ?_ ?_
    · exact ⟨fun _ => 0, _, _, _, _, _, _, _, _, _, _, _, _, puts_self _ [41, 42, 43, 44, 45, 46, 47, 40, 48, 49, 13, 14], (Below.refl _ _).drew, Boxes.none _ _ _ _, fun h => (by cases h), fun h => (by cases h), fun h => (by cases h), fun h => (by cases h), fun h => (by cases h), fun h => (by cases h), fun h => (by cases h), fun h => (by cases h), fun h => (by cases h), fun h => (by cases h), fun h => (by cases h), fun h => (by cases h), fun h => (by cases h), trivial⟩
    · refine Steps.cons ?_ (Steps.cons ?_ (Steps.cons ?_ (Steps.cons ?_ (Steps.cons ?_ (Steps.cons ?_ (Steps.cons ?_ (Steps.cons ?_ (Steps.cons ?_ (Steps.cons ?_ (Steps.cons ?_ (Steps.cons ?_ (Steps.cons ?_ (Steps.nil)))))))))))))
      · intro dd aa ww K hc hun hn hI hK
        obtain ⟨blk, y41, y42, y43, y44, y45, y46, y47, y40, y48, y49, y13, y14, ea, hb, hX, f0, f1, f2, f3, f4, f5, f6, f7, f8, f9, f10, f11, f12, _⟩ := hI
        try simp [Region.binds] at hn
        subst ea
        simp only [puts, Act.put, lsA, lsZ, lsS]
        go_simp
        refine hK.out _ _ ?_
        exact ⟨blk, .slice (some ⟨b, o, none⟩) n c, y42, y43, y44, y45, y46, y47, y40, y48, y49, y13, y14, by simp only [puts, Act.put, lsA, lsZ, lsS], hb, hX.same 0 rfl, fun _ => rfl, uo f1 rfl, uo f2 rfl, uo f3 rfl, uo f4 rfl, uo f5 rfl, uo f6 rfl, uo f7 rfl, uo f8 rfl, uo f9 rfl, uo f10 rfl, fun h => (f11.out (upd_of rfl h)).same 0, uo f12 rfl, trivial⟩
      · intro dd aa ww K hc hun hn hI hK
        obtain ⟨blk, y41, y42, y43, y44, y45, y46, y47, y40, y48, y49, y13, y14, ea, hb, hX, f0, f1, f2, f3, f4, f5, f6, f7, f8, f9, f10, f11, f12, _⟩ := hI
        try simp [Region.binds] at hn
        subst ea
        simp only [puts, Act.put, lsA, lsZ, lsS]
        go_simp
        refine hK.out _ _ ?_
        exact ⟨blk, y41, .int .i64 (m : Int), y43, y44, y45, y46, y47, y40, y48, y49, y13, y14, by simp only [puts, Act.put, lsA, lsZ, lsS], hb, hX.same 1 rfl, uo f0 rfl, fun _ => rfl, uo f2 rfl, uo f3 rfl, uo f4 rfl, uo f5 rfl, uo f6 rfl, uo f7 rfl, uo f8 rfl, uo f9 rfl, uo f10 rfl, fun h => (f11.out (upd_of rfl h)).same 1, uo f12 rfl, trivial⟩
      · intro dd aa ww K hc hun hn hI hK
        obtain ⟨blk, y41, y42, y43, y44, y45, y46, y47, y40, y48, y49, y13, y14, ea, hb, hX, f0, f1, f2, f3, f4, f5, f6, f7, f8, f9, f10, f11, f12, _⟩ := hI
        try simp [Region.binds] at hn
        have ex := f0.out (by first | (simp [hn]; done) | exact rc hc hn | exact rc hc hn.1 | exact rc hc hn.2 | exact rc hc hn.2.1 | exact rc hc hn.2.2 | exact rc hc hn.2.2.1 | exact rc hc hn.2.2.2)
        subst ex
        have ex := f1.out (by first | (simp [hn]; done) | exact rc hc hn | exact rc hc hn.1 | exact rc hc hn.2 | exact rc hc hn.2.1 | exact rc hc hn.2.2 | exact rc hc hn.2.2.1 | exact rc hc hn.2.2.2)
        subst ex
        subst ea
        simp only [puts, Act.put, lsA, lsZ, lsS]
        go_simp
        refine hK.out _ _ ?_
        exact ⟨blk, .slice (some ⟨b, o, none⟩) n c, .int .i64 (m : Int), .pointer (some ⟨b, o + m, none⟩), y44, y45, y46, y47, y40, y48, y49, y13, y14, by simp only [puts, Act.put, lsA, lsZ, lsS], hb, hX.same 2 rfl, fun h => rfl, fun h => rfl, fun _ => rfl, uo f3 rfl, uo f4 rfl, uo f5 rfl, uo f6 rfl, uo f7 rfl, uo f8 rfl, uo f9 rfl, uo f10 rfl, fun h => (f11.out (upd_of rfl h)).same 2, uo f12 rfl, trivial⟩
      · intro dd aa ww K hc hun hn hI hK
        obtain ⟨blk, y41, y42, y43, y44, y45, y46, y47, y40, y48, y49, y13, y14, ea, hb, hX, f0, f1, f2, f3, f4, f5, f6, f7, f8, f9, f10, f11, f12, _⟩ := hI
        try simp [Region.binds] at hn
        have ex := f2.out (by first | (simp [hn]; done) | exact rc hc hn | exact rc hc hn.1 | exact rc hc hn.2 | exact rc hc hn.2.1 | exact rc hc hn.2.2 | exact rc hc hn.2.2.1 | exact rc hc hn.2.2.2)
        subst ex
        have e0 := (hb.cell (p := ⟨b, o + m, none⟩) lbr).trans hqr
        subst ea
        simp only [puts, Act.put, lsA, lsZ, lsS]
        go_simp
        refine hK.out _ _ ?_
        exact ⟨blk, y41, y42, .pointer (some ⟨b, o + m, none⟩), .int .i64 z, y45, y46, y47, y40, y48, y49, y13, y14, by simp only [puts, Act.put, lsA, lsZ, lsS], hb, hX.same 3 rfl, uo f0 rfl, uo f1 rfl, fun h => rfl, fun _ => rfl, uo f4 rfl, uo f5 rfl, uo f6 rfl, uo f7 rfl, uo f8 rfl, uo f9 rfl, uo f10 rfl, fun h => (f11.out (upd_of rfl h)).same 3, uo f12 rfl, trivial⟩
      · intro dd aa ww K hc hun hn hI hK
        obtain ⟨blk, y41, y42, y43, y44, y45, y46, y47, y40, y48, y49, y13, y14, ea, hb, hX, f0, f1, f2, f3, f4, f5, f6, f7, f8, f9, f10, f11, f12, _⟩ := hI
        try simp [Region.binds] at hn
        subst ea
        simp only [puts, Act.put, lsA, lsZ, lsS]
        go_simp
        refine hK.out _ _ ?_
        exact ⟨blk, y41, y42, y43, y44, .slice (some ⟨b, o, none⟩) n c, y46, y47, y40, y48, y49, y13, y14, by simp only [puts, Act.put, lsA, lsZ, lsS], hb, hX.same 4 rfl, uo f0 rfl, uo f1 rfl, uo f2 rfl, uo f3 rfl, fun _ => rfl, uo f5 rfl, uo f6 rfl, uo f7 rfl, uo f8 rfl, uo f9 rfl, uo f10 rfl, fun h => (f11.out (upd_of rfl h)).same 4, uo f12 rfl, trivial⟩
      · intro dd aa ww K hc hun hn hI hK
        obtain ⟨blk, y41, y42, y43, y44, y45, y46, y47, y40, y48, y49, y13, y14, ea, hb, hX, f0, f1, f2, f3, f4, f5, f6, f7, f8, f9, f10, f11, f12, _⟩ := hI
        try simp [Region.binds] at hn
        have ex := f4.out (by first | (simp [hn]; done) | exact rc hc hn | exact rc hc hn.1 | exact rc hc hn.2 | exact rc hc hn.2.1 | exact rc hc hn.2.2 | exact rc hc hn.2.2.1 | exact rc hc hn.2.2.2)
        subst ex
        subst ea
        simp only [puts, Act.put, lsA, lsZ, lsS]
        go_simp
        with_reducible refine (rtotal_any _ _ _ zs _ (g.past hb)).mono ?_
        rintro e w1 ⟨rfl, h1⟩
        rw [HTOT.out]
        refine hK.out _ _ ?_
        exact ⟨blk, y41, y42, y43, y44, .slice (some ⟨b, o, none⟩) n c, .int .i64 (T : Int), y47, y40, y48, y49, y13, y14, by simp only [puts, Act.put, lsA, lsZ, lsS], below_later hb h1, hX.past h1 5 rfl, uo f0 rfl, uo f1 rfl, uo f2 rfl, uo f3 rfl, fun h => rfl, fun _ => rfl, fun h => (f6.out (upd_of rfl h)).past h1, uo f7 rfl, uo f8 rfl, uo f9 rfl, uo f10 rfl, fun h => (f11.out (upd_of rfl h)).past h1 5, uo f12 rfl, trivial⟩
      · intro dd aa ww K hc hun hn hI hK
        obtain ⟨blk, y41, y42, y43, y44, y45, y46, y47, y40, y48, y49, y13, y14, ea, hb, hX, f0, f1, f2, f3, f4, f5, f6, f7, f8, f9, f10, f11, f12, _⟩ := hI
        try simp [Region.binds] at hn
        have ex := f3.out (by first | (simp [hn]; done) | exact rc hc hn | exact rc hc hn.1 | exact rc hc hn.2 | exact rc hc hn.2.1 | exact rc hc hn.2.2 | exact rc hc hn.2.2.1 | exact rc hc hn.2.2.2)
        subst ex
        have ex := f5.out (by first | (simp [hn]; done) | exact rc hc hn | exact rc hc hn.1 | exact rc hc hn.2 | exact rc hc hn.2.1 | exact rc hc hn.2.2 | exact rc hc hn.2.2.1 | exact rc hc hn.2.2.2)
        subst ex
        subst ea
        simp only [puts, Act.put, lsA, lsZ, lsS]
        go_simp
        with_reducible refine (HPR.out _).mono ?_
        rintro e w1 ⟨ahPU, nhPU, chPU, ahPD, nhPD, chPD, rfl, hPU, hPD, h1⟩
        refine hK.out _ _ ?_
        exact ⟨blk, y41, y42, y43, .int .i64 z, y45, .int .i64 (T : Int), .tuple #[.agg #[.bool (neg (P).num), .slice ahPU nhPU chPU, .slice ahPD nhPD chPD], .int .i64 0], y40, y48, y49, y13, y14, by simp only [puts, Act.put, lsA, lsZ, lsS], below_later hb h1, hX.past h1 6 rfl, uo f0 rfl, uo f1 rfl, uo f2 rfl, fun h => rfl, uo f4 rfl, fun h => rfl, fun _ => ⟨_, _, _, _, _, _, rfl, hPU.mono hb.size, hPD.mono hb.size⟩, fun h => absurd (hc.reach (f := 8) (s := 7) (l := 6) (by kernel_rfl) (upd_of rfl h)) (by rw [hun]; decide), uo f8 rfl, uo f9 rfl, uo f10 rfl, fun h => (f11.out (upd_of rfl h)).past h1 6, uo f12 rfl, trivial⟩
      · intro dd aa ww K hc hun hn hI hK
        obtain ⟨blk, y41, y42, y43, y44, y45, y46, y47, y40, y48, y49, y13, y14, ea, hb, hX, f0, f1, f2, f3, f4, f5, f6, f7, f8, f9, f10, f11, f12, _⟩ := hI
        try simp [Region.binds] at hn
        obtain ⟨ahPU, nhPU, chPU, ahPD, nhPD, chPD, ex, hPU, hPD⟩ := f6.out (by first | (simp [hn]; done) | exact rc hc hn | exact rc hc hn.1 | exact rc hc hn.2 | exact rc hc hn.2.1 | exact rc hc hn.2.2 | exact rc hc hn.2.2.1 | exact rc hc hn.2.2.2)
        subst ex
        subst ea
        simp only [puts, Act.put, lsA, lsZ, lsS]
        go_simp
        refine hK.out _ _ ?_
        exact ⟨blk, y41, y42, y43, y44, y45, y46, .tuple #[.agg #[.bool (neg (P).num), .slice ahPU nhPU chPU, .slice ahPD nhPD chPD], .int .i64 0], .tuple #[.agg #[.bool (neg (P).num), .slice ahPU nhPU chPU, .slice ahPD nhPD chPD], .int .i64 0], y48, y49, y13, y14, by simp only [puts, Act.put, lsA, lsZ, lsS], hb, hX.same 7 rfl, uo f0 rfl, uo f1 rfl, uo f2 rfl, uo f3 rfl, uo f4 rfl, uo f5 rfl, uo f6 rfl, fun _ => rfl, fun h => absurd (hc.reach (f := 8) (s := 8) (l := 7) (by kernel_rfl) (upd_of rfl h)) (by rw [hun]; decide), fun h => absurd (hc.reach (f := 8) (s := 9) (l := 7) (by kernel_rfl) (upd_of rfl h)) (by rw [hun]; decide), uo f10 rfl, fun h => (f11.out (upd_of rfl h)).same 7, uo f12 rfl, trivial⟩
      · intro dd aa ww K hc hun hn hI hK
        obtain ⟨blk, y41, y42, y43, y44, y45, y46, y47, y40, y48, y49, y13, y14, ea, hb, hX, f0, f1, f2, f3, f4, f5, f6, f7, f8, f9, f10, f11, f12, _⟩ := hI
        try simp [Region.binds] at hn
        obtain ⟨ahPU, nhPU, chPU, ahPD, nhPD, chPD, ex, hPU, hPD⟩ := f6.out (by first | (simp [hn]; done) | exact rc hc hn | exact rc hc hn.1 | exact rc hc hn.2 | exact rc hc hn.2.1 | exact rc hc hn.2.2 | exact rc hc hn.2.2.1 | exact rc hc hn.2.2.2)
        subst ex
        have ex : y40 = .tuple #[.agg #[.bool (neg (P).num), .slice ahPU nhPU chPU, .slice ahPD nhPD chPD], .int .i64 0] := f7.out (by first | (simp [hn]; done) | exact rc hc hn | exact rc hc hn.1 | exact rc hc hn.2 | exact rc hc hn.2.1 | exact rc hc hn.2.2 | exact rc hc hn.2.2.1 | exact rc hc hn.2.2.2)
        subst ex
        subst ea
        simp only [puts, Act.put, lsA, lsZ, lsS]
        go_simp
        refine hK.out _ _ ?_
        exact ⟨blk, y41, y42, y43, y44, y45, y46, .tuple #[.agg #[.bool (neg (P).num), .slice ahPU nhPU chPU, .slice ahPD nhPD chPD], .int .i64 0], .tuple #[.agg #[.bool (neg (P).num), .slice ahPU nhPU chPU, .slice ahPD nhPD chPD], .int .i64 0], .agg #[.bool (neg (P).num), .slice ahPU nhPU chPU, .slice ahPD nhPD chPD], y49, y13, y14, by simp only [puts, Act.put, lsA, lsZ, lsS], hb, hX.same 8 rfl, uo f0 rfl, uo f1 rfl, uo f2 rfl, uo f3 rfl, uo f4 rfl, uo f5 rfl, uo f6 rfl, fun h => rfl, fun _ => rfl, uo f9 rfl, uo f10 rfl, fun h => absurd (HoldsV.vp (f11.out (upd_of rfl h))) (by rw [hun]; decide), uo f12 rfl, trivial⟩
      · intro dd aa ww K hc hun hn hI hK
        obtain ⟨blk, y41, y42, y43, y44, y45, y46, y47, y40, y48, y49, y13, y14, ea, hb, hX, f0, f1, f2, f3, f4, f5, f6, f7, f8, f9, f10, f11, f12, _⟩ := hI
        try simp [Region.binds] at hn
        obtain ⟨ahPU, nhPU, chPU, ahPD, nhPD, chPD, ex, hPU, hPD⟩ := f6.out (by first | (simp [hn]; done) | exact rc hc hn | exact rc hc hn.1 | exact rc hc hn.2 | exact rc hc hn.2.1 | exact rc hc hn.2.2 | exact rc hc hn.2.2.1 | exact rc hc hn.2.2.2)
        subst ex
        have ex : y40 = .tuple #[.agg #[.bool (neg (P).num), .slice ahPU nhPU chPU, .slice ahPD nhPD chPD], .int .i64 0] := f7.out (by first | (simp [hn]; done) | exact rc hc hn | exact rc hc hn.1 | exact rc hc hn.2 | exact rc hc hn.2.1 | exact rc hc hn.2.2 | exact rc hc hn.2.2.1 | exact rc hc hn.2.2.2)
        subst ex
        subst ea
        simp only [puts, Act.put, lsA, lsZ, lsS]
        go_simp
        refine hK.out _ _ ?_
        exact ⟨blk, y41, y42, y43, y44, y45, y46, .tuple #[.agg #[.bool (neg (P).num), .slice ahPU nhPU chPU, .slice ahPD nhPD chPD], .int .i64 0], .tuple #[.agg #[.bool (neg (P).num), .slice ahPU nhPU chPU, .slice ahPD nhPD chPD], .int .i64 0], y48, .int .i64 0, y13, y14, by simp only [puts, Act.put, lsA, lsZ, lsS], hb, hX.same 9 rfl, uo f0 rfl, uo f1 rfl, uo f2 rfl, uo f3 rfl, uo f4 rfl, uo f5 rfl, uo f6 rfl, fun h => rfl, uo f8 rfl, fun _ => rfl, uo f10 rfl, fun h => (f11.out (upd_of rfl h)).same 9, fun h => absurd (hc.reach (f := 8) (s := 12) (l := 9) (by kernel_rfl) (upd_of rfl h)) (by rw [hun]; decide), trivial⟩
      · intro dd aa ww K hc hun hn hI hK
        obtain ⟨blk, y41, y42, y43, y44, y45, y46, y47, y40, y48, y49, y13, y14, ea, hb, hX, f0, f1, f2, f3, f4, f5, f6, f7, f8, f9, f10, f11, f12, _⟩ := hI
        try simp [Region.binds] at hn
        subst ea
        simp only [puts, Act.put, lsA, lsZ, lsS]
        go_simp
        refine hK.out _ _ ?_
        exact ⟨setB blk 10 ww.heap.size, y41, y42, y43, y44, y45, y46, y47, y40, y48, y49, .pointer (some ⟨ww.heap.size, 0, none⟩), y14, by simp only [puts, Act.put, lsA, lsZ, lsS], below_alloc hb _, hX.new hb.size 10 #[.bool false, .slice none 0 0, .slice none 0 0] _ rfl (by simp [notU_bool, notU_slice, notU_i64]), uo f0 rfl, uo f1 rfl, uo f2 rfl, uo f3 rfl, uo f4 rfl, uo f5 rfl, fun h => (f6.out (upd_of rfl h)).past ((Below.refl _ _).alloc (Nat.le_refl _) _), uo f7 rfl, uo f8 rfl, uo f9 rfl, fun _ => rfl, fun h => absurd (HoldsV.up (f11.out (upd_of rfl h))) (by rw [hun]; decide), uo f12 rfl, trivial⟩
      · intro dd aa ww K hc hun hn hI hK
        obtain ⟨blk, y41, y42, y43, y44, y45, y46, y47, y40, y48, y49, y13, y14, ea, hb, hX, f0, f1, f2, f3, f4, f5, f6, f7, f8, f9, f10, f11, f12, _⟩ := hI
        try simp [Region.binds] at hn
        have ex := f10.out (by first | (simp [hn]; done) | exact rc hc hn | exact rc hc hn.1 | exact rc hc hn.2 | exact rc hc hn.2.1 | exact rc hc hn.2.2 | exact rc hc hn.2.2.1 | exact rc hc hn.2.2.2)
        subst ex
        obtain ⟨ahPU, nhPU, chPU, ahPD, nhPD, chPD, ex, hPU, hPD⟩ := f6.out (by first | (simp [hn]; done) | exact rc hc hn | exact rc hc hn.1 | exact rc hc hn.2 | exact rc hc hn.2.1 | exact rc hc hn.2.2 | exact rc hc hn.2.2.1 | exact rc hc hn.2.2.2)
        subst ex
        have ex : y40 = .tuple #[.agg #[.bool (neg (P).num), .slice ahPU nhPU chPU, .slice ahPD nhPD chPD], .int .i64 0] := f7.out (by first | (simp [hn]; done) | exact rc hc hn | exact rc hc hn.1 | exact rc hc hn.2 | exact rc hc hn.2.1 | exact rc hc hn.2.2 | exact rc hc hn.2.2.1 | exact rc hc hn.2.2.2)
        subst ex
        have ex : y48 = .agg #[.bool (neg (P).num), .slice ahPU nhPU chPU, .slice ahPD nhPD chPD] := f8.out (by first | (simp [hn]; done) | exact rc hc hn | exact rc hc hn.1 | exact rc hc hn.2 | exact rc hc hn.2.1 | exact rc hc hn.2.2 | exact rc hc hn.2.2.1 | exact rc hc hn.2.2.2)
        subst ex
        have hd10 : dd 10 = true := by simp [hn]
        have hv8 : dd 8 = true := by simp [hn]
        obtain ⟨x1, x2, x3⟩ := hX.at_ (10, 3) (by simp) hd10
        obtain ⟨v0, v1, v2, z0, z1, z2, z3, z4, z5, _, _, _⟩ := x3.three
        have hv : ∀ v ∈ ([.bool (neg (P).num), .slice ahPU nhPU chPU, .slice ahPD nhPD chPD] : List Value), notU v := by simp [notU_bool, notU_slice, notU_i64]
        subst ea
        simp only [puts, Act.put, lsA, lsZ, lsS]
        go_simp
        refine hK.out _ _ ?_
        exact ⟨blk, y41, y42, y43, y44, y45, y46, .tuple #[.agg #[.bool (neg (P).num), .slice ahPU nhPU chPU, .slice ahPD nhPD chPD], .int .i64 0], .tuple #[.agg #[.bool (neg (P).num), .slice ahPU nhPU chPU, .slice ahPD nhPD chPD], .int .i64 0], .agg #[.bool (neg (P).num), .slice ahPU nhPU chPU, .slice ahPD nhPD chPD], y49, .pointer (some ⟨blk 10, 0, none⟩), y14, by simp only [puts, Act.put, lsA, lsZ, lsS], hb.trans (below_setCells _ _ x1 [.bool (neg (P).num), .slice ahPU nhPU chPU, .slice ahPD nhPD chPD] 0 _), (hX.sets [.bool (neg (P).num), .slice ahPU nhPU chPU, .slice ahPD nhPD chPD] _ 0 _ hv).same 11 rfl, uo f0 rfl, uo f1 rfl, uo f2 rfl, uo f3 rfl, uo f4 rfl, uo f5 rfl, fun h => ((f6.out (upd_of rfl h)).sets [.bool (neg (P).num), .slice ahPU nhPU chPU, .slice ahPD nhPD chPD] x3 (by simp) hv), fun h => rfl, fun h => rfl, uo f9 rfl, fun h => rfl, fun _ => (HoldsV.new hd10 hv8 x2 x3 [.bool (neg (P).num), .slice ahPU nhPU chPU, .slice ahPD nhPD chPD] (by simp)).same 11, uo f12 rfl, trivial⟩
      · intro dd aa ww K hc hun hn hI hK
        obtain ⟨blk, y41, y42, y43, y44, y45, y46, y47, y40, y48, y49, y13, y14, ea, hb, hX, f0, f1, f2, f3, f4, f5, f6, f7, f8, f9, f10, f11, f12, _⟩ := hI
        try simp [Region.binds] at hn
        obtain ⟨ahPU, nhPU, chPU, ahPD, nhPD, chPD, ex, hPU, hPD⟩ := f6.out (by first | (simp [hn]; done) | exact rc hc hn | exact rc hc hn.1 | exact rc hc hn.2 | exact rc hc hn.2.1 | exact rc hc hn.2.2 | exact rc hc hn.2.2.1 | exact rc hc hn.2.2.2)
        subst ex
        have ex : y40 = .tuple #[.agg #[.bool (neg (P).num), .slice ahPU nhPU chPU, .slice ahPD nhPD chPD], .int .i64 0] := f7.out (by first | (simp [hn]; done) | exact rc hc hn | exact rc hc hn.1 | exact rc hc hn.2 | exact rc hc hn.2.1 | exact rc hc hn.2.2 | exact rc hc hn.2.2.1 | exact rc hc hn.2.2.2)
        subst ex
        have ex : y49 = .int .i64 0 := f9.out (by first | (simp [hn]; done) | exact rc hc hn | exact rc hc hn.1 | exact rc hc hn.2 | exact rc hc hn.2.1 | exact rc hc hn.2.2 | exact rc hc hn.2.2.1 | exact rc hc hn.2.2.2)
        subst ex
        subst ea
        simp only [puts, Act.put, lsA, lsZ, lsS]
        go_simp
        refine hK.out _ _ ?_
        exact ⟨blk, y41, y42, y43, y44, y45, y46, .tuple #[.agg #[.bool (neg (P).num), .slice ahPU nhPU chPU, .slice ahPD nhPD chPD], .int .i64 0], .tuple #[.agg #[.bool (neg (P).num), .slice ahPU nhPU chPU, .slice ahPD nhPD chPD], .int .i64 0], y48, .int .i64 0, y13, .int .i64 0, by simp only [puts, Act.put, lsA, lsZ, lsS], hb, hX.same 12 rfl, uo f0 rfl, uo f1 rfl, uo f2 rfl, uo f3 rfl, uo f4 rfl, uo f5 rfl, uo f6 rfl, fun h => rfl, uo f8 rfl, fun h => rfl, uo f10 rfl, fun h => (f11.out (upd_of rfl h)).same 12, fun _ => rfl, trivial⟩
    intro dd aa w5 hd hI
    obtain ⟨blk, y41, y42, y43, y44, y45, y46, y47, y40, y48, y49, y13, y14, ea, hb, hX, f0, f1, f2, f3, f4, f5, f6, f7, f8, f9, f10, f11, f12, _⟩ := hI
    have ex := f0.out (hd 0 (by simp))
    subst ex
    have ex := f1.out (hd 1 (by simp))
    subst ex
    have ex := f2.out (hd 2 (by simp))
    subst ex
    have ex := f3.out (hd 3 (by simp))
    subst ex
    have ex := f4.out (hd 4 (by simp))
    subst ex
    have ex := f5.out (hd 5 (by simp))
    subst ex
    obtain ⟨ahPU, nhPU, chPU, ahPD, nhPD, chPD, ex, hPU, hPD⟩ := f6.out (hd 6 (by simp))
    subst ex
    have ex : y40 = .tuple #[.agg #[.bool (neg (P).num), .slice ahPU nhPU chPU, .slice ahPD nhPD chPD], .int .i64 0] := f7.out (hd 7 (by simp))
    subst ex
    have ex : y48 = .agg #[.bool (neg (P).num), .slice ahPU nhPU chPU, .slice ahPD nhPD chPD] := f8.out (hd 8 (by simp))
    subst ex
    have ex : y49 = .int .i64 0 := f9.out (hd 9 (by simp))
    subst ex
    have ex := f10.out (hd 10 (by simp))
    subst ex
    obtain ⟨vs11, e, h11⟩ := f11.out (hd 11 (by simp))
    cases e
    have ex : y14 = .int .i64 0 := f12.out (hd 12 (by simp))
    subst ex
    have lx := h11.lt
    have qx0 := h11.at_ 0 (by simp)
    simp only [lgZ, lgS] at qx0
    have qx1 := h11.at_ 1 (by simp)
    simp only [lgZ, lgS] at qx1
    have qx2 := h11.at_ 2 (by simp)
    simp only [lgZ, lgS] at qx2
    have uxs : bs < blk 10 := Nat.lt_of_lt_of_le ls (hX.at_ (10, 3) (by simp) (hd 10 (by simp))).1
    have uxr : w.heap.size < blk 10 := Nat.lt_of_lt_of_le lr (hX.at_ (10, 3) (by simp) (hd 10 (by simp))).1
    generalize blk 10 = Bx at *
    subst ea
    simp only [puts, Act.put, lsA, lsZ, lsS]
    have hPU := hPU.mono szW
    have hPD := hPD.mono szW
    have g := g.past hb
    have hSU := hSU.past hb
    have hSD := hSD.past hb
    have xs := xs.past hb ls
    obtain ⟨qs0, qs1, qs2, ls⟩ := bq3 hb ls qs0 qs1 qs2
    have xr := xr.past hb lr
    have lr := bl hb lr
    have hB := below_later hB hb
    have hR0 := below_later hR0 hb
    clear hX
    clear hb hd
    go_wp2_with fail
    have szW := hB.size
    refine wp_region_invA (by kernel_rfl) rfl (by kernel_rfl) (fun A0 V0 dd aa ww => ∃ (blk : Nat → Nat) (y51 y52 y53 y54 y55 y56 y57 y58 y59 y50 y60 y61 y15 y16 : Value), aa = puts A0 [(51, y51), (52, y52), (53, y53), (54, y54), (55, y55), (56, y56), (57, y57), (58, y58), (59, y59), (50, y50), (60, y60), (61, y61), (15, y15), (16, y16)] ∧ Below V0.heap.size V0 ww ∧ Boxes [(12, 3)] V0.heap.size dd blk ww ∧ Shut (dd 0 = true → y51 = .agg #[.bool (neg (P).num), .slice ahPU nhPU chPU, .slice ahPD nhPD chPD]) ∧ Shut (dd 1 = true → y52 = .int .i64 (k : Int)) ∧ Shut (dd 2 = true → y53 = .int .i64 (u : Int)) ∧ Shut (dd 3 = true → y54 = .int .i64 (j : Int)) ∧ Shut (dd 4 = true → y55 = .int .i64 (m : Int)) ∧ Shut (dd 5 = true → y56 = .int .i64 (D : Int)) ∧ Shut (dd 6 = true → RatV V0.heap.size (M) y57 ww) ∧ Shut (dd 7 = true → dd 8 = false → LstV V0.heap.size 2 ([y51, y57].flatMap cellsOf) y58 ww) ∧ Shut (dd 8 = true → OkV V0.heap.size (X) y59 ww) ∧ Shut (dd 9 = true → y50 = y59) ∧ Shut (dd 10 = true → y60 = part 0 y50) ∧ Shut (dd 11 = true → y61 = part 1 y50) ∧ Shut (dd 12 = true → y15 = .pointer (some ⟨blk 12, 0, none⟩)) ∧ Shut (dd 13 = true → HoldsV dd 12 10 (blk 12) y60 ww) ∧ Shut (dd 14 = true → y16 = y61) ∧ True) ?_ ?_ ?_
    · exact ⟨fun _ => 0, _, _, _, _, _, _, _, _, _, _, _, _, _, _, puts_self _ [51, 52, 53, 54, 55, 56, 57, 58, 59, 50, 60, 61, 15, 16], (Below.refl _ _).drew, Boxes.none _ _ _ _, fun h => (by cases h), fun h => (by cases h), fun h => (by cases h), fun h => (by cases h), fun h => (by cases h), fun h => (by cases h), fun h => (by cases h), fun h => (by cases h), fun h => (by cases h), fun h => (by cases h), fun h => (by cases h), fun h => (by cases h), fun h => (by cases h), fun h => (by cases h), fun h => (by cases h), trivial⟩
    · refine Steps.cons ?_ (Steps.cons ?_ (Steps.cons ?_ (Steps.cons ?_ (Steps.cons ?_ (Steps.cons ?_ (Steps.cons ?_ (Steps.cons ?_ (Steps.cons ?_ (Steps.cons ?_ (Steps.cons ?_ (Steps.cons ?_ (Steps.cons ?_ (Steps.cons ?_ (Steps.cons ?_ (Steps.nil)))))))))))))))
      · intro dd aa ww K hc hun hn hI hK
        obtain ⟨blk, y51, y52, y53, y54, y55, y56, y57, y58, y59, y50, y60, y61, y15, y16, ea, hb, hX, f0, f1, f2, f3, f4, f5, f6, f7, f8, f9, f10, f11, f12, f13, f14, _⟩ := hI
        try simp [Region.binds] at hn
        have e0 := (hb.cell (p := ⟨Bx, 0, none⟩) lx).trans qx0
        have e1 := (hb.cell (p := ⟨Bx, 1, none⟩) lx).trans qx1
        have e2 := (hb.cell (p := ⟨Bx, 2, none⟩) lx).trans qx2
        subst ea
        simp only [puts, Act.put, lsA, lsZ, lsS]
        go_simp
        refine hK.out _ _ ?_
        exact ⟨blk, .agg #[.bool (neg (P).num), .slice ahPU nhPU chPU, .slice ahPD nhPD chPD], y52, y53, y54, y55, y56, y57, y58, y59, y50, y60, y61, y15, y16, by simp only [puts, Act.put, lsA, lsZ, lsS], hb, hX.same 0 rfl, fun _ => rfl, uo f1 rfl, uo f2 rfl, uo f3 rfl, uo f4 rfl, uo f5 rfl, uo f6 rfl, fun h => absurd (hc.reach (f := 8) (s := 7) (l := 0) (by kernel_rfl) (upd_of rfl h)) (by rw [hun]; decide), uo f8 rfl, uo f9 rfl, uo f10 rfl, uo f11 rfl, uo f12 rfl, fun h => (f13.out (upd_of rfl h)).same 0, uo f14 rfl, trivial⟩
      · intro dd aa ww K hc hun hn hI hK
        obtain ⟨blk, y51, y52, y53, y54, y55, y56, y57, y58, y59, y50, y60, y61, y15, y16, ea, hb, hX, f0, f1, f2, f3, f4, f5, f6, f7, f8, f9, f10, f11, f12, f13, f14, _⟩ := hI
        try simp [Region.binds] at hn
        subst ea
        simp only [puts, Act.put, lsA, lsZ, lsS]
        go_simp
        refine hK.out _ _ ?_
        exact ⟨blk, y51, .int .i64 (k : Int), y53, y54, y55, y56, y57, y58, y59, y50, y60, y61, y15, y16, by simp only [puts, Act.put, lsA, lsZ, lsS], hb, hX.same 1 rfl, uo f0 rfl, fun _ => rfl, uo f2 rfl, uo f3 rfl, uo f4 rfl, uo f5 rfl, uo f6 rfl, fun h h2 => ((f7.out (upd_of rfl h)) (upd_off h2)), uo f8 rfl, uo f9 rfl, uo f10 rfl, uo f11 rfl, uo f12 rfl, fun h => (f13.out (upd_of rfl h)).same 1, uo f14 rfl, trivial⟩
      · intro dd aa ww K hc hun hn hI hK
        obtain ⟨blk, y51, y52, y53, y54, y55, y56, y57, y58, y59, y50, y60, y61, y15, y16, ea, hb, hX, f0, f1, f2, f3, f4, f5, f6, f7, f8, f9, f10, f11, f12, f13, f14, _⟩ := hI
        try simp [Region.binds] at hn
        subst ea
        simp only [puts, Act.put, lsA, lsZ, lsS]
        go_simp
        refine hK.out _ _ ?_
        exact ⟨blk, y51, y52, .int .i64 (u : Int), y54, y55, y56, y57, y58, y59, y50, y60, y61, y15, y16, by simp only [puts, Act.put, lsA, lsZ, lsS], hb, hX.same 2 rfl, uo f0 rfl, uo f1 rfl, fun _ => rfl, uo f3 rfl, uo f4 rfl, uo f5 rfl, uo f6 rfl, fun h h2 => ((f7.out (upd_of rfl h)) (upd_off h2)), uo f8 rfl, uo f9 rfl, uo f10 rfl, uo f11 rfl, uo f12 rfl, fun h => (f13.out (upd_of rfl h)).same 2, uo f14 rfl, trivial⟩
      · intro dd aa ww K hc hun hn hI hK
        obtain ⟨blk, y51, y52, y53, y54, y55, y56, y57, y58, y59, y50, y60, y61, y15, y16, ea, hb, hX, f0, f1, f2, f3, f4, f5, f6, f7, f8, f9, f10, f11, f12, f13, f14, _⟩ := hI
        try simp [Region.binds] at hn
        subst ea
        simp only [puts, Act.put, lsA, lsZ, lsS]
        go_simp
        refine hK.out _ _ ?_
        exact ⟨blk, y51, y52, y53, .int .i64 (j : Int), y55, y56, y57, y58, y59, y50, y60, y61, y15, y16, by simp only [puts, Act.put, lsA, lsZ, lsS], hb, hX.same 3 rfl, uo f0 rfl, uo f1 rfl, uo f2 rfl, fun _ => rfl, uo f4 rfl, uo f5 rfl, uo f6 rfl, fun h h2 => ((f7.out (upd_of rfl h)) (upd_off h2)), uo f8 rfl, uo f9 rfl, uo f10 rfl, uo f11 rfl, uo f12 rfl, fun h => (f13.out (upd_of rfl h)).same 3, uo f14 rfl, trivial⟩
      · intro dd aa ww K hc hun hn hI hK
        obtain ⟨blk, y51, y52, y53, y54, y55, y56, y57, y58, y59, y50, y60, y61, y15, y16, ea, hb, hX, f0, f1, f2, f3, f4, f5, f6, f7, f8, f9, f10, f11, f12, f13, f14, _⟩ := hI
        try simp [Region.binds] at hn
        subst ea
        simp only [puts, Act.put, lsA, lsZ, lsS]
        go_simp
        refine hK.out _ _ ?_
        exact ⟨blk, y51, y52, y53, y54, .int .i64 (m : Int), y56, y57, y58, y59, y50, y60, y61, y15, y16, by simp only [puts, Act.put, lsA, lsZ, lsS], hb, hX.same 4 rfl, uo f0 rfl, uo f1 rfl, uo f2 rfl, uo f3 rfl, fun _ => rfl, uo f5 rfl, uo f6 rfl, fun h h2 => ((f7.out (upd_of rfl h)) (upd_off h2)), uo f8 rfl, uo f9 rfl, uo f10 rfl, uo f11 rfl, uo f12 rfl, fun h => (f13.out (upd_of rfl h)).same 4, uo f14 rfl, trivial⟩
      · intro dd aa ww K hc hun hn hI hK
        obtain ⟨blk, y51, y52, y53, y54, y55, y56, y57, y58, y59, y50, y60, y61, y15, y16, ea, hb, hX, f0, f1, f2, f3, f4, f5, f6, f7, f8, f9, f10, f11, f12, f13, f14, _⟩ := hI
        try simp [Region.binds] at hn
        have ex := f4.out (by first | (simp [hn]; done) | exact rc hc hn | exact rc hc hn.1 | exact rc hc hn.2 | exact rc hc hn.2.1 | exact rc hc hn.2.2 | exact rc hc hn.2.2.1 | exact rc hc hn.2.2.2)
        subst ex
        subst ea
        simp only [puts, Act.put, lsA, lsZ, lsS]
        go_simp
        rw [HTD.out]
        refine hK.out _ _ ?_
        exact ⟨blk, y51, y52, y53, y54, .int .i64 (m : Int), .int .i64 (D : Int), y57, y58, y59, y50, y60, y61, y15, y16, by simp only [puts, Act.put, lsA, lsZ, lsS], hb, hX.same 5 rfl, uo f0 rfl, uo f1 rfl, uo f2 rfl, uo f3 rfl, fun h => rfl, fun _ => rfl, uo f6 rfl, fun h h2 => ((f7.out (upd_of rfl h)) (upd_off h2)), uo f8 rfl, uo f9 rfl, uo f10 rfl, uo f11 rfl, uo f12 rfl, fun h => (f13.out (upd_of rfl h)).same 5, uo f14 rfl, trivial⟩
      · intro dd aa ww K hc hun hn hI hK
        obtain ⟨blk, y51, y52, y53, y54, y55, y56, y57, y58, y59, y50, y60, y61, y15, y16, ea, hb, hX, f0, f1, f2, f3, f4, f5, f6, f7, f8, f9, f10, f11, f12, f13, f14, _⟩ := hI
        try simp [Region.binds] at hn
        have ex := f1.out (by first | (simp [hn]; done) | exact rc hc hn | exact rc hc hn.1 | exact rc hc hn.2 | exact rc hc hn.2.1 | exact rc hc hn.2.2 | exact rc hc hn.2.2.1 | exact rc hc hn.2.2.2)
        subst ex
        have ex := f2.out (by first | (simp [hn]; done) | exact rc hc hn | exact rc hc hn.1 | exact rc hc hn.2 | exact rc hc hn.2.1 | exact rc hc hn.2.2 | exact rc hc hn.2.2.1 | exact rc hc hn.2.2.2)
        subst ex
        have ex := f3.out (by first | (simp [hn]; done) | exact rc hc hn | exact rc hc hn.1 | exact rc hc hn.2 | exact rc hc hn.2.1 | exact rc hc hn.2.2 | exact rc hc hn.2.2.1 | exact rc hc hn.2.2.2)
        subst ex
        have ex := f5.out (by first | (simp [hn]; done) | exact rc hc hn | exact rc hc hn.1 | exact rc hc hn.2 | exact rc hc hn.2.1 | exact rc hc hn.2.2 | exact rc hc hn.2.2.1 | exact rc hc hn.2.2.2)
        subst ex
        subst ea
        simp only [puts, Act.put, lsA, lsZ, lsS]
        go_simp
        with_reducible refine (HMT.out _).mono ?_
        rintro e w1 ⟨ahMU, nhMU, chMU, ahMD, nhMD, chMD, rfl, hMU, hMD, h1⟩
        refine hK.out _ _ ?_
        exact ⟨blk, y51, .int .i64 (k : Int), .int .i64 (u : Int), .int .i64 (j : Int), y55, .int .i64 (D : Int), .agg #[.bool (neg (M).num), .slice ahMU nhMU chMU, .slice ahMD nhMD chMD], y58, y59, y50, y60, y61, y15, y16, by simp only [puts, Act.put, lsA, lsZ, lsS], below_later hb h1, hX.past h1 6 rfl, uo f0 rfl, fun h => rfl, fun h => rfl, fun h => rfl, uo f4 rfl, fun h => rfl, fun _ => ⟨_, _, _, _, _, _, rfl, hMU.mono hb.size, hMD.mono hb.size⟩, fun h => absurd (hc.reach (f := 8) (s := 7) (l := 6) (by kernel_rfl) (upd_of rfl h)) (by rw [hun]; decide), fun h => (f8.out (upd_of rfl h)).past h1, uo f9 rfl, uo f10 rfl, uo f11 rfl, uo f12 rfl, fun h => (f13.out (upd_of rfl h)).past h1 6, uo f14 rfl, trivial⟩
      · intro dd aa ww K hc hun hn hI hK
        obtain ⟨blk, y51, y52, y53, y54, y55, y56, y57, y58, y59, y50, y60, y61, y15, y16, ea, hb, hX, f0, f1, f2, f3, f4, f5, f6, f7, f8, f9, f10, f11, f12, f13, f14, _⟩ := hI
        try simp [Region.binds] at hn
        have ex := f0.out (by first | (simp [hn]; done) | exact rc hc hn | exact rc hc hn.1 | exact rc hc hn.2 | exact rc hc hn.2.1 | exact rc hc hn.2.2 | exact rc hc hn.2.2.1 | exact rc hc hn.2.2.2)
        subst ex
        obtain ⟨ahMU, nhMU, chMU, ahMD, nhMD, chMD, ex, hMU, hMD⟩ := f6.out (by first | (simp [hn]; done) | exact rc hc hn | exact rc hc hn.1 | exact rc hc hn.2 | exact rc hc hn.2.1 | exact rc hc hn.2.2 | exact rc hc hn.2.2.1 | exact rc hc hn.2.2.2)
        subst ex
        subst ea
        simp only [puts, Act.put, lsA, lsZ, lsS]
        go_simp
        refine hK.out _ _ ?_
        exact ⟨blk, .agg #[.bool (neg (P).num), .slice ahPU nhPU chPU, .slice ahPD nhPD chPD], y52, y53, y54, y55, y56, .agg #[.bool (neg (M).num), .slice ahMU nhMU chMU, .slice ahMD nhMD chMD], .slice (some ⟨ww.heap.size, 0, none⟩) 2 2, y59, y50, y60, y61, y15, y16, by simp only [puts, Act.put, lsA, lsZ, lsS], below_alloc hb _, hX.past ((Below.refl _ _).alloc (Nat.le_refl _) _) 7 rfl, fun h => rfl, uo f1 rfl, uo f2 rfl, uo f3 rfl, uo f4 rfl, uo f5 rfl, fun h => (f6.out (upd_of rfl h)).past ((Below.refl _ _).alloc (Nat.le_refl _) _), fun _ _ => LstV.new hb.size _ _, fun h => (f8.out (upd_of rfl h)).past ((Below.refl _ _).alloc (Nat.le_refl _) _), uo f9 rfl, uo f10 rfl, uo f11 rfl, uo f12 rfl, fun h => (f13.out (upd_of rfl h)).past ((Below.refl _ _).alloc (Nat.le_refl _) _) 7, uo f14 rfl, trivial⟩
      · intro dd aa ww K hc hun hn hI hK
        obtain ⟨blk, y51, y52, y53, y54, y55, y56, y57, y58, y59, y50, y60, y61, y15, y16, ea, hb, hX, f0, f1, f2, f3, f4, f5, f6, f7, f8, f9, f10, f11, f12, f13, f14, _⟩ := hI
        try simp [Region.binds] at hn
        have ex := f0.out (by first | (simp [hn]; done) | exact rc hc hn | exact rc hc hn.1 | exact rc hc hn.2 | exact rc hc hn.2.1 | exact rc hc hn.2.2 | exact rc hc hn.2.2.1 | exact rc hc hn.2.2.2)
        subst ex
        obtain ⟨ahMU, nhMU, chMU, ahMD, nhMD, chMD, ex, hMU, hMD⟩ := f6.out (by first | (simp [hn]; done) | exact rc hc hn | exact rc hc hn.1 | exact rc hc hn.2 | exact rc hc hn.2.1 | exact rc hc hn.2.2 | exact rc hc hn.2.2.1 | exact rc hc hn.2.2.2)
        subst ex
        obtain ⟨G7, ex, hg1, hg2, hg3⟩ := f7.out (by first | (simp [hn]; done) | exact rc hc hn | exact rc hc hn.1 | exact rc hc hn.2 | exact rc hc hn.2.1 | exact rc hc hn.2.2 | exact rc hc hn.2.2.1 | exact rc hc hn.2.2.2) hun
        subst ex
        have z0 := hg3 0 (by simp [cellsOf])
        have z1 := hg3 1 (by simp [cellsOf])
        have z2 := hg3 2 (by simp [cellsOf])
        have z3 := hg3 3 (by simp [cellsOf])
        have z4 := hg3 4 (by simp [cellsOf])
        have z5 := hg3 5 (by simp [cellsOf])
        simp only [List.flatMap_cons, List.flatMap_nil, cellsOf, List.cons_append, List.nil_append, List.append_nil, lgZ, lgS] at z0 z1 z2 z3 z4 z5
        subst ea
        simp only [puts, Act.put, lsA, lsZ, lsS]
        go_simp
        with_reducible refine (rmul_two (RatsAt.two hg2 z0 z1 z2 z3 z4 z5 (hPU.past hb).toNatAt (hPD.past hb).toNatAt hMU.toNatAt hMD.toNatAt) LP.out LM.out).mono ?_
        rintro e w1 ⟨ahXU, nhXU, chXU, ahXD, nhXD, chXD, rfl, hXU, hXD, h1⟩
        rw [HX.out] at hXU hXD ⊢
        refine hK.out _ _ ?_
        exact ⟨blk, .agg #[.bool (neg (P).num), .slice ahPU nhPU chPU, .slice ahPD nhPD chPD], y52, y53, y54, y55, y56, .agg #[.bool (neg (M).num), .slice ahMU nhMU chMU, .slice ahMD nhMD chMD], .slice (some ⟨G7, 0, none⟩) 2 2, .tuple #[.agg #[.bool (neg (X).num), .slice ahXU nhXU chXU, .slice ahXD nhXD chXD], .int .i64 0], y50, y60, y61, y15, y16, by simp only [puts, Act.put, lsA, lsZ, lsS], below_later hb h1, hX.past h1 8 rfl, fun h => rfl, uo f1 rfl, uo f2 rfl, uo f3 rfl, uo f4 rfl, uo f5 rfl, fun h => (f6.out (upd_of rfl h)).past h1, fun _ h2 => absurd h2 (by simp [upd]), fun _ => ⟨_, _, _, _, _, _, rfl, hXU.mono hb.size, hXD.mono hb.size⟩, fun h => absurd (hc.reach (f := 8) (s := 9) (l := 8) (by kernel_rfl) (upd_of rfl h)) (by rw [hun]; decide), uo f10 rfl, uo f11 rfl, uo f12 rfl, fun h => (f13.out (upd_of rfl h)).past h1 8, uo f14 rfl, trivial⟩
      · intro dd aa ww K hc hun hn hI hK
        obtain ⟨blk, y51, y52, y53, y54, y55, y56, y57, y58, y59, y50, y60, y61, y15, y16, ea, hb, hX, f0, f1, f2, f3, f4, f5, f6, f7, f8, f9, f10, f11, f12, f13, f14, _⟩ := hI
        try simp [Region.binds] at hn
        obtain ⟨ahXU, nhXU, chXU, ahXD, nhXD, chXD, ex, hXU, hXD⟩ := f8.out (by first | (simp [hn]; done) | exact rc hc hn | exact rc hc hn.1 | exact rc hc hn.2 | exact rc hc hn.2.1 | exact rc hc hn.2.2 | exact rc hc hn.2.2.1 | exact rc hc hn.2.2.2)
        subst ex
        subst ea
        simp only [puts, Act.put, lsA, lsZ, lsS]
        go_simp
        refine hK.out _ _ ?_
        exact ⟨blk, y51, y52, y53, y54, y55, y56, y57, y58, .tuple #[.agg #[.bool (neg (X).num), .slice ahXU nhXU chXU, .slice ahXD nhXD chXD], .int .i64 0], .tuple #[.agg #[.bool (neg (X).num), .slice ahXU nhXU chXU, .slice ahXD nhXD chXD], .int .i64 0], y60, y61, y15, y16, by simp only [puts, Act.put, lsA, lsZ, lsS], hb, hX.same 9 rfl, uo f0 rfl, uo f1 rfl, uo f2 rfl, uo f3 rfl, uo f4 rfl, uo f5 rfl, uo f6 rfl, fun _ h2 => absurd (show dd 8 = true from (by first | (simp [hn]; done) | exact rc hc hn | exact rc hc hn.1 | exact rc hc hn.2 | exact rc hc hn.2.1 | exact rc hc hn.2.2 | exact rc hc hn.2.2.1 | exact rc hc hn.2.2.2)) (by rw [upd_off h2]; decide), uo f8 rfl, fun _ => rfl, fun h => absurd (hc.reach (f := 8) (s := 10) (l := 9) (by kernel_rfl) (upd_of rfl h)) (by rw [hun]; decide), fun h => absurd (hc.reach (f := 8) (s := 11) (l := 9) (by kernel_rfl) (upd_of rfl h)) (by rw [hun]; decide), uo f12 rfl, fun h => (f13.out (upd_of rfl h)).same 9, uo f14 rfl, trivial⟩
      · intro dd aa ww K hc hun hn hI hK
        obtain ⟨blk, y51, y52, y53, y54, y55, y56, y57, y58, y59, y50, y60, y61, y15, y16, ea, hb, hX, f0, f1, f2, f3, f4, f5, f6, f7, f8, f9, f10, f11, f12, f13, f14, _⟩ := hI
        try simp [Region.binds] at hn
        obtain ⟨ahXU, nhXU, chXU, ahXD, nhXD, chXD, ex, hXU, hXD⟩ := f8.out (by first | (simp [hn]; done) | exact rc hc hn | exact rc hc hn.1 | exact rc hc hn.2 | exact rc hc hn.2.1 | exact rc hc hn.2.2 | exact rc hc hn.2.2.1 | exact rc hc hn.2.2.2)
        subst ex
        have ex : y50 = .tuple #[.agg #[.bool (neg (X).num), .slice ahXU nhXU chXU, .slice ahXD nhXD chXD], .int .i64 0] := f9.out (by first | (simp [hn]; done) | exact rc hc hn | exact rc hc hn.1 | exact rc hc hn.2 | exact rc hc hn.2.1 | exact rc hc hn.2.2 | exact rc hc hn.2.2.1 | exact rc hc hn.2.2.2)
        subst ex
        subst ea
        simp only [puts, Act.put, lsA, lsZ, lsS]
        go_simp
        refine hK.out _ _ ?_
        exact ⟨blk, y51, y52, y53, y54, y55, y56, y57, y58, .tuple #[.agg #[.bool (neg (X).num), .slice ahXU nhXU chXU, .slice ahXD nhXD chXD], .int .i64 0], .tuple #[.agg #[.bool (neg (X).num), .slice ahXU nhXU chXU, .slice ahXD nhXD chXD], .int .i64 0], .agg #[.bool (neg (X).num), .slice ahXU nhXU chXU, .slice ahXD nhXD chXD], y61, y15, y16, by simp only [puts, Act.put, lsA, lsZ, lsS], hb, hX.same 10 rfl, uo f0 rfl, uo f1 rfl, uo f2 rfl, uo f3 rfl, uo f4 rfl, uo f5 rfl, uo f6 rfl, fun _ h2 => absurd (show dd 8 = true from (by first | (simp [hn]; done) | exact rc hc hn | exact rc hc hn.1 | exact rc hc hn.2 | exact rc hc hn.2.1 | exact rc hc hn.2.2 | exact rc hc hn.2.2.1 | exact rc hc hn.2.2.2)) (by rw [upd_off h2]; decide), uo f8 rfl, fun h => rfl, fun _ => rfl, uo f11 rfl, uo f12 rfl, fun h => absurd (HoldsV.vp (f13.out (upd_of rfl h))) (by rw [hun]; decide), uo f14 rfl, trivial⟩
      · intro dd aa ww K hc hun hn hI hK
        obtain ⟨blk, y51, y52, y53, y54, y55, y56, y57, y58, y59, y50, y60, y61, y15, y16, ea, hb, hX, f0, f1, f2, f3, f4, f5, f6, f7, f8, f9, f10, f11, f12, f13, f14, _⟩ := hI
        try simp [Region.binds] at hn
        obtain ⟨ahXU, nhXU, chXU, ahXD, nhXD, chXD, ex, hXU, hXD⟩ := f8.out (by first | (simp [hn]; done) | exact rc hc hn | exact rc hc hn.1 | exact rc hc hn.2 | exact rc hc hn.2.1 | exact rc hc hn.2.2 | exact rc hc hn.2.2.1 | exact rc hc hn.2.2.2)
        subst ex
        have ex : y50 = .tuple #[.agg #[.bool (neg (X).num), .slice ahXU nhXU chXU, .slice ahXD nhXD chXD], .int .i64 0] := f9.out (by first | (simp [hn]; done) | exact rc hc hn | exact rc hc hn.1 | exact rc hc hn.2 | exact rc hc hn.2.1 | exact rc hc hn.2.2 | exact rc hc hn.2.2.1 | exact rc hc hn.2.2.2)
        subst ex
        subst ea
        simp only [puts, Act.put, lsA, lsZ, lsS]
        go_simp
        refine hK.out _ _ ?_
        exact ⟨blk, y51, y52, y53, y54, y55, y56, y57, y58, .tuple #[.agg #[.bool (neg (X).num), .slice ahXU nhXU chXU, .slice ahXD nhXD chXD], .int .i64 0], .tuple #[.agg #[.bool (neg (X).num), .slice ahXU nhXU chXU, .slice ahXD nhXD chXD], .int .i64 0], y60, .int .i64 0, y15, y16, by simp only [puts, Act.put, lsA, lsZ, lsS], hb, hX.same 11 rfl, uo f0 rfl, uo f1 rfl, uo f2 rfl, uo f3 rfl, uo f4 rfl, uo f5 rfl, uo f6 rfl, fun _ h2 => absurd (show dd 8 = true from (by first | (simp [hn]; done) | exact rc hc hn | exact rc hc hn.1 | exact rc hc hn.2 | exact rc hc hn.2.1 | exact rc hc hn.2.2 | exact rc hc hn.2.2.1 | exact rc hc hn.2.2.2)) (by rw [upd_off h2]; decide), uo f8 rfl, fun h => rfl, uo f10 rfl, fun _ => rfl, uo f12 rfl, fun h => (f13.out (upd_of rfl h)).same 11, fun h => absurd (hc.reach (f := 8) (s := 14) (l := 11) (by kernel_rfl) (upd_of rfl h)) (by rw [hun]; decide), trivial⟩
      · intro dd aa ww K hc hun hn hI hK
        obtain ⟨blk, y51, y52, y53, y54, y55, y56, y57, y58, y59, y50, y60, y61, y15, y16, ea, hb, hX, f0, f1, f2, f3, f4, f5, f6, f7, f8, f9, f10, f11, f12, f13, f14, _⟩ := hI
        try simp [Region.binds] at hn
        subst ea
        simp only [puts, Act.put, lsA, lsZ, lsS]
        go_simp
        refine hK.out _ _ ?_
        exact ⟨setB blk 12 ww.heap.size, y51, y52, y53, y54, y55, y56, y57, y58, y59, y50, y60, y61, .pointer (some ⟨ww.heap.size, 0, none⟩), y16, by simp only [puts, Act.put, lsA, lsZ, lsS], below_alloc hb _, hX.new hb.size 12 #[.bool false, .slice none 0 0, .slice none 0 0] _ rfl (by simp [notU_bool, notU_slice, notU_i64]), uo f0 rfl, uo f1 rfl, uo f2 rfl, uo f3 rfl, uo f4 rfl, uo f5 rfl, fun h => (f6.out (upd_of rfl h)).past ((Below.refl _ _).alloc (Nat.le_refl _) _), fun h h2 => ((f7.out (upd_of rfl h)) (upd_off h2)).past ((Below.refl _ _).alloc (Nat.le_refl _) _), fun h => (f8.out (upd_of rfl h)).past ((Below.refl _ _).alloc (Nat.le_refl _) _), uo f9 rfl, uo f10 rfl, uo f11 rfl, fun _ => rfl, fun h => absurd (HoldsV.up (f13.out (upd_of rfl h))) (by rw [hun]; decide), uo f14 rfl, trivial⟩
      · intro dd aa ww K hc hun hn hI hK
        obtain ⟨blk, y51, y52, y53, y54, y55, y56, y57, y58, y59, y50, y60, y61, y15, y16, ea, hb, hX, f0, f1, f2, f3, f4, f5, f6, f7, f8, f9, f10, f11, f12, f13, f14, _⟩ := hI
        try simp [Region.binds] at hn
        have ex := f12.out (by first | (simp [hn]; done) | exact rc hc hn | exact rc hc hn.1 | exact rc hc hn.2 | exact rc hc hn.2.1 | exact rc hc hn.2.2 | exact rc hc hn.2.2.1 | exact rc hc hn.2.2.2)
        subst ex
        obtain ⟨ahXU, nhXU, chXU, ahXD, nhXD, chXD, ex, hXU, hXD⟩ := f8.out (by first | (simp [hn]; done) | exact rc hc hn | exact rc hc hn.1 | exact rc hc hn.2 | exact rc hc hn.2.1 | exact rc hc hn.2.2 | exact rc hc hn.2.2.1 | exact rc hc hn.2.2.2)
        subst ex
        have ex : y50 = .tuple #[.agg #[.bool (neg (X).num), .slice ahXU nhXU chXU, .slice ahXD nhXD chXD], .int .i64 0] := f9.out (by first | (simp [hn]; done) | exact rc hc hn | exact rc hc hn.1 | exact rc hc hn.2 | exact rc hc hn.2.1 | exact rc hc hn.2.2 | exact rc hc hn.2.2.1 | exact rc hc hn.2.2.2)
        subst ex
        have ex : y60 = .agg #[.bool (neg (X).num), .slice ahXU nhXU chXU, .slice ahXD nhXD chXD] := f10.out (by first | (simp [hn]; done) | exact rc hc hn | exact rc hc hn.1 | exact rc hc hn.2 | exact rc hc hn.2.1 | exact rc hc hn.2.2 | exact rc hc hn.2.2.1 | exact rc hc hn.2.2.2)
        subst ex
        have hd12 : dd 12 = true := by simp [hn]
        have hv10 : dd 10 = true := by simp [hn]
        obtain ⟨x1, x2, x3⟩ := hX.at_ (12, 3) (by simp) hd12
        obtain ⟨v0, v1, v2, z0, z1, z2, z3, z4, z5, _, _, _⟩ := x3.three
        have hv : ∀ v ∈ ([.bool (neg (X).num), .slice ahXU nhXU chXU, .slice ahXD nhXD chXD] : List Value), notU v := by simp [notU_bool, notU_slice, notU_i64]
        subst ea
        simp only [puts, Act.put, lsA, lsZ, lsS]
        go_simp
        refine hK.out _ _ ?_
        exact ⟨blk, y51, y52, y53, y54, y55, y56, y57, y58, .tuple #[.agg #[.bool (neg (X).num), .slice ahXU nhXU chXU, .slice ahXD nhXD chXD], .int .i64 0], .tuple #[.agg #[.bool (neg (X).num), .slice ahXU nhXU chXU, .slice ahXD nhXD chXD], .int .i64 0], .agg #[.bool (neg (X).num), .slice ahXU nhXU chXU, .slice ahXD nhXD chXD], y61, .pointer (some ⟨blk 12, 0, none⟩), y16, by simp only [puts, Act.put, lsA, lsZ, lsS], hb.trans (below_setCells _ _ x1 [.bool (neg (X).num), .slice ahXU nhXU chXU, .slice ahXD nhXD chXD] 0 _), (hX.sets [.bool (neg (X).num), .slice ahXU nhXU chXU, .slice ahXD nhXD chXD] _ 0 _ hv).same 13 rfl, uo f0 rfl, uo f1 rfl, uo f2 rfl, uo f3 rfl, uo f4 rfl, uo f5 rfl, fun h => ((f6.out (upd_of rfl h)).sets [.bool (neg (X).num), .slice ahXU nhXU chXU, .slice ahXD nhXD chXD] x3 (by simp) hv), fun _ h2 => absurd (show dd 8 = true from (by first | (simp [hn]; done) | exact rc hc hn | exact rc hc hn.1 | exact rc hc hn.2 | exact rc hc hn.2.1 | exact rc hc hn.2.2 | exact rc hc hn.2.2.1 | exact rc hc hn.2.2.2)) (by rw [upd_off h2]; decide), fun h => ((f8.out (upd_of rfl h)).sets [.bool (neg (X).num), .slice ahXU nhXU chXU, .slice ahXD nhXD chXD] x3 (by simp) hv), fun h => rfl, fun h => rfl, uo f11 rfl, fun h => rfl, fun _ => (HoldsV.new hd12 hv10 x2 x3 [.bool (neg (X).num), .slice ahXU nhXU chXU, .slice ahXD nhXD chXD] (by simp)).same 13, uo f14 rfl, trivial⟩
      · intro dd aa ww K hc hun hn hI hK
        obtain ⟨blk, y51, y52, y53, y54, y55, y56, y57, y58, y59, y50, y60, y61, y15, y16, ea, hb, hX, f0, f1, f2, f3, f4, f5, f6, f7, f8, f9, f10, f11, f12, f13, f14, _⟩ := hI
        try simp [Region.binds] at hn
        obtain ⟨ahXU, nhXU, chXU, ahXD, nhXD, chXD, ex, hXU, hXD⟩ := f8.out (by first | (simp [hn]; done) | exact rc hc hn | exact rc hc hn.1 | exact rc hc hn.2 | exact rc hc hn.2.1 | exact rc hc hn.2.2 | exact rc hc hn.2.2.1 | exact rc hc hn.2.2.2)
        subst ex
        have ex : y50 = .tuple #[.agg #[.bool (neg (X).num), .slice ahXU nhXU chXU, .slice ahXD nhXD chXD], .int .i64 0] := f9.out (by first | (simp [hn]; done) | exact rc hc hn | exact rc hc hn.1 | exact rc hc hn.2 | exact rc hc hn.2.1 | exact rc hc hn.2.2 | exact rc hc hn.2.2.1 | exact rc hc hn.2.2.2)
        subst ex
        have ex : y61 = .int .i64 0 := f11.out (by first | (simp [hn]; done) | exact rc hc hn | exact rc hc hn.1 | exact rc hc hn.2 | exact rc hc hn.2.1 | exact rc hc hn.2.2 | exact rc hc hn.2.2.1 | exact rc hc hn.2.2.2)
        subst ex
        subst ea
        simp only [puts, Act.put, lsA, lsZ, lsS]
        go_simp
        refine hK.out _ _ ?_
        exact ⟨blk, y51, y52, y53, y54, y55, y56, y57, y58, .tuple #[.agg #[.bool (neg (X).num), .slice ahXU nhXU chXU, .slice ahXD nhXD chXD], .int .i64 0], .tuple #[.agg #[.bool (neg (X).num), .slice ahXU nhXU chXU, .slice ahXD nhXD chXD], .int .i64 0], y60, .int .i64 0, y15, .int .i64 0, by simp only [puts, Act.put, lsA, lsZ, lsS], hb, hX.same 14 rfl, uo f0 rfl, uo f1 rfl, uo f2 rfl, uo f3 rfl, uo f4 rfl, uo f5 rfl, uo f6 rfl, fun _ h2 => absurd (show dd 8 = true from (by first | (simp [hn]; done) | exact rc hc hn | exact rc hc hn.1 | exact rc hc hn.2 | exact rc hc hn.2.1 | exact rc hc hn.2.2 | exact rc hc hn.2.2.1 | exact rc hc hn.2.2.2)) (by rw [upd_off h2]; decide), uo f8 rfl, fun h => rfl, uo f10 rfl, fun h => rfl, uo f12 rfl, fun h => (f13.out (upd_of rfl h)).same 14, fun _ => rfl, trivial⟩
    intro dd aa w6 hd hI
    obtain ⟨blk, y51, y52, y53, y54, y55, y56, y57, y58, y59, y50, y60, y61, y15, y16, ea, hb, hX, f0, f1, f2, f3, f4, f5, f6, f7, f8, f9, f10, f11, f12, f13, f14, _⟩ := hI
    have ex := f0.out (hd 0 (by simp))
    subst ex
    have ex := f1.out (hd 1 (by simp))
    subst ex
    have ex := f2.out (hd 2 (by simp))
    subst ex
    have ex := f3.out (hd 3 (by simp))
    subst ex
    have ex := f4.out (hd 4 (by simp))
    subst ex
    have ex := f5.out (hd 5 (by simp))
    subst ex
    obtain ⟨ahMU, nhMU, chMU, ahMD, nhMD, chMD, ex, hMU, hMD⟩ := f6.out (hd 6 (by simp))
    subst ex
    obtain ⟨ahXU, nhXU, chXU, ahXD, nhXD, chXD, ex, hXU, hXD⟩ := f8.out (hd 8 (by simp))
    subst ex
    have ex : y50 = .tuple #[.agg #[.bool (neg (X).num), .slice ahXU nhXU chXU, .slice ahXD nhXD chXD], .int .i64 0] := f9.out (hd 9 (by simp))
    subst ex
    have ex : y60 = .agg #[.bool (neg (X).num), .slice ahXU nhXU chXU, .slice ahXD nhXD chXD] := f10.out (hd 10 (by simp))
    subst ex
    have ex : y61 = .int .i64 0 := f11.out (hd 11 (by simp))
    subst ex
    have ex := f12.out (hd 12 (by simp))
    subst ex
    obtain ⟨vs13, e, h13⟩ := f13.out (hd 13 (by simp))
    cases e
    have ex : y16 = .int .i64 0 := f14.out (hd 14 (by simp))
    subst ex
    have ly := h13.lt
    have qy0 := h13.at_ 0 (by simp)
    simp only [lgZ, lgS] at qy0
    have qy1 := h13.at_ 1 (by simp)
    simp only [lgZ, lgS] at qy1
    have qy2 := h13.at_ 2 (by simp)
    simp only [lgZ, lgS] at qy2
    have uys : bs < blk 12 := Nat.lt_of_lt_of_le ls (hX.at_ (12, 3) (by simp) (hd 12 (by simp))).1
    have uyr : w.heap.size < blk 12 := Nat.lt_of_lt_of_le lr (hX.at_ (12, 3) (by simp) (hd 12 (by simp))).1
    generalize blk 12 = By at *
    subst ea
    simp only [puts, Act.put, lsA, lsZ, lsS]
    have hMU := hMU.mono szW
    have hMD := hMD.mono szW
    have hXU := hXU.mono szW
    have hXD := hXD.mono szW
    have g := g.past hb
    have hSU := hSU.past hb
    have hSD := hSD.past hb
    have hPU := hPU.past hb
    have hPD := hPD.past hb
    have xs := xs.past hb ls
    obtain ⟨qs0, qs1, qs2, ls⟩ := bq3 hb ls qs0 qs1 qs2
    have xr := xr.past hb lr
    have lr := bl hb lr
    obtain ⟨qx0, qx1, qx2, lx⟩ := bq3 hb lx qx0 qx1 qx2
    have hB := below_later hB hb
    have hR0 := below_later hR0 hb
    clear hX
    clear hb hd
    go_wp2_with fail
    obtain ⟨w7, hW, hz0, hb, q, f⟩ := box1g w6 (w6.heap.size) (by omega) #[.bool (neg (S).num), .slice ahSU nhSU chSU, .slice ahSD nhSD chSD, .bool (neg (X).num), .slice ahXU nhXU chXU, .slice ahXD nhXD chXD] 27
    rw [hW]
    clear hW
    have g := g.past hb
    have hSU := hSU.past hb
    have hSD := hSD.past hb
    have hXU := hXU.past hb
    have hXD := hXD.past hb
    have xs := xs.past hb ls
    obtain ⟨qs0, qs1, qs2, ls⟩ := bq3 hb ls qs0 qs1 qs2
    have xr := xr.past hb lr
    have lr := bl hb lr
    obtain ⟨qy0, qy1, qy2, ly⟩ := bq3 hb ly qy0 qy1 qy2
    have hB := below_later hB hb
    have hR0 := below_later hR0 hb
    clear hb
    have lv : w6.heap.size < w7.heap.size := by omega
    have qv0 := q 0; have qv1 := q 1; have qv2 := q 2; have qv3 := q 3; have qv4 := q 4; have qv5 := q 5
    simp only [lgA, lgZ, lgS] at qv0 qv1 qv2 qv3 qv4 qv5
    clear q f
    clear hz0
    with_reducible refine (radd_two (RatsAt.two lv qv0 qv1 qv2 qv3 qv4 qv5 hSU.toNatAt hSD.toNatAt hXU.toNatAt hXD.toNatAt) LS.out LX.out).mono ?_
    rintro e w8 ⟨ahNU, nhNU, chNU, ahND, nhND, chND, rfl, hNU, hND, hb⟩
    have hNU := hNU.mono hB.size
    have hND := hND.mono hB.size
    have g := g.past hb
    have hSU := hSU.past hb
    have hSD := hSD.past hb
    have hXU := hXU.past hb
    have hXD := hXD.past hb
    have xs := xs.past hb ls
    obtain ⟨qs0, qs1, qs2, ls⟩ := bq3 hb ls qs0 qs1 qs2
    have xr := xr.past hb lr
    have lr := bl hb lr
    obtain ⟨qy0, qy1, qy2, ly⟩ := bq3 hb ly qy0 qy1 qy2
    have qv0 := bq hb lv qv0; have qv1 := bq hb lv qv1; have qv2 := bq hb lv qv2; have qv3 := bq hb lv qv3; have qv4 := bq hb lv qv4; have qv5 := bq hb lv qv5
    have lv := bl hb lv
    have hB := below_later hB hb
    have hR0 := below_later hR0 hb
    clear hb
    rw [HSS.out] at hNU hND ⊢
    have zf0 := xs.f 0 (by decide)
    have zf1 := xs.f 1 (by decide)
    have zf2 := xs.f 2 (by decide)
    go_wp2
    have zf0 := xs.f 0 (by decide)
    have zf1 := xs.f 1 (by decide)
    have zf2 := xs.f 2 (by decide)
    obtain ⟨w9, hW, hO, qN0, qN1, qN2, xN⟩ := store3 xs (.bool (neg (S2).num)) (.slice ahNU nhNU chNU) (.slice ahND nhND chND) (nu rfl) (nu rfl) (nu rfl)
    try rw [hW]
    clear hW
    have hNU := hO.own hNU
    have hND := hO.own hND
    have ls : bs < w9.heap.size := by rw [hO.size]; exact ls
    have xr := hO.box xr
    have lr : w.heap.size < w9.heap.size := by rw [hO.size]; exact lr
    have qs0 := qN0
    have qs1 := qN1
    have qs2 := qN2
    have xs := xN
    have hB := hO.below (by omega) hB
    clear hO qN0 qN1 qN2 xN zf0 zf1 zf2
    go_roundw
    case rel => exact ⟨m + 1, by omega, by go_num, ⟨_, _, _, _, _, _, by rw [HD.out, HS2.out]; exact qs0, qs1, qs2, xs, ls, by rw [HD.out, HS2.out]; exact hNU, by rw [HD.out, HS2.out]; exact hND⟩, xr, lr, hB⟩
    case measure => simp [intOf]; omega
  · obtain rfl : m = n := by omega
    have zf0 := xr.f 0 (by decide)
    have zf1 := xr.f 1 (by decide)
    have zf2 := xr.f 2 (by decide)
    go_wp2
    have zf0 := xr.f 0 (by decide)
    have zf1 := xr.f 1 (by decide)
    have zf2 := xr.f 2 (by decide)
    obtain ⟨w5, hW, hO, qN0, qN1, qN2, xN⟩ := store3 xr (.bool (neg (s m).num)) (.slice ahSU nhSU chSU) (.slice ahSD nhSD chSD) (nu rfl) (nu rfl) (nu rfl)
    try rw [hW]
    clear hW
    have hSU := hO.own hSU
    have hSD := hO.own hSD
    have lr : w.heap.size < w5.heap.size := by rw [hO.size]; exact lr
    have qr0 := qN0
    have qr1 := qN1
    have qr2 := qN2
    have xr := xN
    have hB := hO.below (by omega) hB
    clear hO qN0 qN1 qN2 xN zf0 zf1 zf2
    refine bodyPost_ret (v := .tuple #[.agg #[.bool (neg (s m).num), .slice ahSU nhSU chSU, .slice ahSD nhSD chSD], .int .i64 0]) ?_ rfl ⟨_, _, _, _, _, _, rfl, hSU, hSD, hB⟩
    simp [results, Tryz.f26, go_sem, qr0, qr1, qr2]
end Go.Proofs.YtlkoenpdmlbhlaaGreat
