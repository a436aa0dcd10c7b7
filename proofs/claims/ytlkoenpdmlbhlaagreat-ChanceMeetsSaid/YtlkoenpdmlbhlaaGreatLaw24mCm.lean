import Derived.Test.YtlkoenpdmlbhlaaGreatS0Cm
import Derived.Test.YtlkoenpdmlbhlaaGreatLaw24aCm
import Derived.Test.YtlkoenpdmlbhlaaGreatRef24bCm
import Derived.Test.YtlkoenpdmlbhlaaGreatNats3Cm
set_option linter.unusedVariables false
set_option linter.unusedSimpArgs false
namespace Go.Proofs.YtlkoenpdmlbhlaaGreat
open Go.RowKit
theorem RetNone.ans {w : World} {X : Int} {e : Ending} {w' : World} (h : RetNone w X e w') : RetAns w (.error X) e w' := ⟨none, 0, 0, none, 0, 0, h.1, OwnAt.nil _ _, OwnAt.nil _ _, h.2⟩
theorem refA_zero {zs : List Int} {k u : Int} (h : refA zs k u = 0) : 1 ≤ k ∧ k ≤ 1024 ∧ 0 ≤ u ∧ u ≤ k ∧ okT zs k := by
 unfold refA at h
 split at h
 · rename_i h1
   exact ⟨h1.1, h1.2.1, h1.2.2.1, h1.2.2.2, chkT_iff.1 h⟩
 · cases h
def ansIn (zs : List Int) (k u j : Int) : Ans := if refA zs k u = 0 then (if 0 ≤ j ∧ j ≤ u then .ok (inR24 zs k.toNat u.toNat j.toNat) else .error 3) else .error (refA zs k u)
def ansCloud (zs : List Int) (k u : Int) : Ans := if refA zs k u = 0 then .ok (cloudR zs k.toNat u.toNat) else .error (refA zs k u)
def ansFree (zs : List Int) (k u : Int) : Ans := if refA zs k u = 0 then (if u = 0 then .error 3 else if cloudR zs k.toNat u.toNat = 0 then .ok 0 else .ok (freeR zs k.toNat u.toNat)) else .error (refA zs k u)
theorem In_ans (a : Option Addr) (n c : Nat) (zs : List Int) (k u j : Int) (w : World) (g : IntsAt w a n c zs) (hL : k ≤ 20 ∨ 1024 < k) : Calls Tryz.prog 25 #[.slice a n c, .int .i64 k, .int .i64 u, .int .i64 j] w (RetAns w (ansIn zs k u j)) := by
 unfold ansIn
 by_cases h : refA zs k u = 0
 · rw [if_pos h]
   obtain ⟨h1, h2, h3, h4, h5⟩ := refA_zero h
   by_cases hj : 0 ≤ j ∧ j ≤ u
   · rw [if_pos hj]
     obtain ⟨K, rfl⟩ : ∃ K : Nat, k = K := ⟨k.toNat, by omega⟩
     obtain ⟨U, rfl⟩ : ∃ U : Nat, u = U := ⟨u.toNat, by omega⟩
     obtain ⟨J, rfl⟩ : ∃ J : Nat, j = J := ⟨j.toNat, by omega⟩
     exact (In_ok a n c zs K U J w g h5 (by omega) (by omega) (by omega) (by omega)).mono fun _ _ h => h
   · rw [if_neg hj]
     by_cases h0 : j < 0
     · exact (In_low a n c zs k u j w g h h0).mono fun _ _ h => h.ans
     · exact (In_high a n c zs k u j w g h h0 (by omega)).mono fun _ _ h => h.ans
 · rw [if_neg h]
   exact (In_ref a n c zs k u j w g _ rfl h).mono fun _ _ h => h.ans
theorem Cloud_ans (a : Option Addr) (n c : Nat) (zs : List Int) (k u : Int) (w : World) (g : IntsAt w a n c zs) (hL : k ≤ 20 ∨ 1024 < k) : Calls Tryz.prog 20 #[.slice a n c, .int .i64 k, .int .i64 u] w (RetAns w (ansCloud zs k u)) := by
 unfold ansCloud
 by_cases h : refA zs k u = 0
 · rw [if_pos h]
   obtain ⟨h1, h2, h3, h4, h5⟩ := refA_zero h
   obtain ⟨K, rfl⟩ : ∃ K : Nat, k = K := ⟨k.toNat, by omega⟩
   obtain ⟨U, rfl⟩ : ∃ U : Nat, u = U := ⟨u.toNat, by omega⟩
   exact (Cloud_ok a n c zs K U w g h5 (by omega) (by omega) (by omega)).mono fun _ _ h => h
 · rw [if_neg h]
   exact (Cloud_ref a n c zs k u w g _ rfl h).mono fun _ _ h => h.ans
theorem Free_ans (a : Option Addr) (n c : Nat) (zs : List Int) (k u : Int) (w : World) (g : IntsAt w a n c zs) (hL : k ≤ 20 ∨ 1024 < k) : Calls Tryz.prog 22 #[.slice a n c, .int .i64 k, .int .i64 u] w (RetAns w (ansFree zs k u)) := by
 unfold ansFree
 by_cases h : refA zs k u = 0
 · rw [if_pos h]
   obtain ⟨h1, h2, h3, h4, h5⟩ := refA_zero h
   obtain ⟨K, rfl⟩ : ∃ K : Nat, k = K := ⟨k.toNat, by omega⟩
   by_cases h0 : u = 0
   · rw [if_pos h0]
     subst h0
     exact (Free_zero a n c zs K w g h5 (by omega) (by omega)).mono fun _ _ h => h.ans
   · rw [if_neg h0]
     obtain ⟨U, rfl⟩ : ∃ U : Nat, u = U := ⟨u.toNat, by omega⟩
     simp only [Int.toNat_natCast]
     by_cases hc : cloudR zs K U = 0
     · rw [if_pos hc]
       exact (Free_none a n c zs K U w g h5 (by omega) (by omega) (by omega) (by omega) hc).mono fun _ _ h => h
     · rw [if_neg hc]
       exact (Free_ok a n c zs K U w g h5 (by omega) (by omega) (by omega) (by have := mt (cloud_one (zs := zs) (k := K) (u := U)) hc; omega) hc).mono fun _ _ h => h
 · rw [if_neg h]
   exact (Free_ref a n c zs k u w g _ rfl h).mono fun _ _ h => h.ans
theorem rIn_ans (a : Option Addr) (n c : Nat) (zs : List Int) (k u j : Int) (w : World) (g : IntsAt w a n c zs) (hL : k ≤ 20 ∨ 1024 < k) : Calls Tryz.prog 26 #[.slice a n c, .int .i64 k, .int .i64 u, .int .i64 j] w (RetAns w (ansIn zs k u j)) := by
 unfold ansIn
 by_cases h : refA zs k u = 0
 · rw [if_pos h]
   obtain ⟨h1, h2, h3, h4, h5⟩ := refA_zero h
   by_cases hj : 0 ≤ j ∧ j ≤ u
   · rw [if_pos hj]
     obtain ⟨K, rfl⟩ : ∃ K : Nat, k = K := ⟨k.toNat, by omega⟩
     obtain ⟨U, rfl⟩ : ∃ U : Nat, u = U := ⟨u.toNat, by omega⟩
     obtain ⟨J, rfl⟩ : ∃ J : Nat, j = J := ⟨j.toNat, by omega⟩
     exact (rIn_ok a n c zs K U J w g h5 (by omega) (by omega) (by omega) (by omega)).mono fun _ _ h => h
   · rw [if_neg hj]
     by_cases h0 : j < 0
     · exact (rIn_low a n c zs k u j w g h h0).mono fun _ _ h => h.ans
     · exact (rIn_high a n c zs k u j w g h h0 (by omega)).mono fun _ _ h => h.ans
 · rw [if_neg h]
   exact (rIn_ref a n c zs k u j w g _ rfl h).mono fun _ _ h => h.ans
theorem rCloud_ans (a : Option Addr) (n c : Nat) (zs : List Int) (k u : Int) (w : World) (g : IntsAt w a n c zs) (hL : k ≤ 20 ∨ 1024 < k) : Calls Tryz.prog 21 #[.slice a n c, .int .i64 k, .int .i64 u] w (RetAns w (ansCloud zs k u)) := by
 unfold ansCloud
 by_cases h : refA zs k u = 0
 · rw [if_pos h]
   obtain ⟨h1, h2, h3, h4, h5⟩ := refA_zero h
   obtain ⟨K, rfl⟩ : ∃ K : Nat, k = K := ⟨k.toNat, by omega⟩
   obtain ⟨U, rfl⟩ : ∃ U : Nat, u = U := ⟨u.toNat, by omega⟩
   exact (rCloud_ok a n c zs K U w g h5 (by omega) (by omega) (by omega)).mono fun _ _ h => h
 · rw [if_neg h]
   exact (rCloud_ref a n c zs k u w g _ rfl h).mono fun _ _ h => h.ans
theorem rFree_ans (a : Option Addr) (n c : Nat) (zs : List Int) (k u : Int) (w : World) (g : IntsAt w a n c zs) (hL : k ≤ 20 ∨ 1024 < k) : Calls Tryz.prog 23 #[.slice a n c, .int .i64 k, .int .i64 u] w (RetAns w (ansFree zs k u)) := by
 unfold ansFree
 by_cases h : refA zs k u = 0
 · rw [if_pos h]
   obtain ⟨h1, h2, h3, h4, h5⟩ := refA_zero h
   obtain ⟨K, rfl⟩ : ∃ K : Nat, k = K := ⟨k.toNat, by omega⟩
   by_cases h0 : u = 0
   · rw [if_pos h0]
     subst h0
     exact (rFree_zero a n c zs K w g h5 (by omega) (by omega)).mono fun _ _ h => h.ans
   · rw [if_neg h0]
     obtain ⟨U, rfl⟩ : ∃ U : Nat, u = U := ⟨u.toNat, by omega⟩
     simp only [Int.toNat_natCast]
     by_cases hc : cloudR zs K U = 0
     · rw [if_pos hc]
       exact (rFree_none a n c zs K U w g h5 (by omega) (by omega) (by omega) (by omega) hc).mono fun _ _ h => h
     · rw [if_neg hc]
       exact (rFree_ok a n c zs K U w g h5 (by omega) (by omega) (by omega) (by have := mt (cloud_one (zs := zs) (k := K) (u := U)) hc; omega) hc).mono fun _ _ h => h
 · rw [if_neg h]
   exact (rFree_ref a n c zs k u w g _ rfl h).mono fun _ _ h => h.ans
theorem sameAns {r : Ans} {a1 : Option Addr} {n1 c1 : Nat} {a2 : Option Addr} {n2 c2 : Nat} {a3 : Option Addr} {n3 c3 : Nat} {a4 : Option Addr} {n4 c4 : Nat} {w : World} (g1 : NatAt w a1 n1 c1 (digs r.up.natAbs)) (g2 : NatAt w a2 n2 c2 r.down) (g3 : NatAt w a3 n3 c3 (digs r.up.natAbs)) (g4 : NatAt w a4 n4 c4 r.down) :
 Calls Tryz.prog 16 #[.agg #[.bool (neg r.up), .slice a1 n1 c1, .slice a2 n2 c2], .agg #[.bool (neg r.up), .slice a3 n3 c3, .slice a4 n4 c4]] w (RetVal w (.bool true)) := by
 have h := sameRatio_any (neg r.up) _ _ _ _ _ _ _ _ (neg r.up) _ _ _ _ _ _ _ _ w g1 g2 g3 g4
 rwa [show eqR (neg r.up) (digs r.up.natAbs) r.down (neg r.up) (digs r.up.natAbs) r.down = true by simp [eqR]] at h
set_option maxRecDepth 100000 in
theorem long24_far (a : Option Addr) (n c : Nat) (zs : List Int) (k : Int) (w : World) (g : IntsAt w a n c zs) (h : 30 < n) : Calls Tryz.prog 17 #[.slice a n c, .int .i64 k] w (RetVal w (.bool true)) := by
 have hcl : c ≤ 9223372036854775807 := by have h1 := g.cle; simp only [maxLen] at h1; omega
 have hle := g.le
 have t0 : decide (30 < n) = true := decide_eq_true h
 clear g
 go_enter Tryz.func17, Tryz.ntmps17
 go_wp2
 go_ret
 exact ⟨rfl, Below.refl _ _⟩
set_option maxRecDepth 100000 in
theorem long24_mid (a : Option Addr) (n c : Nat) (zs : List Int) (k : Int) (w : World) (g : IntsAt w a n c zs) (h : n ≤ 30) (h1 : 20 < k) (h2 : k ≤ 1024) : Calls Tryz.prog 17 #[.slice a n c, .int .i64 k] w (RetVal w (.bool true)) := by
 have hcl : c ≤ 9223372036854775807 := by have h1 := g.cle; simp only [maxLen] at h1; omega
 have hle := g.le
 have t0 : decide (30 < n) = false := decide_eq_false (by omega)
 have t0i : decide (30 < (n : Int)) = false := decide_eq_false (by omega)
 have t1 : decide (20 < k) = true := decide_eq_true h1
 have t2 : decide (k ≤ 1024) = true := decide_eq_true h2
 clear g
 go_enter Tryz.func17, Tryz.ntmps17
 go_wp2
 go_ret
 exact ⟨rfl, Below.refl _ _⟩
set_option maxRecDepth 100000 in
theorem long24_low (a : Option Addr) (n c : Nat) (zs : List Int) (k : Int) (w : World) (g : IntsAt w a n c zs) (h : n ≤ 30) (h1 : k ≤ 20) : Calls Tryz.prog 17 #[.slice a n c, .int .i64 k] w (RetVal w (.bool false)) := by
 have hcl : c ≤ 9223372036854775807 := by have h1 := g.cle; simp only [maxLen] at h1; omega
 have hle := g.le
 have t0 : decide (30 < n) = false := decide_eq_false (by omega)
 have t0i : decide (30 < (n : Int)) = false := decide_eq_false (by omega)
 have t1 : decide (20 < k) = false := decide_eq_false (by omega)
 clear g
 go_enter Tryz.func17, Tryz.ntmps17
 go_wp2
 go_ret
 exact ⟨rfl, Below.refl _ _⟩
set_option maxRecDepth 100000 in
theorem long24_high (a : Option Addr) (n c : Nat) (zs : List Int) (k : Int) (w : World) (g : IntsAt w a n c zs) (h : n ≤ 30) (h1 : 1024 < k) : Calls Tryz.prog 17 #[.slice a n c, .int .i64 k] w (RetVal w (.bool false)) := by
 have hcl : c ≤ 9223372036854775807 := by have h1 := g.cle; simp only [maxLen] at h1; omega
 have hle := g.le
 have t0 : decide (30 < n) = false := decide_eq_false (by omega)
 have t0i : decide (30 < (n : Int)) = false := decide_eq_false (by omega)
 have t1 : decide (20 < k) = true := decide_eq_true (by omega)
 have t2 : decide (k ≤ 1024) = false := decide_eq_false (by omega)
 clear g
 go_enter Tryz.func17, Tryz.ntmps17
 go_wp2
 go_ret
 exact ⟨rfl, Below.refl _ _⟩
theorem long24_yes (a : Option Addr) (n c : Nat) (zs : List Int) (k : Int) (w : World) (g : IntsAt w a n c zs) (h : 30 < n ∨ (20 < k ∧ k ≤ 1024)) : Calls Tryz.prog 17 #[.slice a n c, .int .i64 k] w (RetVal w (.bool true)) := by
 by_cases hn : 30 < n
 · exact long24_far a n c zs k w g hn
 · exact long24_mid a n c zs k w g (by omega) (by omega) (by omega)
theorem long24_no (a : Option Addr) (n c : Nat) (zs : List Int) (k : Int) (w : World) (g : IntsAt w a n c zs) (hn : n ≤ 30) (h : k ≤ 20 ∨ 1024 < k) : Calls Tryz.prog 17 #[.slice a n c, .int .i64 k] w (RetVal w (.bool false)) := by
 rcases h with h | h
 · exact long24_low a n c zs k w g hn h
 · exact long24_high a n c zs k w g hn h
set_option maxRecDepth 100000 in
set_option maxHeartbeats 4000000 in
theorem clouds_long (a : Option Addr) (n c : Nat) (zs : List Int) (k u : Int) (w : World) (g : IntsAt w a n c zs) (h : 30 < n ∨ (20 < k ∧ k ≤ 1024)) :
 Calls Tryz.prog 4 #[.slice a n c, .int .i64 k, .int .i64 u] w (RetVal w (.bool true)) := by
 have H := Lib.hid h
 clear h
 go_enter Tryz.func4, Tryz.ntmps4
 have hB := Below.refl w.heap.size w
 go_wp2_with fail
 with_reducible refine (long24_yes _ _ _ zs k _ g H.out).mono ?_
 rintro e w1 ⟨rfl, hb⟩
 have g := g.past hb
 have hB := below_later hB hb
 clear hb
 go_wp2_with fail
 with_reducible refine (awake24 _).mono ?_
 rintro e w2 ⟨rfl, hb⟩
 have hB := below_later hB hb
 clear hb
 go_wp2
 go_ret
 exact ⟨rfl, hB⟩
set_option maxRecDepth 100000 in
set_option maxHeartbeats 16000000 in
theorem clouds_main (a : Option Addr) (n c : Nat) (zs : List Int) (k u : Int) (w : World) (g : IntsAt w a n c zs) (hn : n ≤ 30) (hL : k ≤ 20 ∨ 1024 < k) :
 Calls Tryz.prog 4 #[.slice a n c, .int .i64 k, .int .i64 u] w (RetVal w (.bool true)) := by
 have HL := Lib.hid hL
 obtain ⟨A, hA⟩ : ∃ A, ansCloud zs k u = A := ⟨_, rfl⟩
 obtain ⟨F, hF⟩ : ∃ F, ansFree zs k u = F := ⟨_, rfl⟩
 have HA := Lib.hid hA
 have HF := Lib.hid hF
 clear hL hA hF
 go_enter Tryz.func4, Tryz.ntmps4
 have hB := Below.refl w.heap.size w
 go_wp2_with fail
 with_reducible refine (long24_no _ _ _ zs k _ g hn HL.out).mono ?_
 rintro e w1 ⟨rfl, hb⟩
 have g := g.past hb
 have hB := below_later hB hb
 clear hb
 go_wp2_with fail
 with_reducible refine (copyInts_any _ _ _ zs _ g (by omega)).mono ?_
 rintro e w2 ⟨ai, ni, ci, rfl, gi, hb⟩
 have g := g.past hb
 have hB := below_later hB hb
 clear hb
 go_wp2_with fail
 have HU1 := Lib.hid g.under
 have HU2 := Lib.hid gi.under
 have z0 := hB.size
 go_wp2_with fail
 have rhA := Below.refl w2.heap.size w2
 go_wp2_with fail
 refine (Cloud_ans _ _ _ zs k u _ gi HL.out).mono ?_
 rintro e w3 ⟨ahAU, nhAU, chAU, ahAD, nhAD, chAD, rfl, hAU, hAD, hb⟩
 have g := g.past hb
 have gi := gi.past hb
 have hB := below_later hB hb
 have rhA := below_later rhA hb
 clear hb
 rw [HA.out] at hAU hAD ⊢
 have zhA := rhA.size
 have ThAU := Lib.hid hAU.ltBlock
 have ThAD := Lib.hid hAD.ltBlock
 have rU := Below.refl w3.heap.size w3
 go_wp2_with fail
 obtain ⟨w4, hW, hz0, hb, q, f⟩ := box1g w3 (w3.heap.size) (by omega) #[.bool (neg (Ans.up (A))), .slice ahAU nhAU chAU, .slice ahAD nhAD chAD] 27
 rw [hW]
 clear hW
 have g := g.past hb
 have gi := gi.past hb
 have hAU := hAU.past hb
 have hAD := hAD.past hb
 have hB := below_later hB hb
 have rhA := below_later rhA hb
 have rU := below_later rU hb
 clear hb
 have la : w3.heap.size < w4.heap.size := by omega
 have qa0 := q 0; have qa1 := q 1; have qa2 := q 2
 simp only [lgA, lgZ, lgS] at qa0 qa1 qa2
 clear q f
 clear hz0
 have rhB_ := Below.refl w4.heap.size w4
 go_wp2_with fail
 refine (rCloud_ans _ _ _ zs k u _ g HL.out).mono ?_
 rintro e w5 ⟨ahB_U, nhB_U, chB_U, ahB_D, nhB_D, chB_D, rfl, hB_U, hB_D, hb⟩
 have g := g.past hb
 have gi := gi.past hb
 have hAU := hAU.past hb
 have hAD := hAD.past hb
 obtain ⟨qa0, qa1, qa2, la⟩ := bq3 hb la qa0 qa1 qa2
 have hB := below_later hB hb
 have rhA := below_later rhA hb
 have rU := below_later rU hb
 have rhB_ := below_later rhB_ hb
 clear hb
 rw [HA.out] at hB_U hB_D ⊢
 have zhB_ := rhB_.size
 have ThB_U := Lib.hid hB_U.ltBlock
 have ThB_D := Lib.hid hB_D.ltBlock
 go_wp2_with fail
 obtain ⟨w6, hW, hz0, hb, q, f⟩ := box1g w5 (w5.heap.size) (by omega) #[.bool (neg (Ans.up (A))), .slice ahB_U nhB_U chB_U, .slice ahB_D nhB_D chB_D] 27
 rw [hW]
 clear hW
 have g := g.past hb
 have gi := gi.past hb
 have hAU := hAU.past hb
 have hAD := hAD.past hb
 have hB_U := hB_U.past hb
 have hB_D := hB_D.past hb
 obtain ⟨qa0, qa1, qa2, la⟩ := bq3 hb la qa0 qa1 qa2
 have hB := below_later hB hb
 have rhA := below_later rhA hb
 have rU := below_later rU hb
 have rhB_ := below_later rhB_ hb
 clear hb
 have lb : w5.heap.size < w6.heap.size := by omega
 have qb0 := q 0; have qb1 := q 1; have qb2 := q 2
 simp only [lgA, lgZ, lgS] at qb0 qb1 qb2
 clear q f
 clear hz0
 have zU := rU.size
 go_wp2_with fail
 have rhC := Below.refl w6.heap.size w6
 go_wp2_with fail
 refine (Free_ans _ _ _ zs k u _ gi HL.out).mono ?_
 rintro e w7 ⟨ahCU, nhCU, chCU, ahCD, nhCD, chCD, rfl, hCU, hCD, hb⟩
 have g := g.past hb
 have gi := gi.past hb
 have hAU := hAU.past hb
 have hAD := hAD.past hb
 have hB_U := hB_U.past hb
 have hB_D := hB_D.past hb
 obtain ⟨qa0, qa1, qa2, la⟩ := bq3 hb la qa0 qa1 qa2
 obtain ⟨qb0, qb1, qb2, lb⟩ := bq3 hb lb qb0 qb1 qb2
 have hB := below_later hB hb
 have rhA := below_later rhA hb
 have rU := below_later rU hb
 have rhB_ := below_later rhB_ hb
 have rhC := below_later rhC hb
 clear hb
 rw [HF.out] at hCU hCD ⊢
 have zhC := rhC.size
 have ThCU := Lib.hid hCU.ltBlock
 have ThCD := Lib.hid hCD.ltBlock
 go_wp2_with fail
 obtain ⟨w8, hW, hz0, hb, q, f⟩ := box1g w7 (w7.heap.size) (by omega) #[.bool (neg (Ans.up (F))), .slice ahCU nhCU chCU, .slice ahCD nhCD chCD] 27
 rw [hW]
 clear hW
 have g := g.past hb
 have gi := gi.past hb
 have hAU := hAU.past hb
 have hAD := hAD.past hb
 have hB_U := hB_U.past hb
 have hB_D := hB_D.past hb
 have hCU := hCU.past hb
 have hCD := hCD.past hb
 obtain ⟨qa0, qa1, qa2, la⟩ := bq3 hb la qa0 qa1 qa2
 obtain ⟨qb0, qb1, qb2, lb⟩ := bq3 hb lb qb0 qb1 qb2
 have hB := below_later hB hb
 have rhA := below_later rhA hb
 have rU := below_later rU hb
 have rhB_ := below_later rhB_ hb
 have rhC := below_later rhC hb
 clear hb
 have lc : w7.heap.size < w8.heap.size := by omega
 have qc0 := q 0; have qc1 := q 1; have qc2 := q 2
 simp only [lgA, lgZ, lgS] at qc0 qc1 qc2
 clear q f
 clear hz0
 have rhD := Below.refl w8.heap.size w8
 go_wp2_with fail
 refine (rFree_ans _ _ _ zs k u _ g HL.out).mono ?_
 rintro e w9 ⟨ahDU, nhDU, chDU, ahDD, nhDD, chDD, rfl, hDU, hDD, hb⟩
 have g := g.past hb
 have gi := gi.past hb
 have hAU := hAU.past hb
 have hAD := hAD.past hb
 have hB_U := hB_U.past hb
 have hB_D := hB_D.past hb
 have hCU := hCU.past hb
 have hCD := hCD.past hb
 obtain ⟨qa0, qa1, qa2, la⟩ := bq3 hb la qa0 qa1 qa2
 obtain ⟨qb0, qb1, qb2, lb⟩ := bq3 hb lb qb0 qb1 qb2
 obtain ⟨qc0, qc1, qc2, lc⟩ := bq3 hb lc qc0 qc1 qc2
 have hB := below_later hB hb
 have rhA := below_later rhA hb
 have rU := below_later rU hb
 have rhB_ := below_later rhB_ hb
 have rhC := below_later rhC hb
 have rhD := below_later rhD hb
 clear hb
 rw [HF.out] at hDU hDD ⊢
 have zhD := rhD.size
 have ThDU := Lib.hid hDU.ltBlock
 have ThDD := Lib.hid hDD.ltBlock
 go_wp2_with fail
 obtain ⟨w10, hW, hz0, hb, q, f⟩ := box1g w9 (w9.heap.size) (by omega) #[.bool (neg (Ans.up (F))), .slice ahDU nhDU chDU, .slice ahDD nhDD chDD] 27
 rw [hW]
 clear hW
 have g := g.past hb
 have gi := gi.past hb
 have hAU := hAU.past hb
 have hAD := hAD.past hb
 have hB_U := hB_U.past hb
 have hB_D := hB_D.past hb
 have hCU := hCU.past hb
 have hCD := hCD.past hb
 have hDU := hDU.past hb
 have hDD := hDD.past hb
 obtain ⟨qa0, qa1, qa2, la⟩ := bq3 hb la qa0 qa1 qa2
 obtain ⟨qb0, qb1, qb2, lb⟩ := bq3 hb lb qb0 qb1 qb2
 obtain ⟨qc0, qc1, qc2, lc⟩ := bq3 hb lc qc0 qc1 qc2
 have hB := below_later hB hb
 have rhA := below_later rhA hb
 have rU := below_later rU hb
 have rhB_ := below_later rhB_ hb
 have rhC := below_later rhC hb
 have rhD := below_later rhD hb
 clear hb
 have ld : w9.heap.size < w10.heap.size := by omega
 have qd0 := q 0; have qd1 := q 1; have qd2 := q 2
 simp only [lgA, lgZ, lgS] at qd0 qd1 qd2
 clear q f
 clear hz0
 with_reducible refine (sameAns hAU.toNatAt hAD.toNatAt hB_U.toNatAt hB_D.toNatAt).mono ?_
 rintro e w11 ⟨rfl, hb⟩
 have g := g.past hb
 have gi := gi.past hb
 have hAU := hAU.past hb
 have hAD := hAD.past hb
 have hB_U := hB_U.past hb
 have hB_D := hB_D.past hb
 have hCU := hCU.past hb
 have hCD := hCD.past hb
 have hDU := hDU.past hb
 have hDD := hDD.past hb
 obtain ⟨qa0, qa1, qa2, la⟩ := bq3 hb la qa0 qa1 qa2
 obtain ⟨qb0, qb1, qb2, lb⟩ := bq3 hb lb qb0 qb1 qb2
 obtain ⟨qc0, qc1, qc2, lc⟩ := bq3 hb lc qc0 qc1 qc2
 obtain ⟨qd0, qd1, qd2, ld⟩ := bq3 hb ld qd0 qd1 qd2
 have hB := below_later hB hb
 have rhA := below_later rhA hb
 have rU := below_later rU hb
 have rhB_ := below_later rhB_ hb
 have rhC := below_later rhC hb
 have rhD := below_later rhD hb
 clear hb
 go_wp2_with fail
 with_reducible refine (sameAns hCU.toNatAt hCD.toNatAt hDU.toNatAt hDD.toNatAt).mono ?_
 rintro e w12 ⟨rfl, hb⟩
 have g := g.past hb
 have gi := gi.past hb
 have hAU := hAU.past hb
 have hAD := hAD.past hb
 have hB_U := hB_U.past hb
 have hB_D := hB_D.past hb
 have hCU := hCU.past hb
 have hCD := hCD.past hb
 have hDU := hDU.past hb
 have hDD := hDD.past hb
 obtain ⟨qa0, qa1, qa2, la⟩ := bq3 hb la qa0 qa1 qa2
 obtain ⟨qb0, qb1, qb2, lb⟩ := bq3 hb lb qb0 qb1 qb2
 obtain ⟨qc0, qc1, qc2, lc⟩ := bq3 hb lc qc0 qc1 qc2
 obtain ⟨qd0, qd1, qd2, ld⟩ := bq3 hb ld qd0 qd1 qd2
 have hB := below_later hB hb
 have rhA := below_later rhA hb
 have rU := below_later rU hb
 have rhB_ := below_later rhB_ hb
 have rhC := below_later rhC hb
 have rhD := below_later rhD hb
 clear hb
 go_wp2_with fail
 have yA := rhA.size
 have yC := rhC.size
 go_wp2_with fail
 with_reducible refine (overRatio_within w2.heap.size w3.heap.size _ _ _ _ _ _ _ _ _ _ (.both hAU ThAU.out) (.both hAD ThAD.out)).mono ?_
 rintro e w13 ⟨rfl, hW⟩
 have hCU := hCU.after hW zU
 have hCD := hCD.after hW zU
 have g := g.within hW (HU1.out.imp id fun h x hx => .inl (Nat.lt_of_lt_of_le (h x hx) (by omega)))
 have gi := gi.within hW (HU2.out.imp id fun h x hx => .inl (Nat.lt_of_lt_of_le (h x hx) (by omega)))
 have qc0 := hW.cell (.inr (by omega)) qc0; have qc1 := hW.cell (.inr (by omega)) qc1; have qc2 := hW.cell (.inr (by omega)) qc2
 have lc := Nat.lt_of_lt_of_le lc hW.size
 have hB := hB.trans ((hW.below (by omega)).mono (by omega))
 have yC := Nat.le_trans yC hW.size
 clear hW
 go_wp2_with fail
 with_reducible refine (overRatio_within w6.heap.size w7.heap.size _ _ _ _ _ _ _ _ _ _ (.both hCU ThCU.out) (.both hCD ThCD.out)).mono ?_
 rintro e w14 ⟨rfl, hW⟩
 have g := g.within hW (HU1.out.imp id fun h x hx => .inl (Nat.lt_of_lt_of_le (h x hx) (by omega)))
 have gi := gi.within hW (HU2.out.imp id fun h x hx => .inl (Nat.lt_of_lt_of_le (h x hx) (by omega)))
 have hB := hB.trans ((hW.below (by omega)).mono (by omega))
 clear hW
 go_wp2_with fail
 with_reducible refine (sameInts_yes gi g).mono ?_
 rintro e w15 ⟨rfl, hb⟩
 have g := g.past hb
 have gi := gi.past hb
 have hB := below_later hB hb
 clear hb
 go_wp2_with fail
 with_reducible refine (awake24 _).mono ?_
 rintro e w16 ⟨rfl, hb⟩
 have hB := below_later hB hb
 clear hb
 go_wp2
 go_ret
 exact ⟨rfl, hB⟩
theorem chanceClouds_any (a : Option Addr) (n c : Nat) (zs : List Int) (k u : Int) (w : World) (g : IntsAt w a n c zs) :
 Calls Tryz.prog 4 #[.slice a n c, .int .i64 k, .int .i64 u] w (RetVal w (.bool true)) := by
 by_cases h : 30 < n ∨ (20 < k ∧ k ≤ 1024)
 · exact clouds_long a n c zs k u w g h
 · exact clouds_main a n c zs k u w g (by omega) (by omega)
end Go.Proofs.YtlkoenpdmlbhlaaGreat
