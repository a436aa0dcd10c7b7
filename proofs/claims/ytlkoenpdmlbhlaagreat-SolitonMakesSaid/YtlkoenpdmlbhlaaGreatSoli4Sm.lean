import Derived.Test.YtlkoenpdmlbhlaaGreatS0Sm
import Derived.Test.YtlkoenpdmlbhlaaGreatSoli2Sm
set_option linter.unusedVariables false
set_option linter.unusedSimpArgs false
namespace Go.Proofs.YtlkoenpdmlbhlaaGreat
open Go.RowKit
theorem RetTab.from {w w1 : World} {r : Tab} {e : Ending} {w' : World} (h : RetTab w1 r e w') (hb : Below w.heap.size w w1) : RetTab w r e w' := by
 obtain ⟨a, n, c, h1, h2, h3, h4⟩ := h
 exact ⟨a, n, c, h1, h2, h3.imp id fun ⟨b, h5, h6, h7⟩ => ⟨b, h5, Nat.le_trans hb.size h6, h7⟩, below_later hb h4⟩
def idealT (k s : Int) : Tab := tabA k s (wtR (shR k.toNat 1 0) 1 s)
def robustT (k s sp : Int) (m : Rat) : Tab := if sp < 1 ∨ k < sp ∨ m.num < 0 then .error 3 else tabA k s (wtR (shR k.toNat sp.toNat m) 2 s)
theorem idealT_out {k s : Int} (h : ¬ inR k s) : idealT k s = .error 3 := if_neg h
theorem idealT_in {K S : Nat} (h : inR K S) : idealT K S = if okT (tabL (wtR (shR K 1 0) 1 (S : Int)) K) (K : Int) then .ok (tabL (wtR (shR K 1 0) 1 (S : Int)) K) else .error 13 := if_pos h
theorem robustT_bad {k s sp : Int} {m : Rat} (h : sp < 1 ∨ k < sp ∨ m.num < 0) : robustT k s sp m = .error 3 := if_pos h
theorem robustT_out {k s sp : Int} {m : Rat} (h : ¬ inR k s) : robustT k s sp m = .error 3 := by
 unfold robustT tabA
 rw [if_neg h, ite_self]
theorem robustT_in {K S sp : Nat} {m : Rat} (h : inR K S) (h1 : 1 ≤ sp) (h2 : sp ≤ K) (h3 : ¬ m.num < 0) : robustT K S sp m = if okT (tabL (wtR (shR K sp m) 2 (S : Int)) K) (K : Int) then .ok (tabL (wtR (shR K sp m) 2 (S : Int)) K) else .error 13 := by
 unfold robustT
 rw [if_neg (by omega)]
 exact if_pos h
def IdV (k : Int) (y : Value) (w : World) : Prop := ∃ b, y = .func (.func 75) #[] #[.pointer (some ⟨b, 0, none⟩)] ∧ b < w.heap.size ∧ w.cell? ⟨b, 0, none⟩ = some (.int .i64 k)
theorem IdV.past {k : Int} {y : Value} {w w' : World} (h : IdV k y w) (hb : Below w.heap.size w w') : IdV k y w' := by
 obtain ⟨b, e, h1, h2⟩ := h
 exact ⟨b, e, Nat.lt_of_lt_of_le h1 hb.size, (hb.cell (p := ⟨b, 0, none⟩) h1).trans h2⟩
def SpV (s : Int) (r0 r1 r2 : Value) (y : Value) (w : World) : Prop := ∃ b c, y = .func (.func 86) #[] #[.pointer (some ⟨b, 0, none⟩), .pointer (some ⟨c, 0, none⟩)] ∧ b < w.heap.size ∧ c < w.heap.size ∧ w.cell? ⟨b, 0, none⟩ = some (.int .i64 s) ∧ w.cell? ⟨c, 0, none⟩ = some r0 ∧ w.cell? ⟨c, 1, none⟩ = some r1 ∧ w.cell? ⟨c, 2, none⟩ = some r2
theorem SpV.past {s : Int} {r0 r1 r2 : Value} {y : Value} {w w' : World} (h : SpV s r0 r1 r2 y w) (hb : Below w.heap.size w w') : SpV s r0 r1 r2 y w' := by
 obtain ⟨b, c, e, h1, h2, h3, h4, h5, h6⟩ := h
 exact ⟨b, c, e, Nat.lt_of_lt_of_le h1 hb.size, Nat.lt_of_lt_of_le h2 hb.size, (hb.cell (p := ⟨b, 0, none⟩) h1).trans h3, (hb.cell (p := ⟨c, 0, none⟩) h2).trans h4, (hb.cell (p := ⟨c, 1, none⟩) h2).trans h5, (hb.cell (p := ⟨c, 2, none⟩) h2).trans h6⟩
theorem tabB {w : World} {a : Option Addr} {n B B' : Nat} (h : n = 0 ∨ ∃ b, a = some ⟨b, 0, none⟩ ∧ B' ≤ b ∧ ∀ i, w.frozen? ⟨b, i, none⟩ = false) (hB : B ≤ B') : n = 0 ∨ ∃ b, a = some ⟨b, 0, none⟩ ∧ B ≤ b ∧ ∀ i, w.frozen? ⟨b, i, none⟩ = false :=
 h.imp id fun ⟨b, h5, h6, h7⟩ => ⟨b, h5, Nat.le_trans hB h6, h7⟩
def TabV (B : Nat) (r : Tab) (y : Value) (w : World) : Prop := ∃ a n c, y = .tuple #[.slice a n c, .int .i64 r.why] ∧ IntsAt w a n c r.list ∧ (n = 0 ∨ ∃ b, a = some ⟨b, 0, none⟩ ∧ B ≤ b ∧ ∀ i, w.frozen? ⟨b, i, none⟩ = false)
theorem ideal_fun (k : Int) (w : World) : Calls Tryz.prog 36 #[.int .i64 k] w fun e w' => ∃ b, e = .returned (.func (.func 75) #[] #[.pointer (some ⟨b, 0, none⟩)]) ∧ b < w'.heap.size ∧ w'.cell? ⟨b, 0, none⟩ = some (.int .i64 k) ∧ Below w.heap.size w w' := by
 refine (soliIdeal_any k w).mono ?_
 rintro e w' ⟨rfl, hw⟩
 obtain ⟨w1, hW, hz, hb, q, f⟩ := box1g w w.heap.size rfl #[.int .i64 k] 3
 rw [hW] at hw
 subst hw
 exact ⟨_, rfl, by omega, q 0, hb⟩
theorem spiked_fun (s : Int) (r0 r1 r2 : Value) (w : World) : Calls Tryz.prog 43 #[.int .i64 s, .agg #[r0, r1, r2]] w fun e w' => ∃ b c, e = .returned (.func (.func 86) #[] #[.pointer (some ⟨b, 0, none⟩), .pointer (some ⟨c, 0, none⟩)]) ∧ b < w'.heap.size ∧ c < w'.heap.size ∧ w'.cell? ⟨b, 0, none⟩ = some (.int .i64 s) ∧ w'.cell? ⟨c, 0, none⟩ = some r0 ∧ w'.cell? ⟨c, 1, none⟩ = some r1 ∧ w'.cell? ⟨c, 2, none⟩ = some r2 ∧ Below w.heap.size w w' := by
 refine (soliSpiked_any s r0 r1 r2 w).mono ?_
 rintro e w' ⟨rfl, hw⟩
 obtain ⟨w1, hW, hz, hb, q, f⟩ := box1g w w.heap.size rfl #[.int .i64 s] 3
 rw [hW] at hw
 obtain ⟨w2, hW2, hz2, hb2, q2, f2⟩ := box1g w1 (w.heap.size + 1) (by omega) #[r0, r1, r2] 27
 rw [hW2] at hw
 subst hw
 exact ⟨_, _, rfl, by omega, by omega, (hb2.cell (p := ⟨w.heap.size, 0, none⟩) (show w.heap.size < w1.heap.size by omega)).trans (q 0), q2 0, q2 1, q2 2, below_later hb hb2⟩
theorem together_one (k s : Int) (bl b1 : Nat) (w : World) (ll : bl < w.heap.size) (l1 : b1 < w.heap.size) (ql0 : w.cell? ⟨bl, 0, none⟩ = some (.func (.func 75) #[] #[.pointer (some ⟨b1, 0, none⟩)])) (qk0 : w.cell? ⟨b1, 0, none⟩ = some (.int .i64 k)) :
 Calls Tryz.prog 35 #[.int .i64 k, .int .i64 s, .slice (some ⟨bl, 0, none⟩) 1 1] w (RetTab w (idealT k s)) := by
 by_cases h : inR k s
 · have h2 := h
   unfold inR at h2
   obtain ⟨K, rfl⟩ : ∃ K : Nat, k = K := ⟨k.toNat, by omega⟩
   obtain ⟨S, rfl⟩ : ∃ S : Nat, s = S := ⟨s.toNat, by omega⟩
   rw [idealT_in h]
   exact together_yes K S 1 1 0 bl b1 0 0 none 0 0 none 0 0 w (by omega) (by omega) (by omega) (by omega) (.inl rfl) (by decide) (by decide) (by decide) ll l1 ql0 qk0 (fun e => absurd e (by decide))
 · rw [idealT_out h]
   exact together_no k s bl 1 w h
theorem together_two (k s sp : Int) (m : Rat) (hs : 1 ≤ sp) (hs2 : sp ≤ k) (hm : ¬ m.num < 0) (hl : rlen m ≤ 1000) (bl b1 b2 b3 : Nat) (a1 : Option Addr) (n1 c1 : Nat) (a2 : Option Addr) (n2 c2 : Nat) (w : World) (ll : bl < w.heap.size) (l1 : b1 < w.heap.size) (ql0 : w.cell? ⟨bl, 0, none⟩ = some (.func (.func 75) #[] #[.pointer (some ⟨b1, 0, none⟩)])) (qk0 : w.cell? ⟨b1, 0, none⟩ = some (.int .i64 k))
 (l2 : b2 < w.heap.size) (l3 : b3 < w.heap.size) (ql1 : w.cell? ⟨bl, 1, none⟩ = some (.func (.func 86) #[] #[.pointer (some ⟨b2, 0, none⟩), .pointer (some ⟨b3, 0, none⟩)])) (qs0 : w.cell? ⟨b2, 0, none⟩ = some (.int .i64 sp)) (qm0 : w.cell? ⟨b3, 0, none⟩ = some (.bool (neg m.num))) (qm1 : w.cell? ⟨b3, 1, none⟩ = some (.slice a1 n1 c1)) (qm2 : w.cell? ⟨b3, 2, none⟩ = some (.slice a2 n2 c2)) (g1 : NatAt w a1 n1 c1 (digs m.num.natAbs)) (g2 : NatAt w a2 n2 c2 (digs m.den)) :
 Calls Tryz.prog 35 #[.int .i64 k, .int .i64 s, .slice (some ⟨bl, 0, none⟩) 2 2] w (RetTab w (robustT k s sp m)) := by
 by_cases h : inR k s
 · have h2 := h
   unfold inR at h2
   obtain ⟨K, rfl⟩ : ∃ K : Nat, k = K := ⟨k.toNat, by omega⟩
   obtain ⟨S, rfl⟩ : ∃ S : Nat, s = S := ⟨s.toNat, by omega⟩
   obtain ⟨p, rfl⟩ : ∃ p : Nat, sp = p := ⟨sp.toNat, by omega⟩
   rw [robustT_in h (by omega) (by omega) hm]
   exact together_yes K S 2 p m bl b1 b2 b3 a1 n1 c1 a2 n2 c2 w (by omega) (by omega) (by omega) (by omega) (.inr rfl) (by omega) (by omega) hl ll l1 ql0 qk0 (fun _ => ⟨l2, l3, ql1, qs0, qm0, qm1, qm2, g1, g2⟩)
 · rw [robustT_out h]
   exact together_no k s bl 2 w h
set_option maxRecDepth 100000 in
set_option maxHeartbeats 4000000 in
theorem ideal_any (k s : Int) (w : World) : Calls Tryz.prog 10 #[.int .i64 k, .int .i64 s] w (RetTab w (idealT k s)) := by
 have ht := fun bl b1 => together_one k s bl b1
 obtain ⟨T, hT⟩ : ∃ T, idealT k s = T := ⟨_, rfl⟩
 rw [hT] at ht ⊢
 have HT := Lib.hid ht
 clear ht hT
 go_enter Tryz.func10, Tryz.ntmps10
 have hB := Below.refl w.heap.size w
 go_wp2_with fail
 with_reducible refine (ideal_fun k _).mono ?_
 rintro e w1 ⟨b1, rfl, lk, qk0, hb⟩
 have hB := below_later hB hb
 clear hb
 go_wp2_with fail
 obtain ⟨w2, hW, hz0, hb, q, f⟩ := box1g w1 (w1.heap.size) (by omega) #[.func (.func 75) #[] #[.pointer (some ⟨b1, 0, none⟩)]] 60
 rw [hW]
 clear hW
 have qk0 := bq hb lk qk0
 have lk := bl hb lk
 have hB := below_later hB hb
 clear hb
 have ll : w1.heap.size < w2.heap.size := by omega
 have ql0 := q 0
 simp only [lgA, lgZ, lgS] at ql0
 clear q f
 clear hz0
 refine (HT.out (w1.heap.size) b1 _ ll lk ql0 qk0).mono ?_
 rintro e w9 h
 have h := h.from hB
 obtain ⟨a, n, c, rfl, h1, h2, h3⟩ := h
 go_wp2
 go_ret2
 exact ⟨_, _, _, rfl, h1, h2, h3⟩
set_option maxRecDepth 100000 in
set_option maxHeartbeats 4000000 in
theorem robust_low (k s sp : Int) (m : Rat) (a1 : Option Addr) (n1 c1 : Nat) (a2 : Option Addr) (n2 c2 : Nat) (w : World) (g1 : NatAt w a1 n1 c1 (digs m.num.natAbs)) (g2 : NatAt w a2 n2 c2 (digs m.den)) (hl : rlen m ≤ 1000) (h : sp < 1) : Calls Tryz.prog 12 #[.int .i64 k, .int .i64 s, .int .i64 sp, .agg #[.bool (neg m.num), .slice a1 n1 c1, .slice a2 n2 c2]] w (RetTab w (robustT k s sp m)) := by
 rw [robustT_bad (by omega)]
 have hc := chkR_canon m
 have HC := Lib.hid hc
 have hn1 := g1.len
 have hn2 := g2.len
 unfold rlen at hl
 clear hc
 go_enter Tryz.func12, Tryz.ntmps12
 have hB := Below.refl w.heap.size w
 go_wp2_with fail
 obtain ⟨w1, hW, hz0, hb, q, f⟩ := box1g w (w.heap.size) (by omega) #[.bool (neg m.num), .slice a1 n1 c1, .slice a2 n2 c2] 27
 rw [hW]
 clear hW
 have g1 := g1.past hb
 have g2 := g2.past hb
 have hB := below_later hB hb
 clear hb
 have lm : w.heap.size < w1.heap.size := by omega
 have qm0 := q 0; have qm1 := q 1; have qm2 := q 2
 simp only [lgA, lgZ, lgS] at qm0 qm1 qm2
 clear q f
 clear hz0
 with_reducible refine (check05_any _ _ _ _ (digs m.num.natAbs) _ _ _ (digs m.den) _ g1 g2 (by omega) (by omega)).mono ?_
 rintro e w2 ⟨rfl, hb⟩
 have g1 := g1.past hb
 have g2 := g2.past hb
 obtain ⟨qm0, qm1, qm2, lm⟩ := bq3 hb lm qm0 qm1 qm2
 have hB := below_later hB hb
 clear hb
 rw [HC.out]
 go_wp2
 go_ret2
 exact ⟨_, _, _, rfl, IntsAt.nil _, .inl rfl, hB⟩
set_option maxRecDepth 100000 in
set_option maxHeartbeats 4000000 in
theorem robust_high (k s sp : Int) (m : Rat) (a1 : Option Addr) (n1 c1 : Nat) (a2 : Option Addr) (n2 c2 : Nat) (w : World) (g1 : NatAt w a1 n1 c1 (digs m.num.natAbs)) (g2 : NatAt w a2 n2 c2 (digs m.den)) (hl : rlen m ≤ 1000) (h1 : ¬ sp < 1) (h : k < sp) : Calls Tryz.prog 12 #[.int .i64 k, .int .i64 s, .int .i64 sp, .agg #[.bool (neg m.num), .slice a1 n1 c1, .slice a2 n2 c2]] w (RetTab w (robustT k s sp m)) := by
 rw [robustT_bad (by omega)]
 have hc := chkR_canon m
 have HC := Lib.hid hc
 have hn1 := g1.len
 have hn2 := g2.len
 unfold rlen at hl
 clear hc
 go_enter Tryz.func12, Tryz.ntmps12
 have hB := Below.refl w.heap.size w
 go_wp2_with fail
 obtain ⟨w1, hW, hz0, hb, q, f⟩ := box1g w (w.heap.size) (by omega) #[.bool (neg m.num), .slice a1 n1 c1, .slice a2 n2 c2] 27
 rw [hW]
 clear hW
 have g1 := g1.past hb
 have g2 := g2.past hb
 have hB := below_later hB hb
 clear hb
 have lm : w.heap.size < w1.heap.size := by omega
 have qm0 := q 0; have qm1 := q 1; have qm2 := q 2
 simp only [lgA, lgZ, lgS] at qm0 qm1 qm2
 clear q f
 clear hz0
 with_reducible refine (check05_any _ _ _ _ (digs m.num.natAbs) _ _ _ (digs m.den) _ g1 g2 (by omega) (by omega)).mono ?_
 rintro e w2 ⟨rfl, hb⟩
 have g1 := g1.past hb
 have g2 := g2.past hb
 obtain ⟨qm0, qm1, qm2, lm⟩ := bq3 hb lm qm0 qm1 qm2
 have hB := below_later hB hb
 clear hb
 rw [HC.out]
 go_wp2
 go_ret2
 exact ⟨_, _, _, rfl, IntsAt.nil _, .inl rfl, hB⟩
set_option maxRecDepth 100000 in
set_option maxHeartbeats 4000000 in
theorem robust_neg (k s sp : Int) (m : Rat) (a1 : Option Addr) (n1 c1 : Nat) (a2 : Option Addr) (n2 c2 : Nat) (w : World) (g1 : NatAt w a1 n1 c1 (digs m.num.natAbs)) (g2 : NatAt w a2 n2 c2 (digs m.den)) (hl : rlen m ≤ 1000) (h1 : ¬ sp < 1) (h2 : ¬ k < sp) (h : m.num < 0) : Calls Tryz.prog 12 #[.int .i64 k, .int .i64 s, .int .i64 sp, .agg #[.bool (neg m.num), .slice a1 n1 c1, .slice a2 n2 c2]] w (RetTab w (robustT k s sp m)) := by
 rw [robustT_bad (by omega)]
 have hc := chkR_canon m
 have HC := Lib.hid hc
 have hn1 := g1.len
 have hn2 := g2.len
 unfold rlen at hl
 clear hc
 have hs : m.num.sign = -1 := Int.sign_eq_neg_one_of_neg h
 have HS := Lib.hid hs
 clear hs
 go_enter Tryz.func12, Tryz.ntmps12
 have hB := Below.refl w.heap.size w
 go_wp2_with fail
 obtain ⟨w1, hW, hz0, hb, q, f⟩ := box1g w (w.heap.size) (by omega) #[.bool (neg m.num), .slice a1 n1 c1, .slice a2 n2 c2] 27
 rw [hW]
 clear hW
 have g1 := g1.past hb
 have g2 := g2.past hb
 have hB := below_later hB hb
 clear hb
 have lm : w.heap.size < w1.heap.size := by omega
 have qm0 := q 0; have qm1 := q 1; have qm2 := q 2
 simp only [lgA, lgZ, lgS] at qm0 qm1 qm2
 clear q f
 clear hz0
 with_reducible refine (check05_any _ _ _ _ (digs m.num.natAbs) _ _ _ (digs m.den) _ g1 g2 (by omega) (by omega)).mono ?_
 rintro e w2 ⟨rfl, hb⟩
 have g1 := g1.past hb
 have g2 := g2.past hb
 obtain ⟨qm0, qm1, qm2, lm⟩ := bq3 hb lm qm0 qm1 qm2
 have hB := below_later hB hb
 clear hb
 rw [HC.out]
 go_wp2_with fail
 with_reducible refine (sign_c g1 (by omega)).mono ?_
 rintro e w3 ⟨rfl, hb⟩
 have g1 := g1.past hb
 have g2 := g2.past hb
 obtain ⟨qm0, qm1, qm2, lm⟩ := bq3 hb lm qm0 qm1 qm2
 have hB := below_later hB hb
 clear hb
 rw [HS.out]
 go_wp2
 go_ret2
 exact ⟨_, _, _, rfl, IntsAt.nil _, .inl rfl, hB⟩
set_option maxRecDepth 100000 in
set_option maxHeartbeats 8000000 in
theorem robust_go (k s sp : Int) (m : Rat) (a1 : Option Addr) (n1 c1 : Nat) (a2 : Option Addr) (n2 c2 : Nat) (w : World) (g1 : NatAt w a1 n1 c1 (digs m.num.natAbs)) (g2 : NatAt w a2 n2 c2 (digs m.den)) (hl : rlen m ≤ 1000) (h1 : ¬ sp < 1) (h2 : ¬ k < sp) (h3 : ¬ m.num < 0) : Calls Tryz.prog 12 #[.int .i64 k, .int .i64 s, .int .i64 sp, .agg #[.bool (neg m.num), .slice a1 n1 c1, .slice a2 n2 c2]] w (RetTab w (robustT k s sp m)) := by
 have ht := together_two k s sp m (by omega) (by omega) h3 hl
 obtain ⟨T, hT⟩ : ∃ T, robustT k s sp m = T := ⟨_, rfl⟩
 rw [hT] at ht ⊢
 have HT := Lib.hid ht
 clear ht hT
 have hc := chkR_canon m
 have HC := Lib.hid hc
 have hn1 := g1.len
 have hn2 := g2.len
 unfold rlen at hl
 clear hc
 obtain ⟨S, hS, hs⟩ : ∃ S, m.num.sign = S ∧ ¬ S < 0 := ⟨_, rfl, by rw [Int.sign_neg_iff]; exact h3⟩
 have HS := Lib.hid hS
 clear hS
 go_enter Tryz.func12, Tryz.ntmps12
 have hB := Below.refl w.heap.size w
 go_wp2_with fail
 obtain ⟨w1, hW, hz0, hb, q, f⟩ := box1g w (w.heap.size) (by omega) #[.bool (neg m.num), .slice a1 n1 c1, .slice a2 n2 c2] 27
 rw [hW]
 clear hW
 have g1 := g1.past hb
 have g2 := g2.past hb
 have hB := below_later hB hb
 clear hb
 have lm : w.heap.size < w1.heap.size := by omega
 have qm0 := q 0; have qm1 := q 1; have qm2 := q 2
 simp only [lgA, lgZ, lgS] at qm0 qm1 qm2
 clear q f
 clear hz0
 with_reducible refine (check05_any _ _ _ _ (digs m.num.natAbs) _ _ _ (digs m.den) _ g1 g2 (by omega) (by omega)).mono ?_
 rintro e w2 ⟨rfl, hb⟩
 have g1 := g1.past hb
 have g2 := g2.past hb
 obtain ⟨qm0, qm1, qm2, lm⟩ := bq3 hb lm qm0 qm1 qm2
 have hB := below_later hB hb
 clear hb
 rw [HC.out]
 go_wp2_with fail
 with_reducible refine (sign_c g1 (by omega)).mono ?_
 rintro e w3 ⟨rfl, hb⟩
 have g1 := g1.past hb
 have g2 := g2.past hb
 obtain ⟨qm0, qm1, qm2, lm⟩ := bq3 hb lm qm0 qm1 qm2
 have hB := below_later hB hb
 clear hb
 rw [HS.out]
 go_wp2_with fail
 have szW := hB.size
 refine wp_region_inv (by kernel_rfl) rfl (by kernel_rfl) (fun A0 V0 dd aa ww => ∃ (y26 y27 y28 y29 y30 y31 y32 y33 y34 y35 y36 y8 y9 : Value), aa = puts A0 [(26, y26), (27, y27), (28, y28), (29, y29), (30, y30), (31, y31), (32, y32), (33, y33), (34, y34), (35, y35), (36, y36), (8, y8), (9, y9)] ∧ Below V0.heap.size V0 ww ∧ Shut (dd 0 = true → y26 = .int .i64 k) ∧ Shut (dd 1 = true → y27 = .int .i64 s) ∧ Shut (dd 2 = true → y28 = .int .i64 k) ∧ Shut (dd 3 = true → IdV k y29 ww) ∧ Shut (dd 4 = true → y30 = .int .i64 sp) ∧ Shut (dd 5 = true → y31 = .agg #[.bool (neg m.num), .slice a1 n1 c1, .slice a2 n2 c2]) ∧ Shut (dd 6 = true → SpV sp (.bool (neg m.num)) (.slice a1 n1 c1) (.slice a2 n2 c2) y32 ww) ∧ Shut (dd 7 = true → dd 8 = false → LstV V0.heap.size 2 ([y29, y32].flatMap cellsOf) y33 ww) ∧ Shut (dd 8 = true → TabV V0.heap.size T y34 ww) ∧ Shut (dd 9 = true → y35 = part 0 y34) ∧ Shut (dd 10 = true → y36 = part 1 y34) ∧ Shut (dd 11 = true → y8 = y35) ∧ Shut (dd 12 = true → y9 = y36) ∧ True) ?_ ?_ ?_
 · exact ⟨_, _, _, _, _, _, _, _, _, _, _, _, _, puts_self _ [26, 27, 28, 29, 30, 31, 32, 33, 34, 35, 36, 8, 9], (Below.refl _ _).drew, fun h => (by cases h), fun h => (by cases h), fun h => (by cases h), fun h => (by cases h), fun h => (by cases h), fun h => (by cases h), fun h => (by cases h), fun h => (by cases h), fun h => (by cases h), fun h => (by cases h), fun h => (by cases h), fun h => (by cases h), fun h => (by cases h), trivial⟩
 · refine Steps.cons ?_ (Steps.cons ?_ (Steps.cons ?_ (Steps.cons ?_ (Steps.cons ?_ (Steps.cons ?_ (Steps.cons ?_ (Steps.cons ?_ (Steps.cons ?_ (Steps.cons ?_ (Steps.cons ?_ (Steps.cons ?_ (Steps.cons ?_ (Steps.nil)))))))))))))
   · intro dd aa ww K hc hun hn hI hK
     obtain ⟨y26, y27, y28, y29, y30, y31, y32, y33, y34, y35, y36, y8, y9, ea, hb, f0, f1, f2, f3, f4, f5, f6, f7, f8, f9, f10, f11, f12, _⟩ := hI
     try simp [Region.binds] at hn
     subst ea
     simp only [puts, Act.put, lsA, lsZ, lsS]
     go_simp
     refine hK.out _ _ ?_
     exact ⟨.int .i64 k, y27, y28, y29, y30, y31, y32, y33, y34, y35, y36, y8, y9, by simp only [puts, Act.put, lsA, lsZ, lsS], hb, fun _ => rfl, uo f1 rfl, uo f2 rfl, uo f3 rfl, uo f4 rfl, uo f5 rfl, uo f6 rfl, fun h h2 => ((f7.out (upd_of rfl h)) (upd_off h2)), fun h => absurd (hc.reach (f := 8) (s := 8) (l := 0) (by kernel_rfl) (upd_of rfl h)) (by rw [hun]; decide), uo f9 rfl, uo f10 rfl, uo f11 rfl, uo f12 rfl, trivial⟩
   · intro dd aa ww K hc hun hn hI hK
     obtain ⟨y26, y27, y28, y29, y30, y31, y32, y33, y34, y35, y36, y8, y9, ea, hb, f0, f1, f2, f3, f4, f5, f6, f7, f8, f9, f10, f11, f12, _⟩ := hI
     try simp [Region.binds] at hn
     subst ea
     simp only [puts, Act.put, lsA, lsZ, lsS]
     go_simp
     refine hK.out _ _ ?_
     exact ⟨y26, .int .i64 s, y28, y29, y30, y31, y32, y33, y34, y35, y36, y8, y9, by simp only [puts, Act.put, lsA, lsZ, lsS], hb, uo f0 rfl, fun _ => rfl, uo f2 rfl, uo f3 rfl, uo f4 rfl, uo f5 rfl, uo f6 rfl, fun h h2 => ((f7.out (upd_of rfl h)) (upd_off h2)), fun h => absurd (hc.reach (f := 8) (s := 8) (l := 1) (by kernel_rfl) (upd_of rfl h)) (by rw [hun]; decide), uo f9 rfl, uo f10 rfl, uo f11 rfl, uo f12 rfl, trivial⟩
   · intro dd aa ww K hc hun hn hI hK
     obtain ⟨y26, y27, y28, y29, y30, y31, y32, y33, y34, y35, y36, y8, y9, ea, hb, f0, f1, f2, f3, f4, f5, f6, f7, f8, f9, f10, f11, f12, _⟩ := hI
     try simp [Region.binds] at hn
     subst ea
     simp only [puts, Act.put, lsA, lsZ, lsS]
     go_simp
     refine hK.out _ _ ?_
     exact ⟨y26, y27, .int .i64 k, y29, y30, y31, y32, y33, y34, y35, y36, y8, y9, by simp only [puts, Act.put, lsA, lsZ, lsS], hb, uo f0 rfl, uo f1 rfl, fun _ => rfl, fun h => absurd (hc.reach (f := 8) (s := 3) (l := 2) (by kernel_rfl) (upd_of rfl h)) (by rw [hun]; decide), uo f4 rfl, uo f5 rfl, uo f6 rfl, fun h h2 => ((f7.out (upd_of rfl h)) (upd_off h2)), fun h => absurd (hc.reach (f := 8) (s := 8) (l := 2) (by kernel_rfl) (upd_of rfl h)) (by rw [hun]; decide), uo f9 rfl, uo f10 rfl, uo f11 rfl, uo f12 rfl, trivial⟩
   · intro dd aa ww K hc hun hn hI hK
     obtain ⟨y26, y27, y28, y29, y30, y31, y32, y33, y34, y35, y36, y8, y9, ea, hb, f0, f1, f2, f3, f4, f5, f6, f7, f8, f9, f10, f11, f12, _⟩ := hI
     try simp [Region.binds] at hn
     have ex := f2.out (by first | (simp [hn]; done) | exact rc hc hn | exact rc hc hn.1 | exact rc hc hn.2 | exact rc hc hn.2.1 | exact rc hc hn.2.2 | exact rc hc hn.2.2.1 | exact rc hc hn.2.2.2)
     subst ex
     subst ea
     simp only [puts, Act.put, lsA, lsZ, lsS]
     go_simp
     with_reducible refine (ideal_fun k _).mono ?_
     rintro e w1 ⟨b1, rfl, l1, rk0, h1⟩
     refine hK.out _ _ ?_
     exact ⟨y26, y27, .int .i64 k, .func (.func 75) #[] #[.pointer (some ⟨b1, 0, none⟩)], y30, y31, y32, y33, y34, y35, y36, y8, y9, by simp only [puts, Act.put, lsA, lsZ, lsS], below_later hb h1, uo f0 rfl, uo f1 rfl, fun h => rfl, fun _ => ⟨_, rfl, l1, rk0⟩, uo f4 rfl, uo f5 rfl, fun h => (f6.out (upd_of rfl h)).past h1, fun h => absurd (hc.reach (f := 8) (s := 7) (l := 3) (by kernel_rfl) (upd_of rfl h)) (by rw [hun]; decide), fun h => absurd (hc.reach (f := 8) (s := 8) (l := 3) (by kernel_rfl) (upd_of rfl h)) (by rw [hun]; decide), uo f9 rfl, uo f10 rfl, uo f11 rfl, uo f12 rfl, trivial⟩
   · intro dd aa ww K hc hun hn hI hK
     obtain ⟨y26, y27, y28, y29, y30, y31, y32, y33, y34, y35, y36, y8, y9, ea, hb, f0, f1, f2, f3, f4, f5, f6, f7, f8, f9, f10, f11, f12, _⟩ := hI
     try simp [Region.binds] at hn
     subst ea
     simp only [puts, Act.put, lsA, lsZ, lsS]
     go_simp
     refine hK.out _ _ ?_
     exact ⟨y26, y27, y28, y29, .int .i64 sp, y31, y32, y33, y34, y35, y36, y8, y9, by simp only [puts, Act.put, lsA, lsZ, lsS], hb, uo f0 rfl, uo f1 rfl, uo f2 rfl, uo f3 rfl, fun _ => rfl, uo f5 rfl, fun h => absurd (hc.reach (f := 8) (s := 6) (l := 4) (by kernel_rfl) (upd_of rfl h)) (by rw [hun]; decide), fun h h2 => ((f7.out (upd_of rfl h)) (upd_off h2)), fun h => absurd (hc.reach (f := 8) (s := 8) (l := 4) (by kernel_rfl) (upd_of rfl h)) (by rw [hun]; decide), uo f9 rfl, uo f10 rfl, uo f11 rfl, uo f12 rfl, trivial⟩
   · intro dd aa ww K hc hun hn hI hK
     obtain ⟨y26, y27, y28, y29, y30, y31, y32, y33, y34, y35, y36, y8, y9, ea, hb, f0, f1, f2, f3, f4, f5, f6, f7, f8, f9, f10, f11, f12, _⟩ := hI
     try simp [Region.binds] at hn
     have e0 := (hb.cell (p := ⟨w.heap.size, 0, none⟩) lm).trans qm0
     have e1 := (hb.cell (p := ⟨w.heap.size, 1, none⟩) lm).trans qm1
     have e2 := (hb.cell (p := ⟨w.heap.size, 2, none⟩) lm).trans qm2
     subst ea
     simp only [puts, Act.put, lsA, lsZ, lsS]
     go_simp
     refine hK.out _ _ ?_
     exact ⟨y26, y27, y28, y29, y30, .agg #[.bool (neg m.num), .slice a1 n1 c1, .slice a2 n2 c2], y32, y33, y34, y35, y36, y8, y9, by simp only [puts, Act.put, lsA, lsZ, lsS], hb, uo f0 rfl, uo f1 rfl, uo f2 rfl, uo f3 rfl, uo f4 rfl, fun _ => rfl, fun h => absurd (hc.reach (f := 8) (s := 6) (l := 5) (by kernel_rfl) (upd_of rfl h)) (by rw [hun]; decide), fun h h2 => ((f7.out (upd_of rfl h)) (upd_off h2)), fun h => absurd (hc.reach (f := 8) (s := 8) (l := 5) (by kernel_rfl) (upd_of rfl h)) (by rw [hun]; decide), uo f9 rfl, uo f10 rfl, uo f11 rfl, uo f12 rfl, trivial⟩
   · intro dd aa ww K hc hun hn hI hK
     obtain ⟨y26, y27, y28, y29, y30, y31, y32, y33, y34, y35, y36, y8, y9, ea, hb, f0, f1, f2, f3, f4, f5, f6, f7, f8, f9, f10, f11, f12, _⟩ := hI
     try simp [Region.binds] at hn
     have ex := f4.out (by first | (simp [hn]; done) | exact rc hc hn | exact rc hc hn.1 | exact rc hc hn.2 | exact rc hc hn.2.1 | exact rc hc hn.2.2 | exact rc hc hn.2.2.1 | exact rc hc hn.2.2.2)
     subst ex
     have ex := f5.out (by first | (simp [hn]; done) | exact rc hc hn | exact rc hc hn.1 | exact rc hc hn.2 | exact rc hc hn.2.1 | exact rc hc hn.2.2 | exact rc hc hn.2.2.1 | exact rc hc hn.2.2.2)
     subst ex
     subst ea
     simp only [puts, Act.put, lsA, lsZ, lsS]
     go_simp
     with_reducible refine (spiked_fun sp _ _ _ _).mono ?_
     rintro e w1 ⟨b2, b3, rfl, l2, l3, rs0, rm0, rm1, rm2, h1⟩
     refine hK.out _ _ ?_
     exact ⟨y26, y27, y28, y29, .int .i64 sp, .agg #[.bool (neg m.num), .slice a1 n1 c1, .slice a2 n2 c2], .func (.func 86) #[] #[.pointer (some ⟨b2, 0, none⟩), .pointer (some ⟨b3, 0, none⟩)], y33, y34, y35, y36, y8, y9, by simp only [puts, Act.put, lsA, lsZ, lsS], below_later hb h1, uo f0 rfl, uo f1 rfl, uo f2 rfl, fun h => (f3.out (upd_of rfl h)).past h1, fun h => rfl, fun h => rfl, fun _ => ⟨_, _, rfl, l2, l3, rs0, rm0, rm1, rm2⟩, fun h => absurd (hc.reach (f := 8) (s := 7) (l := 6) (by kernel_rfl) (upd_of rfl h)) (by rw [hun]; decide), fun h => absurd (hc.reach (f := 8) (s := 8) (l := 6) (by kernel_rfl) (upd_of rfl h)) (by rw [hun]; decide), uo f9 rfl, uo f10 rfl, uo f11 rfl, uo f12 rfl, trivial⟩
   · intro dd aa ww K hc hun hn hI hK
     obtain ⟨y26, y27, y28, y29, y30, y31, y32, y33, y34, y35, y36, y8, y9, ea, hb, f0, f1, f2, f3, f4, f5, f6, f7, f8, f9, f10, f11, f12, _⟩ := hI
     try simp [Region.binds] at hn
     obtain ⟨b1, ex, l1, rk0⟩ := f3.out (by first | (simp [hn]; done) | exact rc hc hn | exact rc hc hn.1 | exact rc hc hn.2 | exact rc hc hn.2.1 | exact rc hc hn.2.2 | exact rc hc hn.2.2.1 | exact rc hc hn.2.2.2)
     subst ex
     obtain ⟨b2, b3, ex, l2, l3, rs0, rm0, rm1, rm2⟩ := f6.out (by first | (simp [hn]; done) | exact rc hc hn | exact rc hc hn.1 | exact rc hc hn.2 | exact rc hc hn.2.1 | exact rc hc hn.2.2 | exact rc hc hn.2.2.1 | exact rc hc hn.2.2.2)
     subst ex
     subst ea
     simp only [puts, Act.put, lsA, lsZ, lsS]
     go_simp
     refine hK.out _ _ ?_
     exact ⟨y26, y27, y28, .func (.func 75) #[] #[.pointer (some ⟨b1, 0, none⟩)], y30, y31, .func (.func 86) #[] #[.pointer (some ⟨b2, 0, none⟩), .pointer (some ⟨b3, 0, none⟩)], .slice (some ⟨ww.heap.size, 0, none⟩) 2 2, y34, y35, y36, y8, y9, by simp only [puts, Act.put, lsA, lsZ, lsS], below_alloc hb _, uo f0 rfl, uo f1 rfl, uo f2 rfl, fun h => (f3.out (upd_of rfl h)).past ((Below.refl _ _).alloc (Nat.le_refl _) _), uo f4 rfl, uo f5 rfl, fun h => (f6.out (upd_of rfl h)).past ((Below.refl _ _).alloc (Nat.le_refl _) _), fun _ _ => LstV.new hb.size _ _, fun h => absurd (hc.reach (f := 8) (s := 8) (l := 7) (by kernel_rfl) (upd_of rfl h)) (by rw [hun]; decide), uo f9 rfl, uo f10 rfl, uo f11 rfl, uo f12 rfl, trivial⟩
   · intro dd aa ww K hc hun hn hI hK
     obtain ⟨y26, y27, y28, y29, y30, y31, y32, y33, y34, y35, y36, y8, y9, ea, hb, f0, f1, f2, f3, f4, f5, f6, f7, f8, f9, f10, f11, f12, _⟩ := hI
     try simp [Region.binds] at hn
     have ex := f0.out (by first | (simp [hn]; done) | exact rc hc hn | exact rc hc hn.1 | exact rc hc hn.2 | exact rc hc hn.2.1 | exact rc hc hn.2.2 | exact rc hc hn.2.2.1 | exact rc hc hn.2.2.2)
     subst ex
     have ex := f1.out (by first | (simp [hn]; done) | exact rc hc hn | exact rc hc hn.1 | exact rc hc hn.2 | exact rc hc hn.2.1 | exact rc hc hn.2.2 | exact rc hc hn.2.2.1 | exact rc hc hn.2.2.2)
     subst ex
     obtain ⟨b1, ex, l1, rk0⟩ := f3.out (by first | (simp [hn]; done) | exact rc hc hn | exact rc hc hn.1 | exact rc hc hn.2 | exact rc hc hn.2.1 | exact rc hc hn.2.2 | exact rc hc hn.2.2.1 | exact rc hc hn.2.2.2)
     subst ex
     obtain ⟨b2, b3, ex, l2, l3, rs0, rm0, rm1, rm2⟩ := f6.out (by first | (simp [hn]; done) | exact rc hc hn | exact rc hc hn.1 | exact rc hc hn.2 | exact rc hc hn.2.1 | exact rc hc hn.2.2 | exact rc hc hn.2.2.1 | exact rc hc hn.2.2.2)
     subst ex
     obtain ⟨G7, ex, hg1, hg2, hg3⟩ := f7.out (by first | (simp [hn]; done) | exact rc hc hn | exact rc hc hn.1 | exact rc hc hn.2 | exact rc hc hn.2.1 | exact rc hc hn.2.2 | exact rc hc hn.2.2.1 | exact rc hc hn.2.2.2) hun
     subst ex
     have z0 := hg3 0 (by simp [cellsOf])
     have z1 := hg3 1 (by simp [cellsOf])
     simp only [List.flatMap_cons, List.flatMap_nil, cellsOf, List.cons_append, List.nil_append, List.append_nil, lgZ, lgS] at z0 z1
     subst ea
     simp only [puts, Act.put, lsA, lsZ, lsS]
     go_simp
     with_reducible refine (HT.out _ b1 b2 b3 _ _ _ _ _ _ _ hg2 l1 z0 rk0 l2 l3 z1 rs0 rm0 rm1 rm2 (g1.past hb) (g2.past hb)).mono ?_
     rintro e w1 ⟨aT, nT, cT, rfl, hI, hN, h1⟩
     have hN := tabB hN hb.size
     refine hK.out _ _ ?_
     exact ⟨.int .i64 k, .int .i64 s, y28, .func (.func 75) #[] #[.pointer (some ⟨b1, 0, none⟩)], y30, y31, .func (.func 86) #[] #[.pointer (some ⟨b2, 0, none⟩), .pointer (some ⟨b3, 0, none⟩)], .slice (some ⟨G7, 0, none⟩) 2 2, .tuple #[.slice aT nT cT, .int .i64 T.why], y35, y36, y8, y9, by simp only [puts, Act.put, lsA, lsZ, lsS], below_later hb h1, fun h => rfl, fun h => rfl, uo f2 rfl, fun h => (f3.out (upd_of rfl h)).past h1, uo f4 rfl, uo f5 rfl, fun h => (f6.out (upd_of rfl h)).past h1, fun _ h2 => absurd h2 (by simp [upd]), fun _ => ⟨_, _, _, rfl, hI, hN⟩, fun h => absurd (hc.reach (f := 8) (s := 9) (l := 8) (by kernel_rfl) (upd_of rfl h)) (by rw [hun]; decide), fun h => absurd (hc.reach (f := 8) (s := 10) (l := 8) (by kernel_rfl) (upd_of rfl h)) (by rw [hun]; decide), uo f11 rfl, uo f12 rfl, trivial⟩
   · intro dd aa ww K hc hun hn hI hK
     obtain ⟨y26, y27, y28, y29, y30, y31, y32, y33, y34, y35, y36, y8, y9, ea, hb, f0, f1, f2, f3, f4, f5, f6, f7, f8, f9, f10, f11, f12, _⟩ := hI
     try simp [Region.binds] at hn
     obtain ⟨aT, nT, cT, ex, hI, hN⟩ := f8.out (by first | (simp [hn]; done) | exact rc hc hn | exact rc hc hn.1 | exact rc hc hn.2 | exact rc hc hn.2.1 | exact rc hc hn.2.2 | exact rc hc hn.2.2.1 | exact rc hc hn.2.2.2)
     subst ex
     subst ea
     simp only [puts, Act.put, lsA, lsZ, lsS]
     go_simp
     refine hK.out _ _ ?_
     exact ⟨y26, y27, y28, y29, y30, y31, y32, y33, .tuple #[.slice aT nT cT, .int .i64 T.why], .slice aT nT cT, y36, y8, y9, by simp only [puts, Act.put, lsA, lsZ, lsS], hb, uo f0 rfl, uo f1 rfl, uo f2 rfl, uo f3 rfl, uo f4 rfl, uo f5 rfl, uo f6 rfl, fun _ h2 => absurd (show dd 8 = true from (by first | (simp [hn]; done) | exact rc hc hn | exact rc hc hn.1 | exact rc hc hn.2 | exact rc hc hn.2.1 | exact rc hc hn.2.2 | exact rc hc hn.2.2.1 | exact rc hc hn.2.2.2)) (by rw [upd_off h2]; decide), uo f8 rfl, fun _ => rfl, uo f10 rfl, fun h => absurd (hc.reach (f := 8) (s := 11) (l := 9) (by kernel_rfl) (upd_of rfl h)) (by rw [hun]; decide), uo f12 rfl, trivial⟩
   · intro dd aa ww K hc hun hn hI hK
     obtain ⟨y26, y27, y28, y29, y30, y31, y32, y33, y34, y35, y36, y8, y9, ea, hb, f0, f1, f2, f3, f4, f5, f6, f7, f8, f9, f10, f11, f12, _⟩ := hI
     try simp [Region.binds] at hn
     obtain ⟨aT, nT, cT, ex, hI, hN⟩ := f8.out (by first | (simp [hn]; done) | exact rc hc hn | exact rc hc hn.1 | exact rc hc hn.2 | exact rc hc hn.2.1 | exact rc hc hn.2.2 | exact rc hc hn.2.2.1 | exact rc hc hn.2.2.2)
     subst ex
     subst ea
     simp only [puts, Act.put, lsA, lsZ, lsS]
     go_simp
     refine hK.out _ _ ?_
     exact ⟨y26, y27, y28, y29, y30, y31, y32, y33, .tuple #[.slice aT nT cT, .int .i64 T.why], y35, .int .i64 T.why, y8, y9, by simp only [puts, Act.put, lsA, lsZ, lsS], hb, uo f0 rfl, uo f1 rfl, uo f2 rfl, uo f3 rfl, uo f4 rfl, uo f5 rfl, uo f6 rfl, fun _ h2 => absurd (show dd 8 = true from (by first | (simp [hn]; done) | exact rc hc hn | exact rc hc hn.1 | exact rc hc hn.2 | exact rc hc hn.2.1 | exact rc hc hn.2.2 | exact rc hc hn.2.2.1 | exact rc hc hn.2.2.2)) (by rw [upd_off h2]; decide), uo f8 rfl, uo f9 rfl, fun _ => rfl, uo f11 rfl, fun h => absurd (hc.reach (f := 8) (s := 12) (l := 10) (by kernel_rfl) (upd_of rfl h)) (by rw [hun]; decide), trivial⟩
   · intro dd aa ww K hc hun hn hI hK
     obtain ⟨y26, y27, y28, y29, y30, y31, y32, y33, y34, y35, y36, y8, y9, ea, hb, f0, f1, f2, f3, f4, f5, f6, f7, f8, f9, f10, f11, f12, _⟩ := hI
     try simp [Region.binds] at hn
     obtain ⟨aT, nT, cT, ex, hI, hN⟩ := f8.out (by first | (simp [hn]; done) | exact rc hc hn | exact rc hc hn.1 | exact rc hc hn.2 | exact rc hc hn.2.1 | exact rc hc hn.2.2 | exact rc hc hn.2.2.1 | exact rc hc hn.2.2.2)
     subst ex
     have ex : y35 = .slice aT nT cT := f9.out (by first | (simp [hn]; done) | exact rc hc hn | exact rc hc hn.1 | exact rc hc hn.2 | exact rc hc hn.2.1 | exact rc hc hn.2.2 | exact rc hc hn.2.2.1 | exact rc hc hn.2.2.2)
     subst ex
     subst ea
     simp only [puts, Act.put, lsA, lsZ, lsS]
     go_simp
     refine hK.out _ _ ?_
     exact ⟨y26, y27, y28, y29, y30, y31, y32, y33, .tuple #[.slice aT nT cT, .int .i64 T.why], .slice aT nT cT, y36, .slice aT nT cT, y9, by simp only [puts, Act.put, lsA, lsZ, lsS], hb, uo f0 rfl, uo f1 rfl, uo f2 rfl, uo f3 rfl, uo f4 rfl, uo f5 rfl, uo f6 rfl, fun _ h2 => absurd (show dd 8 = true from (by first | (simp [hn]; done) | exact rc hc hn | exact rc hc hn.1 | exact rc hc hn.2 | exact rc hc hn.2.1 | exact rc hc hn.2.2 | exact rc hc hn.2.2.1 | exact rc hc hn.2.2.2)) (by rw [upd_off h2]; decide), uo f8 rfl, fun h => rfl, uo f10 rfl, fun _ => rfl, uo f12 rfl, trivial⟩
   · intro dd aa ww K hc hun hn hI hK
     obtain ⟨y26, y27, y28, y29, y30, y31, y32, y33, y34, y35, y36, y8, y9, ea, hb, f0, f1, f2, f3, f4, f5, f6, f7, f8, f9, f10, f11, f12, _⟩ := hI
     try simp [Region.binds] at hn
     obtain ⟨aT, nT, cT, ex, hI, hN⟩ := f8.out (by first | (simp [hn]; done) | exact rc hc hn | exact rc hc hn.1 | exact rc hc hn.2 | exact rc hc hn.2.1 | exact rc hc hn.2.2 | exact rc hc hn.2.2.1 | exact rc hc hn.2.2.2)
     subst ex
     have ex : y36 = .int .i64 T.why := f10.out (by first | (simp [hn]; done) | exact rc hc hn | exact rc hc hn.1 | exact rc hc hn.2 | exact rc hc hn.2.1 | exact rc hc hn.2.2 | exact rc hc hn.2.2.1 | exact rc hc hn.2.2.2)
     subst ex
     subst ea
     simp only [puts, Act.put, lsA, lsZ, lsS]
     go_simp
     refine hK.out _ _ ?_
     exact ⟨y26, y27, y28, y29, y30, y31, y32, y33, .tuple #[.slice aT nT cT, .int .i64 T.why], y35, .int .i64 T.why, y8, .int .i64 T.why, by simp only [puts, Act.put, lsA, lsZ, lsS], hb, uo f0 rfl, uo f1 rfl, uo f2 rfl, uo f3 rfl, uo f4 rfl, uo f5 rfl, uo f6 rfl, fun _ h2 => absurd (show dd 8 = true from (by first | (simp [hn]; done) | exact rc hc hn | exact rc hc hn.1 | exact rc hc hn.2 | exact rc hc hn.2.1 | exact rc hc hn.2.2 | exact rc hc hn.2.2.1 | exact rc hc hn.2.2.2)) (by rw [upd_off h2]; decide), uo f8 rfl, uo f9 rfl, fun h => rfl, uo f11 rfl, fun _ => rfl, trivial⟩
 intro dd aa w4 hd hI
 obtain ⟨y26, y27, y28, y29, y30, y31, y32, y33, y34, y35, y36, y8, y9, ea, hb, f0, f1, f2, f3, f4, f5, f6, f7, f8, f9, f10, f11, f12, _⟩ := hI
 have ex := f0.out (hd 0 (by simp))
 subst ex
 have ex := f1.out (hd 1 (by simp))
 subst ex
 have ex := f2.out (hd 2 (by simp))
 subst ex
 obtain ⟨b1, ex, l1, rk0⟩ := f3.out (hd 3 (by simp))
 subst ex
 have ex := f4.out (hd 4 (by simp))
 subst ex
 have ex := f5.out (hd 5 (by simp))
 subst ex
 obtain ⟨b2, b3, ex, l2, l3, rs0, rm0, rm1, rm2⟩ := f6.out (hd 6 (by simp))
 subst ex
 obtain ⟨aT, nT, cT, ex, hI, hN⟩ := f8.out (hd 8 (by simp))
 subst ex
 have ex : y35 = .slice aT nT cT := f9.out (hd 9 (by simp))
 subst ex
 have ex : y36 = .int .i64 T.why := f10.out (hd 10 (by simp))
 subst ex
 have ex : y8 = .slice aT nT cT := f11.out (hd 11 (by simp))
 subst ex
 have ex : y9 = .int .i64 T.why := f12.out (hd 12 (by simp))
 subst ex
 subst ea
 simp only [puts, Act.put, lsA, lsZ, lsS]
 have g1 := g1.past hb
 have g2 := g2.past hb
 obtain ⟨qm0, qm1, qm2, lm⟩ := bq3 hb lm qm0 qm1 qm2
 have hB := below_later hB hb
 clear hb hd
 have hN := tabB hN szW
 go_wp2
 go_ret2
 exact ⟨_, _, _, rfl, hI, hN, hB⟩
theorem robust_any (k s sp : Int) (m : Rat) (a1 : Option Addr) (n1 c1 : Nat) (a2 : Option Addr) (n2 c2 : Nat) (w : World) (g1 : NatAt w a1 n1 c1 (digs m.num.natAbs)) (g2 : NatAt w a2 n2 c2 (digs m.den)) (hl : rlen m ≤ 1000) : Calls Tryz.prog 12 #[.int .i64 k, .int .i64 s, .int .i64 sp, .agg #[.bool (neg m.num), .slice a1 n1 c1, .slice a2 n2 c2]] w (RetTab w (robustT k s sp m)) := by
 by_cases h1 : sp < 1
 · exact robust_low k s sp m _ _ _ _ _ _ w g1 g2 hl h1
 by_cases h2 : k < sp
 · exact robust_high k s sp m _ _ _ _ _ _ w g1 g2 hl h1 h2
 by_cases h3 : m.num < 0
 · exact robust_neg k s sp m _ _ _ _ _ _ w g1 g2 hl h1 h2 h3
 · exact robust_go k s sp m _ _ _ _ _ _ w g1 g2 hl h1 h2 h3
end Go.Proofs.YtlkoenpdmlbhlaaGreat
