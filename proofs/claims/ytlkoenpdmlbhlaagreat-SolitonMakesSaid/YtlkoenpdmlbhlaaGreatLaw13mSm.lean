import Derived.Test.YtlkoenpdmlbhlaaGreatS0Sm
import Derived.Test.YtlkoenpdmlbhlaaGreatLaw13aSm
import Derived.Test.YtlkoenpdmlbhlaaGreatRef13bSm
import Derived.Test.YtlkoenpdmlbhlaaGreatKit6Sm
set_option linter.unusedVariables false
set_option linter.unusedSimpArgs false
namespace Go.Proofs.YtlkoenpdmlbhlaaGreat
open Go.RowKit
def WritI (w : World) (B : Nat) (a : Option Addr) (n : Nat) : Prop :=
 n = 0 ∨ ∃ b, a = some ⟨b, 0, none⟩ ∧ B ≤ b ∧ b < w.heap.size ∧ (∀ i, i < n → ∃ z, w.cell? ⟨b, i, none⟩ = some (.int .i64 z)) ∧ ∀ i, w.frozen? ⟨b, i, none⟩ = false
structure Apart (a : Option Addr) (w w' : World) : Prop where
 size : w'.heap.size = w.heap.size
 cell : ∀ b o, (∀ x, a = some x → x.block ≠ b) → w'.cell? ⟨b, o, none⟩ = w.cell? ⟨b, o, none⟩
 frozen : ∀ b o, w'.frozen? ⟨b, o, none⟩ = w.frozen? ⟨b, o, none⟩
theorem Apart.refl (a : Option Addr) (w : World) : Apart a w w := ⟨rfl, fun _ _ _ => rfl, fun _ _ => rfl⟩
theorem WritI.of {w w0 : World} {r : Tab} {a : Option Addr} {n c : Nat} (h : IntsAt w a n c r.list) (h2 : n = 0 ∨ ∃ b, a = some ⟨b, 0, none⟩ ∧ w0.heap.size ≤ b ∧ ∀ i, w.frozen? ⟨b, i, none⟩ = false) : WritI w w0.heap.size a n := by
 rcases h2 with h0 | ⟨b, rfl, h3, h4⟩
 · exact .inl h0
 · rcases h.cell with h0 | ⟨b2, o, e, hl, hc⟩
   · exact .inl h0
   · injection e with e
     injection e with e1 e2
     subst e1
     subst e2
     exact .inr ⟨b, rfl, h3, hl, fun i hi => ⟨_, by have := hc i hi; rwa [Nat.zero_add] at this⟩, h4⟩
theorem WritI.past {w w' : World} {B : Nat} {a : Option Addr} {n : Nat} (h : WritI w B a n) (hb : Below w.heap.size w w') : WritI w' B a n :=
 h.imp id fun ⟨b, e, h1, h2, h3, h4⟩ => ⟨b, e, h1, Nat.lt_of_lt_of_le h2 hb.size, fun i hi => by obtain ⟨z, hz⟩ := h3 i hi; exact ⟨z, (hb.cell (p := ⟨b, i, none⟩) h2).trans hz⟩, fun i => (hb.frozen (p := ⟨b, i, none⟩) h2).trans (h4 i)⟩
theorem WritI.mono {w : World} {B B' : Nat} {a : Option Addr} {n : Nat} (h : WritI w B a n) (hB : B' ≤ B) : WritI w B' a n :=
 h.imp id fun ⟨b, e, h1, r⟩ => ⟨b, e, Nat.le_trans hB h1, r⟩
theorem WritI.apart {w w' : World} {B L : Nat} {a a2 : Option Addr} {n : Nat} (h : WritI w B a n) (ha : Apart a2 w w') (hL : ∀ x, a2 = some x → x.block < L) (hB : L ≤ B) : WritI w' B a n :=
 h.imp id fun ⟨b, e, h1, h2, h3, h4⟩ => ⟨b, e, h1, by rw [ha.size]; exact h2, fun i hi => by
  obtain ⟨z, hz⟩ := h3 i hi
  exact ⟨z, (ha.cell b i (fun x hx => by have := hL x hx; omega)).trans hz⟩, fun i => (ha.frozen b i).trans (h4 i)⟩
theorem WritI.lim {w : World} {B : Nat} {a : Option Addr} {n : Nat} (h : WritI w B a n) : n = 0 ∨ ∀ x, a = some x → x.block < w.heap.size :=
 h.imp id fun ⟨b, e, _, h2, _⟩ x hx => by rw [e] at hx; cases hx; exact h2
theorem WritI.after {w w' : World} {B L : Nat} {a a2 : Option Addr} {n n2 : Nat} (h : WritI w B a n) (h0 : n2 = 0 → w' = w) (ha : n2 = 0 ∨ Apart a2 w w') (hL : n2 = 0 ∨ ∀ x, a2 = some x → x.block < L) (hB : L ≤ B) : WritI w' B a n := by
 by_cases e : n2 = 0
 · rw [h0 e]; exact h
 · exact h.apart (ha.resolve_left e) (hL.resolve_left e) hB
set_option maxRecDepth 100000 in
set_option maxHeartbeats 4000000 in
theorem overInts_any (B : Nat) (a : Option Addr) (n c : Nat) (w : World) (h : WritI w B a n) (hn : n ≤ 9223372036854775807) :
 Calls Tryz.prog 15 #[.slice a n c] w fun e w' => e = .returned (.tuple #[]) ∧ Below B w w' ∧ (n = 0 ∨ Apart a w w') ∧ (n = 0 → w' = w) := by
 rcases h with h0 | ⟨b, rfl, h1, h2, h3, h4⟩
 · subst h0
   go_enter Tryz.func15, Tryz.ntmps15
   go_wp2
   go_loopw [2] (fun i wr => i = .int .i64 0 ∧ wr = w) (fun i _ => 0)
   case atStart => exact ⟨rfl, rfl⟩
   case round =>
    obtain ⟨rfl, rfl⟩ := hrel
    go_wp2
    go_end0
    exact ⟨rfl, Below.refl _ _, by simp, by simp⟩
 · go_enter Tryz.func15, Tryz.ntmps15
   go_wp2
   go_loopw [2] (fun i wr => ∃ (j : Nat), j ≤ n ∧ i = .int .i64 (j : Int) ∧ Below B w wr ∧ Apart (some ⟨b, 0, none⟩) w wr ∧ (∀ i, i < n → ∃ z, wr.cell? ⟨b, i, none⟩ = some (.int .i64 z)) ∧ (n = 0 → wr = w)) (fun i _ => n - (intOf i).toNat)
   case atStart => exact ⟨0, Nat.zero_le _, rfl, Below.refl _ _, Apart.refl _ _, h3, fun _ => rfl⟩
   case round =>
    clear h3
    obtain ⟨j, hj, rfl, hb, ha, h3, hz⟩ := hrel
    by_cases hlt : j < n
    · obtain ⟨z, hc⟩ := h3 j hlt
      have hf := (ha.frozen b j).trans (h4 j)
      have HB := Lib.hid (hb.setCell (p := ⟨b, j, none⟩) h1 (.int .i64 (-77)))
      have HA := Lib.hid (show Apart (some ⟨b, 0, none⟩) w (wr.setCell ⟨b, j, none⟩ (.int .i64 (-77))) from ⟨by simpa using ha.size, fun b2 o hx => by
       have hne : b ≠ b2 := hx _ rfl
       rw [World.cell?_setCell_other _ _ _ _ (fun e => hne (congrArg Addr.block e))]
       exact ha.cell b2 o hx, fun b2 o => by rw [World.frozen?_setCell]; exact ha.frozen b2 o⟩)
      have HC := Lib.hid (show ∀ i, i < n → ∃ z, (wr.setCell ⟨b, j, none⟩ (.int .i64 (-77))).cell? ⟨b, i, none⟩ = some (.int .i64 z) from fun i hi => by
       by_cases e : j = i
       · subst e; exact ⟨-77, World.cell?_setCell_same _ _ _ hc⟩
       · rw [World.cell?_setCell_other _ _ _ _ (fun x => e (by injection x))]; exact h3 i hi)
      clear h3 ha hb hz
      go_wp2
      go_roundw
      case rel => exact ⟨j + 1, by omega, by go_num, HB.out, HA.out, HC.out, fun h => absurd h (by omega)⟩
      case measure => simp [intOf]; omega
    · obtain rfl : j = n := by omega
      clear h3
      go_wp2
      go_end0
      exact ⟨rfl, hb, .inr ha, hz⟩
def farB (k : Int) : Bool := decide (120 < k) && decide (k ≤ 65536)
set_option maxRecDepth 100000 in
theorem far13_any (k : Int) (w : World) : Calls Tryz.prog 6 #[.int .i64 k] w (RetVal w (.bool (farB k))) := by
 unfold farB
 by_cases h1 : 120 < k
 · by_cases h2 : k ≤ 65536
   · rw [decide_eq_true h1, decide_eq_true h2]
     go_enter Tryz.func6, Tryz.ntmps6
     go_wp2
     go_ret
     exact ⟨rfl, Below.refl _ _⟩
   · rw [decide_eq_true h1, decide_eq_false h2]
     go_enter Tryz.func6, Tryz.ntmps6
     go_wp2
     go_ret
     exact ⟨rfl, Below.refl _ _⟩
 · rw [decide_eq_false h1, Bool.false_and]
   go_enter Tryz.func6, Tryz.ntmps6
   go_wp2
   go_ret
   exact ⟨rfl, Below.refl _ _⟩
set_option maxRecDepth 100000 in
set_option maxHeartbeats 4000000 in
theorem robust_raw (k s sp : Int) (b : Bool) (l1 l2 : List Nat) (a1 : Option Addr) (n1 c1 : Nat) (a2 : Option Addr) (n2 c2 : Nat) (w : World) (g1 : NatAt w a1 n1 c1 l1) (g2 : NatAt w a2 n2 c2 l2) (h1 : n1 ≤ 4) (h2 : n2 ≤ 4) (h : chkR b l1 l2 ≠ 0) :
 Calls Tryz.prog 12 #[.int .i64 k, .int .i64 s, .int .i64 sp, .agg #[.bool b, .slice a1 n1 c1, .slice a2 n2 c2]] w (RetTab w (.error 6)) := by
 have hc := chkR_no h
 have HC := Lib.hid hc
 clear hc h
 go_enter Tryz.func12, Tryz.ntmps12
 have hB := Below.refl w.heap.size w
 go_wp2_with fail
 obtain ⟨w1, hW, hz0, hb, q, f⟩ := box1g w (w.heap.size) (by omega) #[.bool b, .slice a1 n1 c1, .slice a2 n2 c2] 27
 rw [hW]
 clear hW
 have g1 := g1.past hb
 have g2 := g2.past hb
 have hB := below_later hB hb
 clear hb
 have lm : w.heap.size < w1.heap.size := by omega
 have qm0 := q 0; have qm1 := q 1; have qm2 := q 2
 simp only [lgA, lgZ, lgS] at qm0 qm1 qm2
 clear q f
 clear hz0
 with_reducible refine (check05_any _ _ _ _ l1 _ _ _ l2 _ g1 g2 (by omega) (by omega)).mono ?_
 rintro e w2 ⟨rfl, hb⟩
 have g1 := g1.past hb
 have g2 := g2.past hb
 obtain ⟨qm0, qm1, qm2, lm⟩ := bq3 hb lm qm0 qm1 qm2
 have hB := below_later hB hb
 clear hb
 rw [HC.out]
 go_wp2
 go_ret2
 exact ⟨_, _, _, rfl, IntsAt.nil _, .inl rfl, hB⟩
set_option maxRecDepth 100000 in
set_option maxHeartbeats 4000000 in
theorem rrobust_raw (k s sp : Int) (b : Bool) (l1 l2 : List Nat) (a1 : Option Addr) (n1 c1 : Nat) (a2 : Option Addr) (n2 c2 : Nat) (w : World) (g1 : NatAt w a1 n1 c1 l1) (g2 : NatAt w a2 n2 c2 l2) (h1 : n1 ≤ 4) (h2 : n2 ≤ 4) (h : chkR b l1 l2 ≠ 0) :
 Calls Tryz.prog 13 #[.int .i64 k, .int .i64 s, .int .i64 sp, .agg #[.bool b, .slice a1 n1 c1, .slice a2 n2 c2]] w (RetTabR w (.error 6)) := by
 have hc := chkR_no h
 have HC := Lib.hid hc
 clear hc h
 go_enter Tryz.func13, Tryz.ntmps13
 have hB := Below.refl w.heap.size w
 go_wp2_with fail
 obtain ⟨w1, hW, hz0, hb, q, f⟩ := box1g w (w.heap.size) (by omega) #[.bool b, .slice a1 n1 c1, .slice a2 n2 c2] 27
 rw [hW]
 clear hW
 have g1 := g1.past hb
 have g2 := g2.past hb
 have hB := below_later hB hb
 clear hb
 have lm : w.heap.size < w1.heap.size := by omega
 have qm0 := q 0; have qm1 := q 1; have qm2 := q 2
 simp only [lgA, lgZ, lgS] at qm0 qm1 qm2
 clear q f
 clear hz0
 with_reducible refine (rcheck05_any _ _ _ _ l1 _ _ _ l2 _ g1 g2 (by omega) (by omega)).mono ?_
 rintro e w2 ⟨rfl, hb⟩
 have g1 := g1.past hb
 have g2 := g2.past hb
 obtain ⟨qm0, qm1, qm2, lm⟩ := bq3 hb lm qm0 qm1 qm2
 have hB := below_later hB hb
 clear hb
 rw [HC.out]
 go_wp2
 go_ret2
 exact ⟨_, _, _, rfl, IntsAt.nil _, hB⟩
set_option maxRecDepth 100000 in
set_option maxHeartbeats 4000000 in
theorem makes13_far (k s sp : Int) (b : Bool) (l1 l2 : List Nat) (a1 : Option Addr) (n1 c1 : Nat) (a2 : Option Addr) (n2 c2 : Nat) (w : World) (g1 : NatAt w a1 n1 c1 l1) (g2 : NatAt w a2 n2 c2 l2) (hf : farB k = true) : Calls Tryz.prog 3 #[.int .i64 k, .int .i64 s, .int .i64 sp, .agg #[.bool b, .slice a1 n1 c1, .slice a2 n2 c2]] w (RetVal w (.bool true)) := by
 have hm1 : n1 ≤ 9223372036854775807 := by have h1 := g1.cle; have h2 := g1.le; omega
 have hm2 : n2 ≤ 9223372036854775807 := by have h1 := g2.cle; have h2 := g2.le; omega
 have HF := Lib.hid hf
 clear hf
 go_enter Tryz.func3, Tryz.ntmps3
 have hB := Below.refl w.heap.size w
 go_wp2_with fail
 obtain ⟨w1, hW, hz0, hb, q, f⟩ := box1g w (w.heap.size) (by omega) #[.bool b, .slice a1 n1 c1, .slice a2 n2 c2] 27
 rw [hW]
 clear hW
 have hB := below_later hB hb
 clear hb
 have lm : w.heap.size < w1.heap.size := by omega
 have qm0 := q 0; have qm1 := q 1; have qm2 := q 2
 simp only [lgA, lgZ, lgS] at qm0 qm1 qm2
 clear q f
 clear hz0
 with_reducible refine (far13_any k _).mono ?_
 rintro e w2 ⟨rfl, hb⟩
 obtain ⟨qm0, qm1, qm2, lm⟩ := bq3 hb lm qm0 qm1 qm2
 have hB := below_later hB hb
 clear hb
 rw [HF.out]
 go_wp2_with fail
 with_reducible refine (awake13 _).mono ?_
 rintro e w3 ⟨rfl, hb⟩
 obtain ⟨qm0, qm1, qm2, lm⟩ := bq3 hb lm qm0 qm1 qm2
 have hB := below_later hB hb
 clear hb
 go_wp2
 go_ret
 exact ⟨rfl, hB⟩
set_option maxRecDepth 100000 in
set_option maxHeartbeats 4000000 in
theorem makes13_long (k s sp : Int) (b : Bool) (l1 l2 : List Nat) (a1 : Option Addr) (n1 c1 : Nat) (a2 : Option Addr) (n2 c2 : Nat) (w : World) (g1 : NatAt w a1 n1 c1 l1) (g2 : NatAt w a2 n2 c2 l2) (hf : farB k = false) (hl : (decide ((4 : Int) < (n1 : Int)) || decide ((4 : Int) < (n2 : Int))) = true) : Calls Tryz.prog 3 #[.int .i64 k, .int .i64 s, .int .i64 sp, .agg #[.bool b, .slice a1 n1 c1, .slice a2 n2 c2]] w (RetVal w (.bool true)) := by
 have hm1 : n1 ≤ 9223372036854775807 := by have h1 := g1.cle; have h2 := g1.le; omega
 have hm2 : n2 ≤ 9223372036854775807 := by have h1 := g2.cle; have h2 := g2.le; omega
 have HF := Lib.hid hf
 have HL := Lib.hid hl
 clear hl
 clear hf
 go_enter Tryz.func3, Tryz.ntmps3
 have hB := Below.refl w.heap.size w
 go_wp2_with fail
 obtain ⟨w1, hW, hz0, hb, q, f⟩ := box1g w (w.heap.size) (by omega) #[.bool b, .slice a1 n1 c1, .slice a2 n2 c2] 27
 rw [hW]
 clear hW
 have hB := below_later hB hb
 clear hb
 have lm : w.heap.size < w1.heap.size := by omega
 have qm0 := q 0; have qm1 := q 1; have qm2 := q 2
 simp only [lgA, lgZ, lgS] at qm0 qm1 qm2
 clear q f
 clear hz0
 with_reducible refine (far13_any k _).mono ?_
 rintro e w2 ⟨rfl, hb⟩
 obtain ⟨qm0, qm1, qm2, lm⟩ := bq3 hb lm qm0 qm1 qm2
 have hB := below_later hB hb
 clear hb
 rw [HF.out]
 go_wp2_with fail
 with_reducible refine (longRatio_any b _ _ _ _ _ _ 4 _ hm1 hm2).mono ?_
 rintro e w3 ⟨rfl, hb⟩
 obtain ⟨qm0, qm1, qm2, lm⟩ := bq3 hb lm qm0 qm1 qm2
 have hB := below_later hB hb
 clear hb
 rw [HL.out]
 go_wp2_with fail
 with_reducible refine (awake13 _).mono ?_
 rintro e w4 ⟨rfl, hb⟩
 obtain ⟨qm0, qm1, qm2, lm⟩ := bq3 hb lm qm0 qm1 qm2
 have hB := below_later hB hb
 clear hb
 go_wp2
 go_ret
 exact ⟨rfl, hB⟩
set_option maxRecDepth 100000 in
set_option maxHeartbeats 16000000 in
theorem makes13_go (k s sp : Int) (b : Bool) (l1 l2 : List Nat) (a1 : Option Addr) (n1 c1 : Nat) (a2 : Option Addr) (n2 c2 : Nat) (w : World) (g1 : NatAt w a1 n1 c1 l1) (g2 : NatAt w a2 n2 c2 l2) (h1 : n1 ≤ 4) (h2 : n2 ≤ 4) (hf : farB k = false) (T2 : Tab)
 (hR : ∀ (a1 : Option Addr) (n1 c1 : Nat) (a2 : Option Addr) (n2 c2 : Nat) (w : World), NatAt w a1 n1 c1 l1 → NatAt w a2 n2 c2 l2 → Calls Tryz.prog 12 #[.int .i64 k, .int .i64 s, .int .i64 sp, .agg #[.bool b, .slice a1 n1 c1, .slice a2 n2 c2]] w (RetTab w T2))
 (hD : ∀ (a1 : Option Addr) (n1 c1 : Nat) (a2 : Option Addr) (n2 c2 : Nat) (w : World), NatAt w a1 n1 c1 l1 → NatAt w a2 n2 c2 l2 → Calls Tryz.prog 13 #[.int .i64 k, .int .i64 s, .int .i64 sp, .agg #[.bool b, .slice a1 n1 c1, .slice a2 n2 c2]] w (RetTabR w T2)) :
 Calls Tryz.prog 3 #[.int .i64 k, .int .i64 s, .int .i64 sp, .agg #[.bool b, .slice a1 n1 c1, .slice a2 n2 c2]] w (RetVal w (.bool true)) := by
 have hl : (decide ((4 : Int) < (n1 : Int)) || decide ((4 : Int) < (n2 : Int))) = false := by rw [decide_eq_false (by omega), decide_eq_false (by omega)]; rfl
 have hI := fun w => ideal_any k s w
 have hJ := fun w => rideal13 k s w
 obtain ⟨T1, hT1⟩ : ∃ T1, idealT k s = T1 := ⟨_, rfl⟩
 simp only [hT1] at hI hJ
 have HF := Lib.hid hf
 have HL := Lib.hid hl
 have HR := Lib.hid hR
 have HD := Lib.hid hD
 have HI := Lib.hid hI
 have HJ := Lib.hid hJ
 have HS := Lib.hid (eqR_same b l1 l2)
 clear hf hl hR hD hI hJ hT1
 go_enter Tryz.func3, Tryz.ntmps3
 have hB := Below.refl w.heap.size w
 go_wp2_with fail
 obtain ⟨w1, hW, hz0, hb, q, f⟩ := box1g w (w.heap.size) (by omega) #[.bool b, .slice a1 n1 c1, .slice a2 n2 c2] 27
 rw [hW]
 clear hW
 have g1 := g1.past hb
 have g2 := g2.past hb
 have hB := below_later hB hb
 clear hb
 have lm : w.heap.size < w1.heap.size := by omega
 have qm0 := q 0; have qm1 := q 1; have qm2 := q 2
 simp only [lgA, lgZ, lgS] at qm0 qm1 qm2
 clear q f
 clear hz0
 with_reducible refine (far13_any k _).mono ?_
 rintro e w2 ⟨rfl, hb⟩
 have g1 := g1.past hb
 have g2 := g2.past hb
 obtain ⟨qm0, qm1, qm2, lm⟩ := bq3 hb lm qm0 qm1 qm2
 have hB := below_later hB hb
 clear hb
 rw [HF.out]
 go_wp2_with fail
 with_reducible refine (longRatio_any b _ _ _ _ _ _ 4 _ (by omega) (by omega)).mono ?_
 rintro e w3 ⟨rfl, hb⟩
 have g1 := g1.past hb
 have g2 := g2.past hb
 obtain ⟨qm0, qm1, qm2, lm⟩ := bq3 hb lm qm0 qm1 qm2
 have hB := below_later hB hb
 clear hb
 rw [HL.out]
 go_wp2_with fail
 with_reducible refine (copyRatio_any b _ _ _ l1 _ _ _ l2 _ g1 g2 (by omega) (by omega)).mono ?_
 rintro e w4 ⟨aCU, nCU, cCU, aCD, nCD, cCD, rfl, hCU, hCD, hb⟩
 have g1 := g1.past hb
 have g2 := g2.past hb
 obtain ⟨qm0, qm1, qm2, lm⟩ := bq3 hb lm qm0 qm1 qm2
 have hB := below_later hB hb
 clear hb
 go_wp2_with fail
 obtain ⟨w5, hW, hz0, hb, q, f⟩ := box1g w4 (w4.heap.size) (by omega) #[.bool b, .slice aCU nCU cCU, .slice aCD nCD cCD] 27
 rw [hW]
 clear hW
 have g1 := g1.past hb
 have g2 := g2.past hb
 have hCU := hCU.past hb
 have hCD := hCD.past hb
 obtain ⟨qm0, qm1, qm2, lm⟩ := bq3 hb lm qm0 qm1 qm2
 have hB := below_later hB hb
 clear hb
 have lin : w4.heap.size < w5.heap.size := by omega
 have qin0 := q 0; have qin1 := q 1; have qin2 := q 2
 simp only [lgA, lgZ, lgS] at qin0 qin1 qin2
 clear q f
 clear hz0
 have zg1 := g1
 have zg2 := g2
 have zhCU := hCU.toNatAt
 have zhCD := hCD.toNatAt
 have zlm := lm
 have zqm0 := qm0
 have zqm1 := qm1
 have zqm2 := qm2
 have zlin := lin
 have zqin0 := qin0
 have zqin1 := qin1
 have zqin2 := qin2
 have zB := hB
 have hZ := Below.refl w5.heap.size w5
 go_wp2_with fail
 with_reducible refine (HI.out _).mono ?_
 rintro e w6 ⟨ahA, nhA, chA, rfl, hA, NhA, hb⟩
 have g1 := g1.past hb
 have g2 := g2.past hb
 have hCU := hCU.past hb
 have hCD := hCD.past hb
 obtain ⟨qm0, qm1, qm2, lm⟩ := bq3 hb lm qm0 qm1 qm2
 obtain ⟨qin0, qin1, qin2, lin⟩ := bq3 hb lin qin0 qin1 qin2
 have hB := below_later hB hb
 have hZ := below_later hZ hb
 clear hb
 have WhA := WritI.of hA NhA
 go_wp2_with fail
 with_reducible refine (HJ.out _).mono ?_
 rintro e w7 ⟨ahB1, nhB1, chB1, rfl, hB1, hb⟩
 have g1 := g1.past hb
 have g2 := g2.past hb
 have hCU := hCU.past hb
 have hCD := hCD.past hb
 have hA := hA.past hb
 have WhA := WhA.past hb
 obtain ⟨qm0, qm1, qm2, lm⟩ := bq3 hb lm qm0 qm1 qm2
 obtain ⟨qin0, qin1, qin2, lin⟩ := bq3 hb lin qin0 qin1 qin2
 have hB := below_later hB hb
 have hZ := below_later hZ hb
 clear hb
 go_wp2_with fail
 have hsA := hZ.size
 have hLA := WhA.lim
 go_wp2_with fail
 with_reducible refine (HR.out _ _ _ _ _ _ _ hCU.toNatAt hCD.toNatAt).mono ?_
 rintro e w8 ⟨ahC, nhC, chC, rfl, hC, NhC, hb⟩
 have g1 := g1.past hb
 have g2 := g2.past hb
 have hCU := hCU.past hb
 have hCD := hCD.past hb
 have hA := hA.past hb
 have WhA := WhA.past hb
 have hB1 := hB1.past hb
 obtain ⟨qm0, qm1, qm2, lm⟩ := bq3 hb lm qm0 qm1 qm2
 obtain ⟨qin0, qin1, qin2, lin⟩ := bq3 hb lin qin0 qin1 qin2
 have hB := below_later hB hb
 have hZ := below_later hZ hb
 clear hb
 have WhC := WritI.of hC NhC
 go_wp2_with fail
 with_reducible refine (HD.out _ _ _ _ _ _ _ g1 g2).mono ?_
 rintro e w9 ⟨ahD1, nhD1, chD1, rfl, hD1, hb⟩
 have g1 := g1.past hb
 have g2 := g2.past hb
 have hCU := hCU.past hb
 have hCD := hCD.past hb
 have hA := hA.past hb
 have WhA := WhA.past hb
 have hB1 := hB1.past hb
 have hC := hC.past hb
 have WhC := WhC.past hb
 obtain ⟨qm0, qm1, qm2, lm⟩ := bq3 hb lm qm0 qm1 qm2
 obtain ⟨qin0, qin1, qin2, lin⟩ := bq3 hb lin qin0 qin1 qin2
 have hB := below_later hB hb
 have hZ := below_later hZ hb
 clear hb
 go_wp2_with fail
 with_reducible refine (sameInts_yes hA hB1).mono ?_
 rintro e w10 ⟨rfl, hb⟩
 have g1 := g1.past hb
 have g2 := g2.past hb
 have hCU := hCU.past hb
 have hCD := hCD.past hb
 have hA := hA.past hb
 have WhA := WhA.past hb
 have hB1 := hB1.past hb
 have hC := hC.past hb
 have WhC := WhC.past hb
 have hD1 := hD1.past hb
 obtain ⟨qm0, qm1, qm2, lm⟩ := bq3 hb lm qm0 qm1 qm2
 obtain ⟨qin0, qin1, qin2, lin⟩ := bq3 hb lin qin0 qin1 qin2
 have hB := below_later hB hb
 have hZ := below_later hZ hb
 clear hb
 go_wp2_with fail
 with_reducible refine (sameInts_yes hC hD1).mono ?_
 rintro e w11 ⟨rfl, hb⟩
 have g1 := g1.past hb
 have g2 := g2.past hb
 have hCU := hCU.past hb
 have hCD := hCD.past hb
 have hA := hA.past hb
 have WhA := WhA.past hb
 have hB1 := hB1.past hb
 have hC := hC.past hb
 have WhC := WhC.past hb
 have hD1 := hD1.past hb
 obtain ⟨qm0, qm1, qm2, lm⟩ := bq3 hb lm qm0 qm1 qm2
 obtain ⟨qin0, qin1, qin2, lin⟩ := bq3 hb lin qin0 qin1 qin2
 have hB := below_later hB hb
 have hZ := below_later hZ hb
 clear hb
 go_wp2_with fail
 have hnA : nhA ≤ 9223372036854775807 := by have h1 := hA.cle; have h2 := hA.le; simp only [maxLen] at h1; omega
 have hnC : nhC ≤ 9223372036854775807 := by have h1 := hC.cle; have h2 := hC.le; simp only [maxLen] at h1; omega
 go_wp2_with fail
 with_reducible refine (overInts_any w5.heap.size _ _ _ _ WhA hnA).mono ?_
 rintro e w12 ⟨rfl, hb, hap, h00⟩
 have hZ := hZ.trans hb
 have WhC := WhC.after h00 hap hLA (Nat.le_refl _)
 clear hb hap h00
 go_wp2_with fail
 with_reducible refine (overInts_any w5.heap.size _ _ _ _ (WhC.mono hsA) hnC).mono ?_
 rintro e w13 ⟨rfl, hb, hap, h00⟩
 have hZ := hZ.trans hb
 clear hb hap h00
 have g1 := zg1.past hZ
 have g2 := zg2.past hZ
 have hCU := zhCU.past hZ
 have hCD := zhCD.past hZ
 have qm0 := (hZ.cell (p := ⟨w.heap.size, 0, none⟩) zlm).trans zqm0
 have qm1 := (hZ.cell (p := ⟨w.heap.size, 1, none⟩) zlm).trans zqm1
 have qm2 := (hZ.cell (p := ⟨w.heap.size, 2, none⟩) zlm).trans zqm2
 have lm := Nat.lt_of_lt_of_le zlm hZ.size
 have qin0 := (hZ.cell (p := ⟨w4.heap.size, 0, none⟩) zlin).trans zqin0
 have qin1 := (hZ.cell (p := ⟨w4.heap.size, 1, none⟩) zlin).trans zqin1
 have qin2 := (hZ.cell (p := ⟨w4.heap.size, 2, none⟩) zlin).trans zqin2
 have lin := Nat.lt_of_lt_of_le zlin hZ.size
 have hB := below_later zB hZ
 go_wp2_with fail
 with_reducible refine (sameRatio_any b _ _ _ l1 _ _ _ l2 b _ _ _ l1 _ _ _ l2 _ hCU hCD g1 g2).mono ?_
 rintro e w14 ⟨rfl, hb⟩
 have g1 := g1.past hb
 have g2 := g2.past hb
 have hCU := hCU.past hb
 have hCD := hCD.past hb
 obtain ⟨qm0, qm1, qm2, lm⟩ := bq3 hb lm qm0 qm1 qm2
 obtain ⟨qin0, qin1, qin2, lin⟩ := bq3 hb lin qin0 qin1 qin2
 have hB := below_later hB hb
 clear hb
 rw [HS.out]
 go_wp2_with fail
 with_reducible refine (awake13 _).mono ?_
 rintro e w15 ⟨rfl, hb⟩
 have g1 := g1.past hb
 have g2 := g2.past hb
 have hCU := hCU.past hb
 have hCD := hCD.past hb
 obtain ⟨qm0, qm1, qm2, lm⟩ := bq3 hb lm qm0 qm1 qm2
 obtain ⟨qin0, qin1, qin2, lin⟩ := bq3 hb lin qin0 qin1 qin2
 have hB := below_later hB hb
 clear hb
 go_wp2
 go_ret
 exact ⟨rfl, hB⟩
theorem solitonMakes_any (k s sp : Int) (b : Bool) (l1 l2 : List Nat) (a1 : Option Addr) (n1 c1 : Nat) (a2 : Option Addr) (n2 c2 : Nat) (w : World) (g1 : NatAt w a1 n1 c1 l1) (g2 : NatAt w a2 n2 c2 l2) : Calls Tryz.prog 3 #[.int .i64 k, .int .i64 s, .int .i64 sp, .agg #[.bool b, .slice a1 n1 c1, .slice a2 n2 c2]] w (RetVal w (.bool true)) := by
 cases hf : farB k
 · by_cases h1 : n1 ≤ 4
   · by_cases h2 : n2 ≤ 4
     · by_cases hc : chkR b l1 l2 = 0
       · obtain ⟨m, rfl, rfl, rfl⟩ := chkR_rat g1.dig g2.dig hc
         have hl : rlen m ≤ 1000 := Nat.max_le.2 ⟨by have := g1.len; omega, by have := g2.len; omega⟩
         exact makes13_go k s sp _ _ _ _ _ _ _ _ _ w g1 g2 h1 h2 hf (robustT k s sp m) (fun _ _ _ _ _ _ _ x1 x2 => robust_any k s sp m _ _ _ _ _ _ _ x1 x2 hl) (fun _ _ _ _ _ _ _ x1 x2 => rrobust13 k s sp m _ _ _ _ _ _ _ x1 x2 hl)
       · exact makes13_go k s sp b l1 l2 _ _ _ _ _ _ w g1 g2 h1 h2 hf (.error 6)
          (fun _ _ _ _ _ _ _ x1 x2 => robust_raw k s sp b l1 l2 _ _ _ _ _ _ _ x1 x2 (by have := x1.len; have := g1.len; omega) (by have := x2.len; have := g2.len; omega) hc)
          (fun _ _ _ _ _ _ _ x1 x2 => rrobust_raw k s sp b l1 l2 _ _ _ _ _ _ _ x1 x2 (by have := x1.len; have := g1.len; omega) (by have := x2.len; have := g2.len; omega) hc)
     · exact makes13_long k s sp b l1 l2 _ _ _ _ _ _ w g1 g2 hf (by rw [decide_eq_true (show (4 : Int) < (n2 : Int) by omega), Bool.or_true])
   · exact makes13_long k s sp b l1 l2 _ _ _ _ _ _ w g1 g2 hf (by rw [decide_eq_true (show (4 : Int) < (n1 : Int) by omega), Bool.true_or])
 · exact makes13_far k s sp b l1 l2 _ _ _ _ _ _ w g1 g2 hf
end Go.Proofs.YtlkoenpdmlbhlaaGreat
