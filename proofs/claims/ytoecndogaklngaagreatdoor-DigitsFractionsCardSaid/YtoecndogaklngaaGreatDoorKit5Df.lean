import Derived.Test.YtoecndogaklngaaGreatDoorS0Df
import Derived.Test.YtoecndogaklngaaGreatDoorKit2Df
import Derived.Test.YtoecndogaklngaaGreatDoorRegDf
set_option linter.unusedVariables false
set_option linter.unusedSimpArgs false
namespace Go.Proofs.YtoecndogaklngaaGreatDoor
open Go.RowKit
def eqR (b : Bool) (l l2 : List Nat) (b3 : Bool) (l3 l4 : List Nat) : Bool := decide (b = b3 ∧ l = l3 ∧ l2 = l4)
theorem eqR_same (b : Bool) (l l2 : List Nat) : eqR b l l2 b l l2 = true := decide_eq_true ⟨rfl, rfl, rfl⟩
set_option maxRecDepth 100000 in
set_option maxHeartbeats 4000000 in
theorem sameRatio_any (b : Bool) (a : Option Addr) (n c : Nat) (l : List Nat) (a2 : Option Addr) (n2 c2 : Nat) (l2 : List Nat) (b3 : Bool) (a3 : Option Addr) (n3 c3 : Nat) (l3 : List Nat) (a4 : Option Addr) (n4 c4 : Nat) (l4 : List Nat) (w : World) (g1 : NatAt w a n c l) (g2 : NatAt w a2 n2 c2 l2) (g3 : NatAt w a3 n3 c3 l3) (g4 : NatAt w a4 n4 c4 l4) :
 Calls Tryz.prog 11 #[.agg #[.bool b, .slice a n c, .slice a2 n2 c2], .agg #[.bool b3, .slice a3 n3 c3, .slice a4 n4 c4]] w (RetVal w (.bool (eqR b l l2 b3 l3 l4))) := by
 by_cases hb : b = b3
 · by_cases hl : l = l3
   · subst hb hl
     have e : eqR b l l2 b l l4 = eqL l2 l4 := by unfold eqR eqL; simp
     rw [e]
     clear e
     go_enter Tryz.func11, Tryz.ntmps11
     have hB := Below.refl w.heap.size w
     go_wp2_with fail
     obtain ⟨w1, hW, hz0, hb, q, f⟩ := box1g w (w.heap.size) (by omega) #[.bool b, .slice a n c, .slice a2 n2 c2] 27
     rw [hW]
     clear hW
     have g1 := g1.past hb
     have g2 := g2.past hb
     have g3 := g3.past hb
     have g4 := g4.past hb
     have hB := below_later hB hb
     clear hb
     have lx : w.heap.size < w1.heap.size := by omega
     have qx0 := q 0; have qx1 := q 1; have qx2 := q 2
     simp only [lgA, lgZ, lgS] at qx0 qx1 qx2
     clear q f
     obtain ⟨w2, hW, hz1, hb, q, f⟩ := box1g w1 (w.heap.size + 1) (by omega) #[.bool b, .slice a3 n3 c3, .slice a4 n4 c4] 27
     rw [hW]
     clear hW
     have g1 := g1.past hb
     have g2 := g2.past hb
     have g3 := g3.past hb
     have g4 := g4.past hb
     obtain ⟨qx0, qx1, qx2, lx⟩ := bq3 hb lx qx0 qx1 qx2
     have hB := below_later hB hb
     clear hb
     have ly : w.heap.size + 1 < w2.heap.size := by omega
     have qy0 := q 0; have qy1 := q 1; have qy2 := q 2
     simp only [lgA, lgZ, lgS] at qy0 qy1 qy2
     clear q f
     clear hz0
     clear hz1
     with_reducible refine (sameWhole_yes g1 g3).mono ?_
     rintro e w3 ⟨rfl, hb⟩
     have g1 := g1.past hb
     have g2 := g2.past hb
     have g3 := g3.past hb
     have g4 := g4.past hb
     obtain ⟨qx0, qx1, qx2, lx⟩ := bq3 hb lx qx0 qx1 qx2
     obtain ⟨qy0, qy1, qy2, ly⟩ := bq3 hb ly qy0 qy1 qy2
     have hB := below_later hB hb
     clear hb
     go_wp2_with fail
     with_reducible refine (sameNat_below g2 g4).mono ?_
     rintro e w4 ⟨rfl, hb⟩
     have g1 := g1.past hb
     have g2 := g2.past hb
     have g3 := g3.past hb
     have g4 := g4.past hb
     obtain ⟨qx0, qx1, qx2, lx⟩ := bq3 hb lx qx0 qx1 qx2
     obtain ⟨qy0, qy1, qy2, ly⟩ := bq3 hb ly qy0 qy1 qy2
     have hB := below_later hB hb
     clear hb
     go_wp2
     go_ret
     exact ⟨rfl, hB⟩
   · have e : eqR b l l2 b3 l3 l4 = false := by unfold eqR; simp [hl]
     rw [e]
     subst hb
     have E := Lib.hid (show eqL l l3 = false from eqL_false.2 hl)
     clear e hl
     go_enter Tryz.func11, Tryz.ntmps11
     have hB := Below.refl w.heap.size w
     go_wp2_with fail
     obtain ⟨w1, hW, hz0, hb, q, f⟩ := box1g w (w.heap.size) (by omega) #[.bool b, .slice a n c, .slice a2 n2 c2] 27
     rw [hW]
     clear hW
     have g1 := g1.past hb
     have g2 := g2.past hb
     have g3 := g3.past hb
     have g4 := g4.past hb
     have hB := below_later hB hb
     clear hb
     have lx : w.heap.size < w1.heap.size := by omega
     have qx0 := q 0; have qx1 := q 1; have qx2 := q 2
     simp only [lgA, lgZ, lgS] at qx0 qx1 qx2
     clear q f
     obtain ⟨w2, hW, hz1, hb, q, f⟩ := box1g w1 (w.heap.size + 1) (by omega) #[.bool b, .slice a3 n3 c3, .slice a4 n4 c4] 27
     rw [hW]
     clear hW
     have g1 := g1.past hb
     have g2 := g2.past hb
     have g3 := g3.past hb
     have g4 := g4.past hb
     obtain ⟨qx0, qx1, qx2, lx⟩ := bq3 hb lx qx0 qx1 qx2
     have hB := below_later hB hb
     clear hb
     have ly : w.heap.size + 1 < w2.heap.size := by omega
     have qy0 := q 0; have qy1 := q 1; have qy2 := q 2
     simp only [lgA, lgZ, lgS] at qy0 qy1 qy2
     clear q f
     clear hz0
     clear hz1
     with_reducible refine (sameWhole_eq _ _ _ _ l _ _ _ l3 _ g1 g3).mono ?_
     rintro e w3 ⟨rfl, hb⟩
     have g1 := g1.past hb
     have g2 := g2.past hb
     have g3 := g3.past hb
     have g4 := g4.past hb
     obtain ⟨qx0, qx1, qx2, lx⟩ := bq3 hb lx qx0 qx1 qx2
     obtain ⟨qy0, qy1, qy2, ly⟩ := bq3 hb ly qy0 qy1 qy2
     have hB := below_later hB hb
     clear hb
     rw [E.out]
     go_wp2
     go_ret
     exact ⟨rfl, hB⟩
 · have e : eqR b l l2 b3 l3 l4 = false := by unfold eqR; simp [hb]
   rw [e]
   have hb' : (b == b3) = false := by simpa using hb
   clear e hb
   go_enter Tryz.func11, Tryz.ntmps11
   have hB := Below.refl w.heap.size w
   go_wp2_with fail
   obtain ⟨w1, hW, hz0, hb, q, f⟩ := box1g w (w.heap.size) (by omega) #[.bool b, .slice a n c, .slice a2 n2 c2] 27
   rw [hW]
   clear hW
   have g1 := g1.past hb
   have g2 := g2.past hb
   have g3 := g3.past hb
   have g4 := g4.past hb
   have hB := below_later hB hb
   clear hb
   have lx : w.heap.size < w1.heap.size := by omega
   have qx0 := q 0; have qx1 := q 1; have qx2 := q 2
   simp only [lgA, lgZ, lgS] at qx0 qx1 qx2
   clear q f
   obtain ⟨w2, hW, hz1, hb, q, f⟩ := box1g w1 (w.heap.size + 1) (by omega) #[.bool b3, .slice a3 n3 c3, .slice a4 n4 c4] 27
   rw [hW]
   clear hW
   have g1 := g1.past hb
   have g2 := g2.past hb
   have g3 := g3.past hb
   have g4 := g4.past hb
   obtain ⟨qx0, qx1, qx2, lx⟩ := bq3 hb lx qx0 qx1 qx2
   have hB := below_later hB hb
   clear hb
   have ly : w.heap.size + 1 < w2.heap.size := by omega
   have qy0 := q 0; have qy1 := q 1; have qy2 := q 2
   simp only [lgA, lgZ, lgS] at qy0 qy1 qy2
   clear q f
   clear hz0
   clear hz1
   with_reducible refine (sameWhole_no _ _ _ _ _ _ _ _ _ hb').mono ?_
   rintro e w3 ⟨rfl, hb⟩
   have g1 := g1.past hb
   have g2 := g2.past hb
   have g3 := g3.past hb
   have g4 := g4.past hb
   obtain ⟨qx0, qx1, qx2, lx⟩ := bq3 hb lx qx0 qx1 qx2
   obtain ⟨qy0, qy1, qy2, ly⟩ := bq3 hb ly qy0 qy1 qy2
   have hB := below_later hB hb
   clear hb
   go_wp2
   go_ret
   exact ⟨rfl, hB⟩
set_option maxRecDepth 100000 in
theorem longRatio_any (b : Bool) (a : Option Addr) (n c : Nat) (a2 : Option Addr) (n2 c2 : Nat) (k : Int) (w : World) (hc : n ≤ 9223372036854775807) (hc2 : n2 ≤ 9223372036854775807) :
 Calls Tryz.prog 4 #[.agg #[.bool b, .slice a n c, .slice a2 n2 c2], .int .i64 k] w (RetVal w (.bool (decide (k < (n : Int)) || decide (k < (n2 : Int))))) := by
 cases hd : decide (k < (n : Int))
 · rw [Bool.false_or]
   go_enter Tryz.func4, Tryz.ntmps4
   go_wp2
   go_ret
   exact ⟨rfl, (Below.refl _ _).alloc (Nat.le_refl _) _⟩
 · rw [Bool.true_or]
   go_enter Tryz.func4, Tryz.ntmps4
   go_wp2
   go_ret
   exact ⟨rfl, (Below.refl _ _).alloc (Nat.le_refl _) _⟩
structure Kept (w w' : World) : Prop where
 cell : ∀ p u, w.cell? p = some u → notU u → w'.cell? p = some u
 frz : ∀ p : Addr, p.block < w.heap.size → w'.frozen? p = w.frozen? p
 size : w.heap.size ≤ w'.heap.size
theorem Kept.of_below {w w' : World} (h : Below w.heap.size w w') : Kept w w' :=
 ⟨fun p u hu _ => (h.cell (World.block_lt_of_cell? w _ hu)).trans hu, fun p hp => h.frozen hp, h.size⟩
theorem Kept.of_digital {w w' : World} {B : Nat} (h : Digital w w') (hb : Below B w w') : Kept w w' :=
 ⟨fun p u hu hn => h.2.2 p u hu hn, fun p _ => h.2.1 p, hb.size⟩
theorem Kept.trans {w w1 w2 : World} (h : Kept w w1) (h2 : Kept w1 w2) : Kept w w2 :=
 ⟨fun p u hu hn => h2.cell p u (h.cell p u hu hn) hn, fun p hp => (h2.frz p (Nat.lt_of_lt_of_le hp h.size)).trans (h.frz p hp), Nat.le_trans h.size h2.size⟩
theorem WritAt.past {w w' : World} {B : Nat} {a : Option Addr} {n c : Nat} (h : WritAt w B a n c) (hb : Below w.heap.size w w') : WritAt w' B a n c := by
 refine ⟨h.le, h.cle, h.cell.imp id ?_⟩
 rintro ⟨b, o, e, hB, f, hc, hf⟩
 exact ⟨b, o, e, hB, f, fun i hi => (hb.cell (World.block_lt_of_cell? w _ (hc i hi))).trans (hc i hi), fun i hi => (hb.frozen (World.block_lt_of_cell? w _ (hc i hi))).trans (hf i hi)⟩
set_option maxRecDepth 100000 in
set_option maxHeartbeats 4000000 in
theorem overRatio_any (B : Nat) (b : Bool) (a : Option Addr) (n c : Nat) (a2 : Option Addr) (n2 c2 : Nat) (w : World) (h1 : WritAt w B a n c) (h2 : WritAt w B a2 n2 c2) (hw : B ≤ w.heap.size) :
 Calls Tryz.prog 12 #[.agg #[.bool b, .slice a n c, .slice a2 n2 c2]] w fun e w' => e = .returned (.tuple #[]) ∧ Below B w w' ∧ Kept w w' := by
 go_enter Tryz.func12, Tryz.ntmps12
 have hB := Below.refl w.heap.size w
 go_wp2_with fail
 obtain ⟨w1, hW, hz0, hb, q, f⟩ := box1g w (w.heap.size) (by omega) #[.bool b, .slice a n c, .slice a2 n2 c2] 27
 rw [hW]
 clear hW
 have h1 := h1.past hb
 have h2 := h2.past hb
 have hB := below_later hB hb
 clear hb
 have lx : w.heap.size < w1.heap.size := by omega
 have qx0 := q 0; have qx1 := q 1; have qx2 := q 2
 simp only [lgA, lgZ, lgS] at qx0 qx1 qx2
 clear q f
 clear hz0
 have hZ := hB.mono hw
 with_reducible refine (overNat_any B _ _ _ _ h1).mono ?_
 rintro e w2 ⟨rfl, hb1, hg1⟩
 have h2 := h2.keep hg1
 have qx0 := hg1.2.2 _ _ qx0 (fun x e => by cases e)
 have qx1 := hg1.2.2 _ _ qx1 (fun x e => by cases e)
 have qx2 := hg1.2.2 _ _ qx2 (fun x e => by cases e)
 have K := (Kept.of_below hB).trans (Kept.of_digital hg1 hb1)
 have hZ := hZ.trans hb1
 clear hb1 hg1
 go_wp2_with fail
 with_reducible refine (overNat_any B _ _ _ _ h2).mono ?_
 rintro e w3 ⟨rfl, hb2, hg2⟩
 have K := K.trans (Kept.of_digital hg2 hb2)
 have hZ := hZ.trans hb2
 clear hb2 hg2
 go_wp2
 go_end0
 exact ⟨rfl, hZ, K⟩
end Go.Proofs.YtoecndogaklngaaGreatDoor
