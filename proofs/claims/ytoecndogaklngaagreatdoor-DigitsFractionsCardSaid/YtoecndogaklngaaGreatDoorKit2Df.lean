import Derived.Test.YtoecndogaklngaaGreatDoorS0Df
import Derived.Test.YtoecndogaklngaaGreatDoorRefs10Df
import Derived.Test.YtoecndogaklngaaGreatDoorLimbs1Df
import Derived.Test.YtoecndogaklngaaGreatDoorKit3Df
set_option linter.unusedVariables false
set_option linter.unusedSimpArgs false
namespace Go.Proofs.YtoecndogaklngaaGreatDoor
open Go.RowKit
def RetCopy (w : World) (b : Bool) (l : List Nat) (e : Ending) (w' : World) : Prop :=
 ∃ a n c, e = .returned (.agg #[.bool b, .slice a n c]) ∧ OwnAt w' w.heap.size a n c l ∧ Below w.heap.size w w'
set_option maxRecDepth 100000 in
theorem copyWhole_any (b : Bool) (a : Option Addr) (n c : Nat) (l : List Nat) (w : World) (h : NatAt w a n c l) (hs : n ≤ 1099511627776) :
 Calls Tryz.prog 15 #[.agg #[.bool b, .slice a n c]] w (RetCopy w b l) := by
 go_enter Tryz.func15, Tryz.ntmps15
 go_wp2_with fail
 obtain ⟨W, hW, hz, hBW, q1, q2, q3⟩ := boxes2 w #[.bool b, .slice a n c] #[.bool false, .slice none 0 0] 25 25
 have f1 : ∀ i, W.frozen? ⟨w.heap.size, i, none⟩ = false := by
  intro i
  rw [← hW, World.frozen?_alloc_past _ _ _ (by simp), World.frozen?_alloc_at _ _ _ _ rfl]
 rw [hW]
 have hlt : w.heap.size + 1 < W.heap.size := by omega
 have hlt0 : w.heap.size < W.heap.size := by omega
 with_reducible refine (copyNat_any _ _ _ l _ (h.past hBW) hs).mono ?_
 rintro e w1 ⟨a1, n1, c1, rfl, h1, hb⟩
 obtain ⟨q2, q3⟩ := boxPast hb hlt q2 q3
 obtain ⟨q1, f1⟩ := boxPast hb hlt0 q1 f1
 have hB := below_later hBW hb
 have ho := (((h1.setOff (b := w.heap.size) (o := 1) hlt0 (.slice a1 n1 c1)).setOff (b := w.heap.size + 1) (o := 0) hlt (.bool b)).setOff (b := w.heap.size + 1) (o := 1) hlt (.slice a1 n1 c1)).mono hBW.size
 have hBF := ((hB.setCell (p := ⟨w.heap.size, 1, none⟩) (Nat.le_refl _) (.slice a1 n1 c1)).setCell (p := ⟨w.heap.size + 1, 0, none⟩) (Nat.le_succ _) (.bool b)).setCell (p := ⟨w.heap.size + 1, 1, none⟩) (Nat.le_succ _) (.slice a1 n1 c1)
 clear hW hz hBW hlt hlt0 h hb h1 hB
 go_wp2
 refine bodyPost_ret (v := .agg #[.bool b, .slice a1 n1 c1]) ?_ rfl ⟨_, _, _, rfl, ho, hBF⟩
 simp [results, Tryz.f15, go_sem, q2, q1]
set_option maxRecDepth 100000 in
theorem sameWhole_no (b b2 : Bool) (a : Option Addr) (n c : Nat) (a2 : Option Addr) (n2 c2 : Nat) (w : World) (hb : (b == b2) = false) :
 Calls Tryz.prog 28 #[.agg #[.bool b, .slice a n c], .agg #[.bool b2, .slice a2 n2 c2]] w (RetVal w (.bool false)) := by
 go_enter Tryz.func28, Tryz.ntmps28
 go_wp2
 go_ret
 exact ⟨rfl, ((Below.refl _ _).alloc (Nat.le_refl _) _).alloc (by simp) _⟩
set_option maxRecDepth 100000 in
theorem sameWhole_eq (b : Bool) (a : Option Addr) (n c : Nat) (l : List Nat) (a2 : Option Addr) (n2 c2 : Nat) (l2 : List Nat) (w : World) (h : NatAt w a n c l) (h2 : NatAt w a2 n2 c2 l2) :
 Calls Tryz.prog 28 #[.agg #[.bool b, .slice a n c], .agg #[.bool b, .slice a2 n2 c2]] w (RetVal w (.bool (eqL l l2))) := by
 go_enter Tryz.func28, Tryz.ntmps28
 go_wp2_with fail
 with_reducible refine (sameNat_below ((h.alloc _).alloc _) ((h2.alloc _).alloc _)).mono ?_
 rintro e w1 ⟨rfl, hb⟩
 go_wp2
 go_ret
 exact ⟨rfl, below_later (((Below.refl _ _).alloc (Nat.le_refl _) _).alloc (by simp) _) hb⟩
theorem sameWhole_yes {b : Bool} {a : Option Addr} {n c : Nat} {l : List Nat} {a2 : Option Addr} {n2 c2 : Nat} {w : World} (h : NatAt w a n c l) (h2 : NatAt w a2 n2 c2 l) :
 Calls Tryz.prog 28 #[.agg #[.bool b, .slice a n c], .agg #[.bool b, .slice a2 n2 c2]] w (RetVal w (.bool true)) := by
 have := sameWhole_eq b a n c l a2 n2 c2 l w h h2
 rwa [eqL_self] at this
theorem chkZ_canon (x : Int) : chkZ (neg x) (digs x.natAbs) = 0 := by
 unfold chkZ
 rw [if_neg, chk_top.2 (top_digs _)]
 rintro ⟨h1, h2⟩
 have := digs_eq_nil.1 h2
 have h3 := of_decide_eq_true h1
 omega
end Go.Proofs.YtoecndogaklngaaGreatDoor
set_option linter.unusedVariables false
set_option linter.unusedSimpArgs false
namespace Go.Proofs.YtoecndogaklngaaGreatDoor
def chkR (b : Bool) (l l2 : List Nat) : Int := if chkZ b l = 0 ∧ chk l2 = 0 ∧ l2 ≠ [] ∧ Nat.gcd (val l) (val l2) = 1 then 0 else 6
theorem chkR_no {b : Bool} {l l2 : List Nat} (h : chkR b l l2 ≠ 0) : chkR b l l2 = 6 := by
 unfold chkR at h ⊢
 split
 · rename_i hh; rw [if_pos hh] at h; exact absurd rfl h
 · rfl
end Go.Proofs.YtoecndogaklngaaGreatDoor
