import Derived.Deep.RegionHeld3
import Derived.Test.YtoecndogaklngaaGreatDoorS0Df
import Derived.Test.YtoecndogaklngaaGreatDoorLimbs1Df
set_option linter.unusedVariables false
set_option linter.unusedSimpArgs false
namespace Go.Proofs.YtoecndogaklngaaGreatDoor
open Go.RowKit
theorem OwnAt.past {w w' : World} {B : Nat} {a : Option Addr} {n c : Nat} {l : List Nat} (h : OwnAt w B a n c l) (hb : Below w.heap.size w w') : OwnAt w' B a n c l := h.later hb (Nat.le_refl _)
theorem box1g (w : World) (g : Nat) (hg : g = w.heap.size) (A : Array Value) (E : Nat) : ∃ W, w.alloc (.cells A E) = W ∧ W.heap.size = w.heap.size + 1 ∧ Below w.heap.size w W ∧ (∀ i, W.cell? ⟨g, i, none⟩ = A[i]?) ∧ (∀ i, W.frozen? ⟨g, i, none⟩ = false) := by
 subst hg
 exact ⟨_, rfl, by simp, (Below.refl _ _).alloc (Nat.le_refl _) _, fun i => World.cell?_alloc_at _ _ _ _ rfl, fun i => World.frozen?_alloc_at _ _ _ _ rfl⟩
theorem litG {E : Nat} (w : World) (g : Nat) (vs : Array Value) (l : List Nat) (n : Nat) (hg : g = w.heap.size) (hv : vs.toList = dv l) (hn : l.length = n) (hm : n ≤ 1000) (hd : l.all (fun x => decide (x < 18446744073709551616)) = true) :
 OwnAt (w.alloc (.cells vs E)) w.heap.size (some ⟨g, 0, none⟩) n n l := by
 subst hg
 refine OwnAt.ofRow (E := E) (v := .slice (some ⟨w.heap.size, 0, none⟩) n n) (n := n) ?_ (fun x hx => by simpa using List.all_eq_true.1 hd x hx) |>.elim fun a h => by
  obtain ⟨c, he, ho⟩ := h
  cases he
  exact ho
 rw [← hv]
 exact World.ownsRow_lit w vs n (Nat.le_refl _) (by simp only [maxLen]; omega) (by rw [← Array.length_toList, hv, dv_length, hn, Nat.mul_one])
end Go.Proofs.YtoecndogaklngaaGreatDoor
