import Derived.Deep.RegionHeld3
import Derived.Test.YtoecndogaklngaaS0Do
import Derived.Test.YtoecndogaklngaaKit1Do
set_option linter.unusedVariables false
set_option linter.unusedSimpArgs false
namespace Go.Proofs.Ytoecndogaklngaa
open Go.RowKit
theorem OwnAt.past {w w' : World} {B : Nat} {a : Option Addr} {n c : Nat} {l : List Nat} (h : OwnAt w B a n c l) (hb : Below w.heap.size w w') : OwnAt w' B a n c l := h.later hb (Nat.le_refl _)
theorem box1g (w : World) (g : Nat) (hg : g = w.heap.size) (A : Array Value) (E : Nat) : ∃ W, w.alloc (.cells A E) = W ∧ W.heap.size = w.heap.size + 1 ∧ Below w.heap.size w W ∧ (∀ i, W.cell? ⟨g, i, none⟩ = A[i]?) ∧ (∀ i, W.frozen? ⟨g, i, none⟩ = false) := by
 subst hg
 exact ⟨_, rfl, by simp, (Below.refl _ _).alloc (Nat.le_refl _) _, fun i => World.cell?_alloc_at _ _ _ _ rfl, fun i => World.frozen?_alloc_at _ _ _ _ rfl⟩
end Go.Proofs.Ytoecndogaklngaa
