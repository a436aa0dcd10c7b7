import Derived.Deep.RegionHeld3
import Derived.BigQuiet
import Derived.Lib.MinMax
import Derived.Test.YtoecndogaklngaaDoorS0Db
import Derived.Test.YtoecndogaklngaaDoorLimbs1Db
import Derived.Test.YtoecndogaklngaaDoorNum4Db
import Derived.Test.YtoecndogaklngaaDoorNumDb
set_option linter.unusedVariables false
set_option linter.unusedSimpArgs false
namespace Go.Proofs.YtoecndogaklngaaDoor
open Go.RowKit
theorem OwnAt.past {w w' : World} {B : Nat} {a : Option Addr} {n c : Nat} {l : List Nat} (h : OwnAt w B a n c l) (hb : Below w.heap.size w w') : OwnAt w' B a n c l := h.later hb (Nat.le_refl _)
theorem box1g (w : World) (g : Nat) (hg : g = w.heap.size) (A : Array Value) (E : Nat) : ∃ W, w.alloc (.cells A E) = W ∧ W.heap.size = w.heap.size + 1 ∧ Below w.heap.size w W ∧ (∀ i, W.cell? ⟨g, i, none⟩ = A[i]?) ∧ (∀ i, W.frozen? ⟨g, i, none⟩ = false) := by
 subst hg
 exact ⟨_, rfl, by simp, (Below.refl _ _).alloc (Nat.le_refl _) _, fun i => World.cell?_alloc_at _ _ _ _ rfl, fun i => World.frozen?_alloc_at _ _ _ _ rfl⟩
theorem litG {E : Nat} (w : World) (g : Nat) (vs : Array Value) (l : List Nat) (n : Nat) (hg : g = w.heap.size) (hv : vs.toList = dv l) (hn : l.length = n) (hm : n ≤ 1000) (hd : l.all (fun x => decide (x < 18446744073709551616)) = true) :
 OwnAt (w.alloc (.cells vs E)) w.heap.size (some ⟨g, 0, none⟩) n n l := by
 subst hg
 refine OwnAt.ofRow (E := E) (v := .slice (some ⟨w.heap.size, 0, none⟩) n n) (n := n) ?_ (fun x hx => by simpa using List.all_eq_true.1 hd x hx) |>.elim fun a h => by
  obtain ⟨c, he, ho⟩ := h
  cases he
  exact ho
 rw [← hv]
 exact World.ownsRow_lit w vs n (Nat.le_refl _) (by simp only [maxLen]; omega) (by rw [← Array.length_toList, hv, dv_length, hn, Nat.mul_one])
end Go.Proofs.YtoecndogaklngaaDoor
set_option linter.unusedVariables false
set_option linter.unusedSimpArgs false
namespace Go.Proofs.YtoecndogaklngaaDoor
open Go.RowKit
abbrev Turned (b : Nat) (w w' : World) : Prop := w.grownBy w' (some b)
theorem NatAt.other {w w' : World} {b : Nat} {a : Option Addr} {n c : Nat} {l : List Nat} (h : NatAt w a n c l) (hg : Turned b w w') (hne : n = 0 ∨ ∀ x, a = some x → x.block ≠ b) : NatAt w' a n c l := by
 rcases h.parts with h0 | ⟨b1, o1, rfl, hlt, hc⟩
 · exact ⟨h.len, h.le, h.cle, h.dig, .inl h0, h.nilc⟩
 · rcases hne with h0 | hne
   · exact ⟨h.len, h.le, h.cle, h.dig, .inl h0, h.nilc⟩
   refine ⟨h.len, h.le, h.cle, h.dig, .inr ⟨b1, o1, rfl, fun i hi => ?_⟩, h.nilc⟩
   rw [World.cell?_of_block (w := w) (hg.block b1 hlt (fun e => hne _ rfl (by cases e; rfl)))]
   exact hc i hi
theorem OwnAt.other {w w' : World} {B b : Nat} {a : Option Addr} {n c : Nat} {l : List Nat} (h : OwnAt w B a n c l) (hg : Turned b w w') (hne : n = 0 ∨ ∀ x, a = some x → x.block ≠ b) : OwnAt w' B a n c l := by
 refine ⟨h.toNatAt.other hg hne, ?_⟩
 rcases h.own with h0 | ⟨b1, o1, he, hle, hf⟩
 · exact .inl h0
 · rcases h.toNatAt.parts with h0 | ⟨b', o', he', hlt, _⟩
   · exact .inl h0
   · rw [he] at he'
     cases he'
     rcases hne with h0 | hne
     · exact .inl h0
     refine .inr ⟨b1, o1, he, hle, fun i hi => ?_⟩
     rw [World.frozen?_of_block (w := w) (hg.block b1 hlt (fun e => hne _ he (by cases e; rfl)))]
     exact hf i hi
end Go.Proofs.YtoecndogaklngaaDoor
