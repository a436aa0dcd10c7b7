import Derived.Test.YtoecndogaklngaaDoorS0Db
import Derived.Test.YtoecndogaklngaaDoorByt3Db
import Derived.Test.YtoecndogaklngaaDoorDigIterDb
set_option linter.unusedVariables false
set_option linter.unusedSimpArgs false
namespace Go.Proofs.YtoecndogaklngaaDoor
open Go.RowKit Go.Shelf
def BytI (B0 Bq : Nat) (w : World) (L : List Nat) (W : World) : Prop :=
 ∃ v, W.cell? ⟨B0, 0, none⟩ = some v ∧ W.frozen? ⟨B0, 0, none⟩ = false ∧ W.ownsRow Bq 5 1 v L.length (bv L) ∧ Bq ≤ W.heap.size ∧ Below B0 w W
theorem BytI.past {B0 Bq : Nat} {w : World} {L : List Nat} {W W' : World} (h : BytI B0 Bq w L W) (hB : B0 < Bq) (hb : Below W.heap.size W W') : BytI B0 Bq w L W' := by
 obtain ⟨v, h1, h2, h3, h4, h5⟩ := h
 exact ⟨v, (hb.cell (p := ⟨B0, 0, none⟩) (Nat.lt_of_lt_of_le hB h4)).trans h1, (hb.frozen (p := ⟨B0, 0, none⟩) (Nat.lt_of_lt_of_le hB h4)).trans h2, row_past8 h3 hb, Nat.le_trans h4 hb.size, h5.trans (hb.mono (by omega))⟩
theorem byt_cell_turn {W : World} {l : Nat} {o : Obj} (o' : Obj) {x : Addr} {v : Value} (h : W.cell? x = some v) (hl : W.heap[l]? = some o) (ho : o.isCells = false) : (W.putObj l o').cell? x = some v :=
 cell_kept h (grownBy_putObj' W l o') (fun r e => by cases e; exact ⟨o, hl, ho⟩)
theorem byt_frozen_turn {W : World} {l : Nat} {o : Obj} (o' : Obj) {x : Addr} {v : Value} (h : W.cell? x = some v) (hl : W.heap[l]? = some o) (ho : o.isCells = false) : (W.putObj l o').frozen? x = W.frozen? x :=
 frozen_kept h (grownBy_putObj' W l o') (fun r e => by cases e; exact ⟨o, hl, ho⟩)
theorem BytI.turn {B0 Bq : Nat} {w : World} {L : List Nat} {W : World} (h : BytI B0 Bq w L W) {l : Nat} {o : Obj} (o' : Obj) (hl : W.heap[l]? = some o) (ho : o.isCells = false) (hB : B0 ≤ l) : BytI B0 Bq w L (W.putObj l o') := by
 obtain ⟨v, h1, h2, h3, h4, h5⟩ := h
 exact ⟨v, byt_cell_turn o' h1 hl ho, (byt_frozen_turn o' h1 hl ho).trans h2, ownsRow_putObj h3 o' hl ho, by simpa using h4, h5.trans (below_put o' hB)⟩
theorem FixBack.turn {bS : Nat} {a : Option Addr} {n c : Nat} {l : List Nat} {W : World} (h : FixBack bS a n c l W) {k : Nat} {o : Obj} (o' : Obj) (hl : W.heap[k]? = some o) (ho : o.isCells = false) : FixBack bS a n c l (W.putObj k o') :=
 ⟨byt_cell_turn o' h.1 hl ho, h.2.len, h.2.le, h.2.cle, h.2.dig, h.2.cell.imp id fun ⟨b, k, e, hc⟩ => ⟨b, k, e, fun i hi => byt_cell_turn o' (hc i hi) hl ho⟩, h.2.nilc⟩
def Amid (B0 Bq : Nat) (W W' : World) : Prop := ∀ b, B0 < b → b < Bq → W'.heap[b]? = W.heap[b]?
theorem FixBack.amid {B0 Bq bS : Nat} {a : Option Addr} {n c : Nat} {l : List Nat} {W W' : World} (h : FixBack bS a n c l W) (hA : Amid B0 Bq W W') (h1 : B0 < bS) (h2 : bS < Bq) (h3 : n = 0 ∨ ∀ x, a = some x → B0 < x.block ∧ x.block < Bq) : FixBack bS a n c l W' := by
 refine ⟨(World.cell?_of_block (w := W) (hA bS h1 h2)).trans h.1, h.2.len, h.2.le, h.2.cle, h.2.dig, ?_, h.2.nilc⟩
 rcases h3 with h3 | h3
 · exact .inl h3
 rcases h.2.cell with h0 | ⟨b, o, rfl, hc⟩
 · exact .inl h0
 · obtain ⟨h4, h5⟩ := h3 _ rfl
   exact .inr ⟨b, o, rfl, fun i hi => (World.cell?_of_block (w := W) (a := ⟨b, o + i, none⟩) (hA b h4 h5)).trans (hc i hi)⟩
theorem row_cells8 {w : World} {base size n : Nat} {e : TypeId} {v : Value} {xs : List Value} (h : w.ownsRow base e size v n xs) (j : Nat) (o : Obj) (ej : v.ownBlock = some j) (hj : w.heap[j]? = some o) : o.isCells = true := by
 rcases h.2 with ⟨rfl, _⟩ | ⟨g, cap, cur, rfl, _, hg, _⟩
 · simp [Value.ownBlock] at ej
 · have : g = j := by simpa [Value.ownBlock] using ej
   subst this
   rw [hg] at hj
   cases hj
   rfl
theorem BytI.more {B0 Bq : Nat} {w W w7 : World} {L L' : List Nat} {v v' : Value} {T : TypeId} {u : Value} (hB : B0 < Bq) (h1 : W.cell? ⟨B0, 0, none⟩ = some v) (h2 : W.frozen? ⟨B0, 0, none⟩ = false) (h3 : W.ownsRow Bq 5 1 v L.length (bv L)) (h4 : Bq ≤ W.heap.size) (h5 : Below B0 w W)
 (hg : (W.alloc (.cells #[u] T)).grownBy w7 v.ownBlock) (hw : w7.ownsRow Bq 5 1 v' L'.length (bv L')) :
 (w7.cell? ⟨B0, 0, none⟩ = some v ∧ w7.frozen? ⟨B0, 0, none⟩ = false) ∧ BytI B0 Bq w L' (w7.setCell ⟨B0, 0, none⟩ v') ∧ KeepsOthers W (w7.setCell ⟨B0, 0, none⟩ v') ∧ Amid B0 Bq W (w7.setCell ⟨B0, 0, none⟩ v') := by
 have hal : Below W.heap.size W (W.alloc (.cells #[u] T)) := (Below.refl _ _).alloc (Nat.le_refl _) _
 have hne : ∀ b, b < Bq → some b ≠ v.ownBlock := fun b hb e => by have := (h3.lt b e.symm).1; omega
 have hblk : ∀ b, b < Bq → w7.heap[b]? = W.heap[b]? := fun b hb => (hg.block b (by simp; omega) (hne b hb)).trans (hal.block b (by omega))
 have c7 := (World.cell?_of_block (w := W) (w' := w7) (a := ⟨B0, 0, none⟩) (hblk B0 hB)).trans h1
 have f7 := (World.frozen?_of_block (w := W) (w' := w7) (a := ⟨B0, 0, none⟩) (hblk B0 hB)).trans h2
 have hsz : W.heap.size ≤ w7.heap.size := Nat.le_trans hal.size hg.size
 have hb7 : Below B0 W w7 := (hal.mono (by omega)).grown hg (by simp; omega) (fun k e => by have := (h3.lt k e).1; omega)
 refine ⟨⟨c7, f7⟩, ⟨v', World.cell?_setCell_same _ _ _ c7, by rw [World.frozen?_setCell]; exact f7, ?_, by simpa using Nat.le_trans h4 hsz, (h5.trans hb7).setCell (p := ⟨B0, 0, none⟩) (Nat.le_refl _) _⟩, ?_, ?_⟩
 · refine hw.kept (grownBy_setCell' w7 B0 v') ?_
   cases hv : v'.ownBlock with
   | none => exact .inl rfl
   | some g => exact .inr fun e => by cases e; have := (hw.lt _ hv).1; omega
 · refine ((KeepsOthers.alloc W _).trans (KeepsOthers.of_grownBy hg fun j o ej hj => ?_)).trans (KeepsOthers.setCell _ _ _)
   exact row_cells8 (row_past8 h3 hal) j o ej hj
 · intro b hb1 hb2
   rw [← hblk b hb2]
   exact Below.heap_setCell w7 ⟨B0, 0, none⟩ v' b (by simp; omega)
end Go.Proofs.YtoecndogaklngaaDoor
