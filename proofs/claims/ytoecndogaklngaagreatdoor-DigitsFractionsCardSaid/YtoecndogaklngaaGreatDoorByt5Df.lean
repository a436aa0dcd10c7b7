import Derived.Test.YtoecndogaklngaaGreatDoorS0Df
import Derived.Test.YtoecndogaklngaaGreatDoorDigIter2Df
set_option linter.unusedVariables false
set_option linter.unusedSimpArgs false
namespace Go.Proofs.YtoecndogaklngaaGreatDoor
open Go.RowKit Go.Shelf
theorem toList_data (s : ByteArray) : s.toList = s.data.toList := by cases s; exact ByteArray.toList_mk _
theorem own_grown5 {w w' : World} {B : Nat} {a : Option Addr} {n c : Nat} {l : List Nat} {o : Option Nat} (h : OwnAt w B a n c l) (hg : w.grownBy w' o) (hv : ∀ k, o = some k → k < B) : OwnAt w' B a n c l := by
 have hne : ∀ b, B ≤ b → some b ≠ o := fun b hb e => by have := hv b e.symm; omega
 rcases h.own with h0 | ⟨b, k, rfl, hle, hf⟩
 · exact ⟨⟨h.len, h.le, h.cle, h.dig, .inl h0, h.nilc⟩, .inl h0⟩
 · rcases h.toNatAt.parts with h0 | ⟨b', k', e, hlt, hc⟩
   · exact ⟨⟨h.len, h.le, h.cle, h.dig, .inl h0, h.nilc⟩, .inl h0⟩
   · cases e
     refine ⟨⟨h.len, h.le, h.cle, h.dig, .inr ⟨b, k, rfl, fun i hi => ?_⟩, h.nilc⟩, .inr ⟨b, k, rfl, hle, fun i hi => ?_⟩⟩
     · rw [World.cell?_of_block (w := w) (hg.block b hlt (hne b hle))]; exact hc i hi
     · rw [World.frozen?_of_block (w := w) (hg.block b hlt (hne b hle))]; exact hf i hi
theorem cell_turn5 {W : World} {l : Nat} {o : Obj} (o' : Obj) {x : Addr} {v : Value} (h : W.cell? x = some v) (hl : W.heap[l]? = some o) (ho : o.isCells = false) : (W.putObj l o').cell? x = some v :=
 cell_kept h (grownBy_putObj' W l o') (fun r e => by cases e; exact ⟨o, hl, ho⟩)
theorem frozen_turn5 {W : World} {l : Nat} {o : Obj} (o' : Obj) {x : Addr} {v : Value} (h : W.cell? x = some v) (hl : W.heap[l]? = some o) (ho : o.isCells = false) : (W.putObj l o').frozen? x = W.frozen? x :=
 frozen_kept h (grownBy_putObj' W l o') (fun r e => by cases e; exact ⟨o, hl, ho⟩)
theorem BytesAt.turn {W : World} {l : Nat} {o : Obj} (o' : Obj) {a : Option Addr} {n c : Nat} {L : List Nat} (h : BytesAt W a n c L) (hl : W.heap[l]? = some o) (ho : o.isCells = false) : BytesAt (W.putObj l o') a n c L :=
 ⟨h.len, h.le, h.cle, h.dig, h.cell.imp id fun ⟨b, k, e, hc⟩ => ⟨b, k, e, fun i hi => cell_turn5 o' (hc i hi) hl ho⟩, h.nilc⟩
theorem OwnAt.turn5 {W : World} {l B : Nat} {o : Obj} (o' : Obj) {a : Option Addr} {n c : Nat} {L : List Nat} (h : OwnAt W B a n c L) (hl : W.heap[l]? = some o) (ho : o.isCells = false) : OwnAt (W.putObj l o') B a n c L := by
 refine ⟨⟨h.len, h.le, h.cle, h.dig, h.cell.imp id fun ⟨b, k, e, hc⟩ => ⟨b, k, e, fun i hi => cell_turn5 o' (hc i hi) hl ho⟩, h.nilc⟩, ?_⟩
 rcases h.own with h0 | ⟨b, k, rfl, hB, hf⟩
 · exact .inl h0
 · rcases h.cell with h0 | ⟨b2, k2, e, hc⟩
   · exact .inl h0
   · injection e with e
     injection e with e1 e2
     subst e1
     subst e2
     exact .inr ⟨b, k, rfl, hB, fun i hi => (frozen_turn5 o' (hc i hi) hl ho).trans (hf i hi)⟩
theorem FixChunk.turn {bS bN : Nat} {a : Option Addr} {n c : Nat} {l : List Nat} {W : World} (h : FixChunk bS bN a n c l W) {k : Nat} {o : Obj} (o' : Obj) (hl : W.heap[k]? = some o) (ho : o.isCells = false) : FixChunk bS bN a n c l (W.putObj k o') :=
 ⟨cell_turn5 o' h.1 hl ho, cell_turn5 o' h.2.1 hl ho, h.2.2.turn o' hl ho⟩
theorem FixChunk.off {bS bN b : Nat} {a : Option Addr} {n c : Nat} {l : List Nat} {W : World} (h : FixChunk bS bN a n c l W) (v : Value) (h1 : bS ≠ b) (h2 : bN ≠ b) (h3 : ∀ x, a = some x → x.block ≠ b) : FixChunk bS bN a n c l (W.setCell ⟨b, 0, none⟩ v) := by
 have ne : ∀ {b2 : Nat} (o : Nat), b2 ≠ b → (W.setCell ⟨b, 0, none⟩ v).cell? ⟨b2, o, none⟩ = W.cell? ⟨b2, o, none⟩ := fun o hne => World.cell?_setCell_other _ _ _ _ (fun e => by injection e with e; exact hne e.symm)
 refine ⟨(ne 0 h1).trans h.1, (ne 0 h2).trans h.2.1, h.2.2.len, h.2.2.le, h.2.2.cle, h.2.2.dig, ?_, h.2.2.nilc⟩
 rcases h.2.2.cell with h0 | ⟨q, o, rfl, hc⟩
 · exact .inl h0
 · exact .inr ⟨q, o, rfl, fun i hi => (ne _ (h3 _ rfl)).trans (hc i hi)⟩
theorem grownBy_setAt (W : World) (b k : Nat) (v : Value) : W.grownBy (W.setCell ⟨b, k, none⟩ v) (some b) :=
 ⟨rfl, rfl, rfl, by simp, fun j hj hne => Below.heap_setCell W ⟨b, k, none⟩ v j (fun e => hne (by rw [e]))⟩
def GetI (B0 B1 : Nat) (w : World) (L : List UInt8) (i : Nat) (W : World) : Prop :=
 ∃ a n c, W.cell? ⟨B1, 0, none⟩ = some (.slice a n c) ∧ W.frozen? ⟨B1, 0, none⟩ = false ∧ OwnAt W (B1 + 1) a n c (digs (valL 10 (dvals (L.take (19 * i))))) ∧ W.cell? ⟨B0, 0, none⟩ = some (.int .i64 0) ∧ W.cell? ⟨B0, 1, none⟩ = some (.int .i64 0) ∧ W.frozen? ⟨B0, 0, none⟩ = false ∧ W.frozen? ⟨B0, 1, none⟩ = false ∧ B0 < B1 ∧ B1 < W.heap.size ∧ Below B0 w W
theorem GetI.past {B0 B1 : Nat} {w : World} {L : List UInt8} {i : Nat} {W W' : World} (h : GetI B0 B1 w L i W) (hb : Below W.heap.size W W') : GetI B0 B1 w L i W' := by
 obtain ⟨a, n, c, k1, k2, k3, k4, k5, k6, k7, k8, k9, k10⟩ := h
 have l0 : B0 < W.heap.size := by omega
 exact ⟨a, n, c, (hb.cell (p := ⟨B1, 0, none⟩) k9).trans k1, (hb.frozen (p := ⟨B1, 0, none⟩) k9).trans k2, k3.later hb (Nat.le_refl _), (hb.cell (p := ⟨B0, 0, none⟩) l0).trans k4, (hb.cell (p := ⟨B0, 1, none⟩) l0).trans k5, (hb.frozen (p := ⟨B0, 0, none⟩) l0).trans k6, (hb.frozen (p := ⟨B0, 1, none⟩) l0).trans k7, k8, Nat.lt_of_lt_of_le k9 hb.size, k10.trans (hb.mono (by omega))⟩
theorem GetI.turn {B0 B1 : Nat} {w : World} {L : List UInt8} {i : Nat} {W : World} (h : GetI B0 B1 w L i W) {l : Nat} {o : Obj} (o' : Obj) (hl : W.heap[l]? = some o) (ho : o.isCells = false) (hB : B0 ≤ l) : GetI B0 B1 w L i (W.putObj l o') := by
 obtain ⟨a, n, c, k1, k2, k3, k4, k5, k6, k7, k8, k9, k10⟩ := h
 exact ⟨a, n, c, cell_turn5 o' k1 hl ho, (frozen_turn5 o' k1 hl ho).trans k2, k3.turn5 o' hl ho, cell_turn5 o' k4 hl ho, cell_turn5 o' k5 hl ho, (frozen_turn5 o' k4 hl ho).trans k6, (frozen_turn5 o' k5 hl ho).trans k7, k8, by simpa using k9, k10.trans (below_put o' hB)⟩
theorem GetI.store {B0 B1 : Nat} {w : World} {L : List UInt8} {i : Nat} {W W' : World} (h : GetI B0 B1 w L i W) (hb : Below W.heap.size W W') {a : Option Addr} {n c : Nat} (h8 : OwnAt W' W.heap.size a n c (digs (valL 10 (dvals (L.take (19 * (i + 1))))))) : GetI B0 B1 w L (i + 1) (W'.setCell ⟨B1, 0, none⟩ (.slice a n c)) := by
 obtain ⟨_, _, _, k1, k2, k3, k4, k5, k6, k7, k8, k9, k10⟩ := h.past hb
 have hB1 : B1 < W.heap.size := by obtain ⟨_, _, _, _, _, _, _, _, _, _, _, h9, _⟩ := h; exact h9
 have ne : ∀ o, (W'.setCell ⟨B1, 0, none⟩ (.slice a n c)).cell? ⟨B0, o, none⟩ = W'.cell? ⟨B0, o, none⟩ := fun o => World.cell?_setCell_other _ _ _ _ (fun e => by injection e with e; omega)
 exact ⟨a, n, c, World.cell?_setCell_same _ _ _ k1, by rw [World.frozen?_setCell]; exact k2, own_grown5 (h8.mono (by omega)) (grownBy_setCell' W' B1 _) (fun k e => by cases e; omega), (ne 0).trans k4, (ne 1).trans k5, by rw [World.frozen?_setCell]; exact k6, by rw [World.frozen?_setCell]; exact k7, k8, by simpa using k9, k10.setCell (p := ⟨B1, 0, none⟩) (by show B0 ≤ B1; omega) _⟩
end Go.Proofs.YtoecndogaklngaaGreatDoor
