/- stores into a part of a standing box. -/
import Derived.Test.YtlkoenpdmlbhlaaA9
set_option linter.unusedVariables false
set_option linter.unusedSimpArgs false
namespace Go.Proofs.Ytlkoenpdmlbhlaa
open Go.RowKit

theorem uo {d : Nat → Bool} {i j : Nat} {P : Prop} (f : Shut (d j = true → P)) (hne : (j == i) = false) : upd d i j = true → P := fun h => f.out (upd_of hne h)
def CellsO (w : World) (b o : Nat) (vs : List Value) : Prop := ∀ k, k < vs.length → w.cell? ⟨b, o + k, none⟩ = vs[k]?
theorem CellsO.past {w w' : World} {b o : Nat} {vs : List Value} (h : CellsO w b o vs) (hb : Below w.heap.size w w') (hl : b < w.heap.size) : CellsO w' b o vs := fun k hk => (hb.cell (p := ⟨b, o + k, none⟩) hl).trans (h k hk)
theorem CellsO.away {b o : Nat} {ws : List Value} : ∀ (vs : List Value) (o2 : Nat) (w : World), CellsO w b o ws → (o2 + vs.length ≤ o ∨ o + ws.length ≤ o2) → CellsO (w.setCells b o2 vs) b o ws
  | [], _, _, h, _ => h
  | v :: vs, o2, w, h, hd => by
    refine CellsO.away vs (o2 + 1) (w.setCell ⟨b, o2, none⟩ v) (fun k hk => ?_) (by rw [List.length_cons] at hd; omega)
    rw [World.cell?_setCell_other _ _ _ _ (fun e => by have := congrArg Addr.off e; simp at this; rw [List.length_cons] at hd; omega)]
    exact h k hk
theorem CellsO.new {b k : Nat} : ∀ (vs : List Value) (o : Nat) (w : World), BoxAt w b k → o + vs.length ≤ k → (∀ v ∈ vs, notU v) → CellsO (w.setCells b o vs) b o vs
  | [], _, _, _, _, _ => fun j hj => by cases hj
  | v :: vs, o, w, hx, hk, hv => by
    rw [List.length_cons] at hk
    obtain ⟨u, hu, _⟩ := hx.c o (by omega)
    have h1 := CellsO.new vs (o + 1) (w.setCell ⟨b, o, none⟩ v) (hx.set _ _ (hv v (by simp))) (by omega) (fun x hx => hv x (by simp [hx]))
    intro j hj
    cases j with
    | zero =>
      have h0 : CellsO (w.setCell ⟨b, o, none⟩ v) b o [v] := fun i hi => by
        obtain rfl : i = 0 := by simpa using hi
        exact World.cell?_setCell_same _ _ _ hu
      exact CellsO.away vs (o + 1) _ h0 (.inr (by simp)) 0 (by simp)
    | succ j =>
      have := h1 j (by simpa using hj)
      rw [show o + (j + 1) = o + 1 + j by omega]
      exact this
def CellsP (b o k : Nat) (y : Value) (w : World) : Prop := ∃ vs : List Value, y = .agg vs.toArray ∧ vs.length = k ∧ CellsO w b o vs
theorem CellsP.past {w w' : World} {b o k : Nat} {y : Value} (h : CellsP b o k y w) (hb : Below w.heap.size w w') (hl : b < w.heap.size) : CellsP b o k y w' := by
  obtain ⟨vs, e, e2, h⟩ := h; exact ⟨vs, e, e2, h.past hb hl⟩
theorem CellsP.away {b o k : Nat} {y : Value} {w : World} (h : CellsP b o k y w) (vs : List Value) (o2 : Nat) (hd : o2 + vs.length ≤ o ∨ o + k ≤ o2) : CellsP b o k y (w.setCells b o2 vs) := by
  obtain ⟨us, e, e2, h⟩ := h; exact ⟨us, e, e2, CellsO.away vs o2 w h (by rw [e2]; exact hd)⟩
theorem CopyV.setsO {w : World} {B b2 : Nat} {b : Bool} {l : List Nat} {y : Value} (h : CopyV B b l y w) (o : Nat) (hb : b2 < B) (vs : List Value) : CopyV B b l y (w.setCells b2 o vs) := by
  obtain ⟨a, n, c, e, h⟩ := h; exact ⟨a, n, c, e, OwnAt.setsOff hb vs o w h⟩
theorem NatV.setsO {w : World} {B b2 : Nat} {l : List Nat} {y : Value} (h : NatV B l y w) (o : Nat) (hb : b2 < B) (vs : List Value) : NatV B l y (w.setCells b2 o vs) := by
  obtain ⟨a, n, c, e, h⟩ := h; exact ⟨a, n, c, e, OwnAt.setsOff hb vs o w h⟩

end Go.Proofs.Ytlkoenpdmlbhlaa
