/- the laws of ratio: of, is, like. -/
import Derived.Test.YtlkoenpdmlbhlaaA9
import Derived.Test.YtlkoenpdmlbhlaaB1
set_option linter.unusedVariables false
set_option linter.unusedSimpArgs false
namespace Go.Proofs.Ytlkoenpdmlbhlaa
open Go.RowKit

/-- a fraction as it is written -/
def fr (x : Int) (d : Nat) (h : d ≠ 0 := by decide) (h2 : x.natAbs.Coprime d := by decide) : Rat := ⟨x, d, h, h2⟩
/-- parts as they were written -/
def RetOf (x : Int) (d : Nat) (w : World) (e : Ending) (w' : World) : Prop :=
  ∃ a n c a2 n2 c2, e = .returned (.agg #[.bool (neg x), .slice a n c, .slice a2 n2 c2]) ∧ OwnAt w' w.heap.size a n c (digs x.natAbs) ∧ OwnAt w' w.heap.size a2 n2 c2 [d] ∧ Below w.heap.size w w'
theorem OwnAt.one {E : Nat} (w : World) (g d : Nat) (hg : g = w.heap.size) (hd : d < 18446744073709551616) : OwnAt (w.alloc (.cells #[.int .u64 (d : Int)] E)) w.heap.size (some ⟨g, 0, none⟩) 1 1 [d] :=
  litG w g _ [d] 1 hg rfl rfl (by decide) (by simpa using hd)
theorem partial2 {w : World} {b : Nat} (x : BoxAt w b 2) (v : Value) (h0 : notU v) {u : Value} (hu : w.cell? ⟨b, 0, none⟩ = some u) : ∃ w', w.setCell ⟨b, 1, none⟩ v = w' ∧ Off b w w' ∧ w'.cell? ⟨b, 0, none⟩ = some u ∧ w'.cell? ⟨b, 1, none⟩ = some v ∧ BoxAt w' b 2 := by
  obtain ⟨u0, c0, n0⟩ := x.c 1 (by decide)
  exact ⟨_, rfl, Off.set c0 n0 h0, by rw [World.cell?_setCell_other _ _ _ _ (fun e => by cases e)]; exact hu, World.cell?_setCell_same _ _ _ c0, x.set _ _ h0⟩

end Go.Proofs.Ytlkoenpdmlbhlaa
