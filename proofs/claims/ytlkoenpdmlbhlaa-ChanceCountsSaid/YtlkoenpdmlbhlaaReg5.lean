/- Regions that draw: results that are parts of a fraction, whatever they are. No program. -/
import Derived.Test.YtlkoenpdmlbhlaaReg4
set_option linter.unusedVariables false
set_option linter.unusedSimpArgs false
namespace Go.Proofs.Ytlkoenpdmlbhlaa
open Go.RowKit

def PartV (B : Nat) (b : Bool) (l l2 : List Nat) (y : Value) (w : World) : Prop := ∃ a n c a2 n2 c2, y = .agg #[.bool b, .slice a n c, .slice a2 n2 c2] ∧ OwnAt w B a n c l ∧ OwnAt w B a2 n2 c2 l2
theorem PartV.past {w w' : World} {B : Nat} {b : Bool} {l l2 : List Nat} {y : Value} (h : PartV B b l l2 y w) (hb : Below w.heap.size w w') : PartV B b l l2 y w' := by
  obtain ⟨a, n, c, a2, n2, c2, e, h, h2⟩ := h; exact ⟨a, n, c, a2, n2, c2, e, h.later hb (Nat.le_refl _), h2.later hb (Nat.le_refl _)⟩
theorem PartV.sets {w : World} {B b2 k : Nat} {b : Bool} {l l2 : List Nat} {y : Value} (h : PartV B b l l2 y w) (vs : List Value) (hx : BoxAt w b2 k) (hk : 0 + vs.length ≤ k) (hv : ∀ v ∈ vs, notU v) : PartV B b l l2 y (w.setCells b2 0 vs) := by
  obtain ⟨a, n, c, a2, n2, c2, e, h, h2⟩ := h; exact ⟨a, n, c, a2, n2, c2, e, OwnAt.sets vs 0 w h hx hk hv, OwnAt.sets vs 0 w h2 hx hk hv⟩
theorem PartV.setsOff {w : World} {B b2 : Nat} {b : Bool} {l l2 : List Nat} {y : Value} (h : PartV B b l l2 y w) (hb : b2 < B) (vs : List Value) : PartV B b l l2 y (w.setCells b2 0 vs) := by
  obtain ⟨a, n, c, a2, n2, c2, e, h, h2⟩ := h; exact ⟨a, n, c, a2, n2, c2, e, OwnAt.setsOff hb vs 0 w h, OwnAt.setsOff hb vs 0 w h2⟩

end Go.Proofs.Ytlkoenpdmlbhlaa
