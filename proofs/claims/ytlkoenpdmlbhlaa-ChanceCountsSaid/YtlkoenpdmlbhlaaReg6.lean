/- Regions that draw: written lists, fractions that are told in whatever memory, fractions that are told with an error. No program. -/
import Derived.Test.YtlkoenpdmlbhlaaReg5
import Derived.Test.YtlkoenpdmlbhlaaTake
set_option linter.unusedVariables false
set_option linter.unusedSimpArgs false
namespace Go.Proofs.Ytlkoenpdmlbhlaa
open Go.RowKit

theorem setCells_size (b : Nat) : ∀ (vs : List Value) (o : Nat) (w : World), (w.setCells b o vs).heap.size = w.heap.size
  | [], _, _ => rfl
  | v :: r, o, w => (setCells_size b r (o + 1) _).trans (by simp)
/-- a written list of n elements, with these cells -/
def LstV (B n : Nat) (cs : List Value) (y : Value) (w : World) : Prop := ∃ g, y = .slice (some ⟨g, 0, none⟩) n n ∧ B ≤ g ∧ g < w.heap.size ∧ Cells w g cs
theorem LstV.past {B n : Nat} {cs : List Value} {y : Value} {w w' : World} (h : LstV B n cs y w) (hb : Below w.heap.size w w') : LstV B n cs y w' := by
  obtain ⟨g, e, h1, h2, h3⟩ := h; exact ⟨g, e, h1, Nat.lt_of_lt_of_le h2 hb.size, h3.past hb h2⟩
theorem LstV.setsOff {B n b2 : Nat} {cs : List Value} {y : Value} {w : World} (h : LstV B n cs y w) (hb : b2 < B) (vs : List Value) : LstV B n cs y (w.setCells b2 0 vs) := by
  obtain ⟨g, e, h1, h2, h3⟩ := h; exact ⟨g, e, h1, by rw [setCells_size]; exact h2, Cells.sets (by omega) vs 0 _ h3⟩
theorem LstV.new {B n : Nat} {w : World} (hB : B ≤ w.heap.size) (cs : List Value) (E : Nat) : LstV B n cs (.slice (some ⟨w.heap.size, 0, none⟩) n n) (w.alloc (.cells cs.toArray E)) :=
  ⟨_, rfl, hB, by simp, fun k hk => by rw [World.cell?_alloc_at _ _ _ _ rfl, List.getElem?_toArray]⟩
/-- a fraction that is told, in whatever memory -/
def RatNV (q : Rat) (y : Value) (w : World) : Prop := ∃ a n c a2 n2 c2, y = .agg #[.bool (neg q.num), .slice a n c, .slice a2 n2 c2] ∧ NatAt w a n c (digs q.num.natAbs) ∧ NatAt w a2 n2 c2 (digs q.den)
theorem RatNV.past {w w' : World} {q : Rat} {y : Value} (h : RatNV q y w) (hb : Below w.heap.size w w') : RatNV q y w' := by
  obtain ⟨a, n, c, a2, n2, c2, e, h, h2⟩ := h; exact ⟨a, n, c, a2, n2, c2, e, h.later hb (Nat.le_refl _), h2.later hb (Nat.le_refl _)⟩
theorem RatNV.sets {w : World} {b k : Nat} {q : Rat} {y : Value} (h : RatNV q y w) (vs : List Value) (hx : BoxAt w b k) (hk : 0 + vs.length ≤ k) (hv : ∀ v ∈ vs, notU v) : RatNV q y (w.setCells b 0 vs) := by
  obtain ⟨a, n, c, a2, n2, c2, e, h, h2⟩ := h; exact ⟨a, n, c, a2, n2, c2, e, NatAt.sets vs 0 w h hx hk hv, NatAt.sets vs 0 w h2 hx hk hv⟩
/-- a fraction that is told, and that all went well -/
def OkV (B : Nat) (q : Rat) (y : Value) (w : World) : Prop := ∃ a n c a2 n2 c2, y = .tuple #[.agg #[.bool (neg q.num), .slice a n c, .slice a2 n2 c2], .int .i64 0] ∧ OwnAt w B a n c (digs q.num.natAbs) ∧ OwnAt w B a2 n2 c2 (digs q.den)
theorem OkV.past {w w' : World} {B : Nat} {q : Rat} {y : Value} (h : OkV B q y w) (hb : Below w.heap.size w w') : OkV B q y w' := by
  obtain ⟨a, n, c, a2, n2, c2, e, h, h2⟩ := h; exact ⟨a, n, c, a2, n2, c2, e, h.later hb (Nat.le_refl _), h2.later hb (Nat.le_refl _)⟩
theorem OkV.setsOff {w : World} {B b2 : Nat} {q : Rat} {y : Value} (h : OkV B q y w) (hb : b2 < B) (vs : List Value) : OkV B q y (w.setCells b2 0 vs) := by
  obtain ⟨a, n, c, a2, n2, c2, e, h, h2⟩ := h; exact ⟨a, n, c, a2, n2, c2, e, OwnAt.setsOff hb vs 0 w h, OwnAt.setsOff hb vs 0 w h2⟩
theorem OkV.sets {w : World} {B b k : Nat} {q : Rat} {y : Value} (h : OkV B q y w) (vs : List Value) (hx : BoxAt w b k) (hk : 0 + vs.length ≤ k) (hv : ∀ v ∈ vs, notU v) : OkV B q y (w.setCells b 0 vs) := by
  obtain ⟨a, n, c, a2, n2, c2, e, h, h2⟩ := h; exact ⟨a, n, c, a2, n2, c2, e, OwnAt.sets vs 0 w h hx hk hv, OwnAt.sets vs 0 w h2 hx hk hv⟩

end Go.Proofs.Ytlkoenpdmlbhlaa
