import Derived.Deep.RegionHeld3
import Derived.Test.YtlkoenpdmlbhlaaGreatS0Sm
import Derived.Test.YtlkoenpdmlbhlaaGreatReg4Sm
set_option linter.unusedVariables false
set_option linter.unusedSimpArgs false
namespace Go.Proofs.YtlkoenpdmlbhlaaGreat
open Go.RowKit
def LstV (B n : Nat) (cs : List Value) (y : Value) (w : World) : Prop := ∃ g, y = .slice (some ⟨g, 0, none⟩) n n ∧ B ≤ g ∧ g < w.heap.size ∧ Cells w g cs
theorem LstV.past {B n : Nat} {cs : List Value} {y : Value} {w w' : World} (h : LstV B n cs y w) (hb : Below w.heap.size w w') : LstV B n cs y w' := by
 obtain ⟨g, e, h1, h2, h3⟩ := h; exact ⟨g, e, h1, Nat.lt_of_lt_of_le h2 hb.size, h3.past hb h2⟩
theorem LstV.new {B n : Nat} {w : World} (hB : B ≤ w.heap.size) (cs : List Value) (E : Nat) : LstV B n cs (.slice (some ⟨w.heap.size, 0, none⟩) n n) (w.alloc (.cells cs.toArray E)) :=
 ⟨_, rfl, hB, by simp, fun k hk => by rw [World.cell?_alloc_at _ _ _ _ rfl, lgA]⟩
def RatNV (q : Rat) (y : Value) (w : World) : Prop := ∃ a n c a2 n2 c2, y = .agg #[.bool (neg q.num), .slice a n c, .slice a2 n2 c2] ∧ NatAt w a n c (digs q.num.natAbs) ∧ NatAt w a2 n2 c2 (digs q.den)
theorem RatNV.past {w w' : World} {q : Rat} {y : Value} (h : RatNV q y w) (hb : Below w.heap.size w w') : RatNV q y w' := by
 obtain ⟨a, n, c, a2, n2, c2, e, h, h2⟩ := h; exact ⟨a, n, c, a2, n2, c2, e, h.later hb (Nat.le_refl _), h2.later hb (Nat.le_refl _)⟩
theorem RatNV.sets {w : World} {b k : Nat} {q : Rat} {y : Value} (h : RatNV q y w) (vs : List Value) (hx : BoxAt w b k) (hk : 0 + vs.length ≤ k) (hv : ∀ v ∈ vs, notU v) : RatNV q y (w.setCells b 0 vs) := by
 obtain ⟨a, n, c, a2, n2, c2, e, h, h2⟩ := h; exact ⟨a, n, c, a2, n2, c2, e, NatAt.sets vs 0 w h hx hk hv, NatAt.sets vs 0 w h2 hx hk hv⟩
def OkV (B : Nat) (q : Rat) (y : Value) (w : World) : Prop := ∃ a n c a2 n2 c2, y = .tuple #[.agg #[.bool (neg q.num), .slice a n c, .slice a2 n2 c2], .int .i64 0] ∧ OwnAt w B a n c (digs q.num.natAbs) ∧ OwnAt w B a2 n2 c2 (digs q.den)
theorem OkV.past {w w' : World} {B : Nat} {q : Rat} {y : Value} (h : OkV B q y w) (hb : Below w.heap.size w w') : OkV B q y w' := by
 obtain ⟨a, n, c, a2, n2, c2, e, h, h2⟩ := h; exact ⟨a, n, c, a2, n2, c2, e, h.later hb (Nat.le_refl _), h2.later hb (Nat.le_refl _)⟩
theorem OkV.setsOff {w : World} {B b2 : Nat} {q : Rat} {y : Value} (h : OkV B q y w) (hb : b2 < B) (vs : List Value) : OkV B q y (w.setCells b2 0 vs) := by
 obtain ⟨a, n, c, a2, n2, c2, e, h, h2⟩ := h; exact ⟨a, n, c, a2, n2, c2, e, OwnAt.setsOff hb vs 0 w h, OwnAt.setsOff hb vs 0 w h2⟩
theorem OkV.sets {w : World} {B b k : Nat} {q : Rat} {y : Value} (h : OkV B q y w) (vs : List Value) (hx : BoxAt w b k) (hk : 0 + vs.length ≤ k) (hv : ∀ v ∈ vs, notU v) : OkV B q y (w.setCells b 0 vs) := by
 obtain ⟨a, n, c, a2, n2, c2, e, h, h2⟩ := h; exact ⟨a, n, c, a2, n2, c2, e, OwnAt.sets vs 0 w h hx hk hv, OwnAt.sets vs 0 w h2 hx hk hv⟩
end Go.Proofs.YtlkoenpdmlbhlaaGreat
