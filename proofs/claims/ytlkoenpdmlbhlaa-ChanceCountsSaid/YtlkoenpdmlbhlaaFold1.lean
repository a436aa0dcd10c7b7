/- chance.fold over whatever hands on fractions. -/
import Derived.Test.YtlkoenpdmlbhlaaChance1
import Derived.Test.YtlkoenpdmlbhlaaRange1
set_option linter.unusedVariables false
set_option linter.unusedSimpArgs false
namespace Go.Proofs.Ytlkoenpdmlbhlaa
open Go.RowKit Go.Shelf
attribute [local go_sem] Oper.semAt_some

theorem cell_turn {W : World} {l : Nat} {o : Obj} (o' : Obj) {x : Addr} {v : Value} (h : W.cell? x = some v) (hl : W.heap[l]? = some o) (ho : o.isCells = false) : (W.putObj l o').cell? x = some v :=
  cell_kept h (grownBy_putObj' W l o') (fun r e => by cases e; exact ⟨o, hl, ho⟩)
theorem frozen_turn {W : World} {l : Nat} {o : Obj} (o' : Obj) {x : Addr} {v : Value} (h : W.cell? x = some v) (hl : W.heap[l]? = some o) (ho : o.isCells = false) : (W.putObj l o').frozen? x = W.frozen? x :=
  frozen_kept h (grownBy_putObj' W l o') (fun r e => by cases e; exact ⟨o, hl, ho⟩)
theorem NatAt.turn {W : World} {l : Nat} {o : Obj} (o' : Obj) {a : Option Addr} {n c : Nat} {L : List Nat} (h : NatAt W a n c L) (hl : W.heap[l]? = some o) (ho : o.isCells = false) : NatAt (W.putObj l o') a n c L :=
  ⟨h.len, h.le, h.cle, h.dig, h.cell.imp id fun ⟨b, k, e, hc⟩ => ⟨b, k, e, fun i hi => cell_turn o' (hc i hi) hl ho⟩, h.nilc⟩
theorem OwnAt.turn {W : World} {l B : Nat} {o : Obj} (o' : Obj) {a : Option Addr} {n c : Nat} {L : List Nat} (h : OwnAt W B a n c L) (hl : W.heap[l]? = some o) (ho : o.isCells = false) : OwnAt (W.putObj l o') B a n c L := by
  refine ⟨h.toNatAt.turn o' hl ho, ?_⟩
  rcases h.own with h0 | ⟨b, k, rfl, hB, hf⟩
  · exact .inl h0
  · rcases h.cell with h0 | ⟨b2, k2, e, hc⟩
    · exact .inl h0
    · injection e with e
      injection e with e1 e2
      subst e1
      subst e2
      exact .inr ⟨b, k, rfl, hB, fun i hi => (frozen_turn o' (hc i hi) hl ho).trans (hf i hi)⟩
theorem BoxAt.turn {W : World} {l b k : Nat} {o : Obj} (o' : Obj) (h : BoxAt W b k) (hl : W.heap[l]? = some o) (ho : o.isCells = false) : BoxAt (W.putObj l o') b k :=
  ⟨fun i hi => by obtain ⟨v, hv, hu⟩ := h.c i hi; exact ⟨v, cell_turn o' hv hl ho, hu⟩, fun i hi => by obtain ⟨v, hv, hu⟩ := h.c i hi; exact (frozen_turn o' hv hl ho).trans (h.f i hi)⟩
/-- a fraction in a box, its digits in memory from block B on -/
def RatBox (w : World) (B b : Nat) (q : Rat) : Prop :=
  ∃ au nu cu ad nd cd, w.cell? ⟨b, 0, none⟩ = some (.bool (neg q.num)) ∧ w.cell? ⟨b, 1, none⟩ = some (.slice au nu cu) ∧ w.cell? ⟨b, 2, none⟩ = some (.slice ad nd cd) ∧ BoxAt w b 3 ∧ b < w.heap.size ∧ OwnAt w B au nu cu (digs q.num.natAbs) ∧ OwnAt w B ad nd cd (digs q.den)
theorem RatBox.past {w w' : World} {B b : Nat} {q : Rat} (h : RatBox w B b q) (hb : Below w.heap.size w w') : RatBox w' B b q := by
  obtain ⟨au, nu, cu, ad, nd, cd, h0, h1, h2, hx, hl, hu, hd⟩ := h
  exact ⟨au, nu, cu, ad, nd, cd, (hb.cell (p := ⟨b, 0, none⟩) hl).trans h0, (hb.cell (p := ⟨b, 1, none⟩) hl).trans h1, (hb.cell (p := ⟨b, 2, none⟩) hl).trans h2, hx.past hb hl, Nat.lt_of_lt_of_le hl hb.size, hu.past hb, hd.past hb⟩
theorem RatBox.turn {W : World} {l B b : Nat} {o : Obj} (o' : Obj) {q : Rat} (h : RatBox W B b q) (hl : W.heap[l]? = some o) (ho : o.isCells = false) : RatBox (W.putObj l o') B b q := by
  obtain ⟨au, nu, cu, ad, nd, cd, h0, h1, h2, hx, hlt, hu, hd⟩ := h
  exact ⟨au, nu, cu, ad, nd, cd, cell_turn o' h0 hl ho, cell_turn o' h1 hl ho, cell_turn o' h2 hl ho, hx.turn o' hl ho, by simpa using hlt, hu.turn o' hl ho, hd.turn o' hl ho⟩
/-- a fraction as it is handed on -/
def RatOk (q : Nat → Rat) (i : Nat) (x : Value) (_ : Nat) (w : World) : Prop :=
  ∃ a1 n1 c1 a2 n2 c2, x = .agg #[.bool (neg (q i).num), .slice a1 n1 c1, .slice a2 n2 c2] ∧ NatAt w a1 n1 c1 (digs (q i).num.natAbs) ∧ NatAt w a2 n2 c2 (digs (q i).den)
/-- the same, its digits in memory from block B on -/
def RatNew (q : Nat → Rat) (i : Nat) (x : Value) (B : Nat) (w : World) : Prop :=
  ∃ a1 n1 c1 a2 n2 c2, x = .agg #[.bool (neg (q i).num), .slice a1 n1 c1, .slice a2 n2 c2] ∧ OwnAt w B a1 n1 c1 (digs (q i).num.natAbs) ∧ OwnAt w B a2 n2 c2 (digs (q i).den)
theorem RatNew.ok {q : Nat → Rat} {i : Nat} {x : Value} {B : Nat} {w : World} : RatNew q i x B w → RatOk q i x B w := fun ⟨a1, n1, c1, a2, n2, c2, e, h1, h2⟩ => ⟨a1, n1, c1, a2, n2, c2, e, h1.toNatAt, h2.toNatAt⟩
def sumQ (p : Rat) (q : Nat → Rat) : Nat → Rat
  | 0 => p
  | i + 1 => sumQ p q i + q i

end Go.Proofs.Ytlkoenpdmlbhlaa
