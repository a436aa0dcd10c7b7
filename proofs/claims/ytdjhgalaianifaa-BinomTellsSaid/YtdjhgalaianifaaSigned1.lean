/- signed, first part: what it means that an Int comes back; Make, Of, Neg, Check, Sign. -/
import Derived.Test.YtdjhgalaianifaaLimbs3
import Derived.Test.YtdjhgalaianifaaLimbs6
set_option linter.unusedVariables false
set_option linter.unusedSimpArgs false
namespace Go.Proofs.Ytdjhgalaianifaa
open Go.RowKit

/-- a number with a sign -/
def sg (b : Bool) (v : Nat) : Int := if b then -(v : Int) else v
/-- is a whole number below nought? -/
def neg (z : Int) : Bool := decide (z < 0)

/-- A call that tells a whole number in new memory. -/
def RetInt (w : World) (z : Int) (e : Ending) (w' : World) : Prop :=
  ∃ a n c, e = .returned (.agg #[.bool (neg z), .slice a n c]) ∧ OwnAt w' w.heap.size a n c (digs z.natAbs) ∧ Below w.heap.size w w'

theorem bcell {W w1 : World} (hb : Below W.heap.size W w1) : (∀ b o, b < W.heap.size → w1.cell? ⟨b, o, none⟩ = W.cell? ⟨b, o, none⟩) ∧ (∀ b o, b < W.heap.size → w1.frozen? ⟨b, o, none⟩ = W.frozen? ⟨b, o, none⟩) :=
  ⟨fun b o h => hb.cell (p := ⟨b, o, none⟩) h, fun b o h => hb.frozen (p := ⟨b, o, none⟩) h⟩

theorem sg_false (v : Nat) : sg false v = v := rfl
theorem sg_true (v : Nat) : sg true v = -(v : Int) := rfl
theorem natAbs_sg (b : Bool) (v : Nat) : (sg b v).natAbs = v := by cases b <;> simp [sg]
theorem neg_sg (b : Bool) (v : Nat) : neg (sg b v) = (b && decide (0 < v)) := by cases b <;> simp [sg, neg] <;> omega
theorem sg_canon (z : Int) : sg (neg z) (val (digs z.natAbs)) = z := by
  rw [val_digs]; unfold sg neg; split <;> simp_all <;> omega

theorem OwnAt.setOff {w : World} {B : Nat} {a : Option Addr} {n c : Nat} {l : List Nat} (h : OwnAt w B a n c l) {b o : Nat} (hb : b < B) (v : Value) : OwnAt (w.setCell ⟨b, o, none⟩ v) B a n c l := by
  refine ⟨⟨h.len, h.le, h.cle, h.dig, ?_, h.nilc⟩, ?_⟩
  · rcases h.cell with h0 | ⟨b', o', he, hc⟩
    · exact .inl h0
    · rcases h.own with h0 | ⟨b2, o2, he2, hB, hf⟩
      · exact .inl h0
      · rw [he] at he2
        cases he2
        refine .inr ⟨b', o', he, fun i hi => ?_⟩
        rw [World.cell?_setCell_other _ (a := ⟨b, o, none⟩) (b := ⟨b', o' + i, none⟩) _ (fun e => by have := congrArg Addr.block e; simp at this; omega)]
        exact hc i hi
  · rcases h.own with h0 | ⟨b2, o2, he2, hB, hf⟩
    · exact .inl h0
    · exact .inr ⟨b2, o2, he2, hB, fun i hi => by rw [World.frozen?_setCell]; exact hf i hi⟩

/-- three boxes, one behind the other, all of them new -/
theorem boxes3 (w : World) (A B C : Array Value) (E F G : Nat) : ∃ W, ((w.alloc (.cells A E)).alloc (.cells B F)).alloc (.cells C G) = W ∧ W.heap.size = w.heap.size + 3 ∧ Below w.heap.size w W ∧
    (∀ i, W.cell? ⟨w.heap.size, i, none⟩ = A[i]?) ∧ (∀ i, W.cell? ⟨w.heap.size + 1, i, none⟩ = B[i]?) ∧ (∀ i, W.cell? ⟨w.heap.size + 1 + 1, i, none⟩ = C[i]?) ∧ (∀ i, W.frozen? ⟨w.heap.size + 1 + 1, i, none⟩ = false) := by
  refine ⟨_, rfl, by simp, (((Below.refl _ _).alloc (Nat.le_refl _) _).alloc (by simp) _).alloc (by simp; omega) _, fun i => ?_, fun i => ?_, fun i => ?_, fun i => ?_⟩
  · rw [World.cell?_alloc_past _ _ _ (by simp; omega), World.cell?_alloc_past _ _ _ (by simp), World.cell?_alloc_at _ _ _ _ rfl]
  · rw [World.cell?_alloc_past _ _ _ (by simp), World.cell?_alloc_at _ _ _ _ (by simp)]
  · rw [World.cell?_alloc_at _ _ _ _ (by simp)]
  · rw [World.frozen?_alloc_at _ _ _ _ (by simp)]
theorem boxes2 (w : World) (A B : Array Value) (E F : Nat) : ∃ W, (w.alloc (.cells A E)).alloc (.cells B F) = W ∧ W.heap.size = w.heap.size + 2 ∧ Below w.heap.size w W ∧
    (∀ i, W.cell? ⟨w.heap.size, i, none⟩ = A[i]?) ∧ (∀ i, W.cell? ⟨w.heap.size + 1, i, none⟩ = B[i]?) ∧ (∀ i, W.frozen? ⟨w.heap.size + 1, i, none⟩ = false) := by
  refine ⟨_, rfl, by simp, ((Below.refl _ _).alloc (Nat.le_refl _) _).alloc (by simp) _, fun i => ?_, fun i => ?_, fun i => ?_⟩
  · rw [World.cell?_alloc_past _ _ _ (by simp), World.cell?_alloc_at _ _ _ _ rfl]
  · rw [World.cell?_alloc_at _ _ _ _ (by simp)]
  · rw [World.frozen?_alloc_at _ _ _ _ (by simp)]

/-- an Int that comes back, stored into a result's box -/
theorem RetInt.stored {w W w' : World} {B : Nat} {a : Option Addr} {n c : Nat} {l : List Nat} {x : Value} (hW : Below w.heap.size w W) (hb : Below W.heap.size W w') (h : OwnAt w' W.heap.size a n c l) (hB : w.heap.size ≤ B) (hB2 : B < W.heap.size) :
    OwnAt ((w'.setCell ⟨B, 0, none⟩ x).setCell ⟨B, 1, none⟩ (.slice a n c)) w.heap.size a n c l ∧ Below w.heap.size w ((w'.setCell ⟨B, 0, none⟩ x).setCell ⟨B, 1, none⟩ (.slice a n c)) :=
  ⟨((h.setOff hB2 _).setOff hB2 _).mono hW.size, ((below_later hW hb).setCell (p := ⟨B, 0, none⟩) hB _).setCell (p := ⟨B, 1, none⟩) hB _⟩

theorem boxPast {W w1 : World} {B : Nat} {A : Array Value} (hb : Below W.heap.size W w1) (hlt : B < W.heap.size) (q : ∀ i, W.cell? ⟨B, i, none⟩ = A[i]?) (f : ∀ i, W.frozen? ⟨B, i, none⟩ = false) :
    (∀ i, w1.cell? ⟨B, i, none⟩ = A[i]?) ∧ (∀ i, w1.frozen? ⟨B, i, none⟩ = false) :=
  ⟨fun i => (hb.cell (p := ⟨B, i, none⟩) hlt).trans (q i), fun i => (hb.frozen (p := ⟨B, i, none⟩) hlt).trans (f i)⟩
theorem cellsPast {W w1 : World} {B : Nat} {A : Array Value} (hb : Below W.heap.size W w1) (hlt : B < W.heap.size) (q : ∀ i, W.cell? ⟨B, i, none⟩ = A[i]?) : ∀ i, w1.cell? ⟨B, i, none⟩ = A[i]? :=
  fun i => (hb.cell (p := ⟨B, i, none⟩) hlt).trans (q i)
theorem retIntOf {w w' : World} {z : Int} {a : Option Addr} {n c v : Nat} (h : OwnAt w' w.heap.size a n c (digs v) ∧ Below w.heap.size w w') (e : v = z.natAbs) (e2 : Ending) (he : e2 = .returned (.agg #[.bool (neg z), .slice a n c])) : RetInt w z e2 w' :=
  ⟨a, n, c, he, e ▸ h.1, h.2⟩

/-- a box of k cells that may be written -/
structure Room (w : World) (R k : Nat) : Prop where
  c : ∀ i, i < k → ∃ v, w.cell? ⟨R, i, none⟩ = some v
  f : ∀ i, i < k → w.frozen? ⟨R, i, none⟩ = false
theorem Room.of {w : World} {R : Nat} {A : Array Value} (q : ∀ i, w.cell? ⟨R, i, none⟩ = A[i]?) (f : ∀ i, w.frozen? ⟨R, i, none⟩ = false) : Room w R A.size :=
  ⟨fun i hi => ⟨A[i], by rw [q, Array.getElem?_eq_getElem hi]⟩, fun i _ => f i⟩
theorem Room.past {w w' : World} {R k : Nat} (h : Room w R k) (hb : Below w.heap.size w w') (hR : R < w.heap.size) : Room w' R k :=
  ⟨fun i hi => by obtain ⟨v, hv⟩ := h.c i hi; exact ⟨v, (hb.cell (p := ⟨R, i, none⟩) hR).trans hv⟩, fun i hi => (hb.frozen (p := ⟨R, i, none⟩) hR).trans (h.f i hi)⟩
theorem Room.drew {w : World} {R k : Nat} (h : Room w R k) : Room w.drew R k := ⟨h.c, h.f⟩
theorem Room.set {w : World} {R k : Nat} (h : Room w R k) (p : Addr) (v : Value) : Room (w.setCell p v) R k :=
  ⟨fun i hi => by
    obtain ⟨u, hu⟩ := h.c i hi
    by_cases e : p = ⟨R, i, none⟩
    · subst e; exact ⟨v, World.cell?_setCell_same _ _ _ hu⟩
    · exact ⟨u, by rw [World.cell?_setCell_other _ _ _ _ e]; exact hu⟩, fun i hi => by rw [World.frozen?_setCell]; exact h.f i hi⟩
theorem Room.two {w : World} {R : Nat} (h : Room w R 2) : ∃ v0 v1, w.cell? ⟨R, 0, none⟩ = some v0 ∧ w.cell? ⟨R, 1, none⟩ = some v1 ∧ w.frozen? ⟨R, 0, none⟩ = false ∧ w.frozen? ⟨R, 1, none⟩ = false := by
  obtain ⟨v0, h0⟩ := h.c 0 (by decide)
  obtain ⟨v1, h1⟩ := h.c 1 (by decide)
  exact ⟨v0, v1, h0, h1, h.f 0 (by decide), h.f 1 (by decide)⟩
theorem Room.three {w : World} {R : Nat} (h : Room w R 3) : ∃ v0 v1 v2, w.cell? ⟨R, 0, none⟩ = some v0 ∧ w.cell? ⟨R, 1, none⟩ = some v1 ∧ w.cell? ⟨R, 2, none⟩ = some v2 ∧ w.frozen? ⟨R, 0, none⟩ = false ∧ w.frozen? ⟨R, 1, none⟩ = false ∧ w.frozen? ⟨R, 2, none⟩ = false := by
  obtain ⟨v0, h0⟩ := h.c 0 (by decide)
  obtain ⟨v1, h1⟩ := h.c 1 (by decide)
  obtain ⟨v2, h2⟩ := h.c 2 (by decide)
  exact ⟨v0, v1, v2, h0, h1, h2, h.f 0 (by decide), h.f 1 (by decide), h.f 2 (by decide)⟩

def chkZ (b : Bool) (l : List Nat) : Int := if b = true ∧ l = [] then 6 else chk l
theorem neg_digs0 {z : Int} {n : Nat} (h : (digs z.natAbs).length = n) : (z = 0 ↔ n = 0) := by
  rw [← h, digs_len0]; omega
theorem u64_neg {x : Int} (h0 : -9223372036854775808 ≤ x) (hx : x < 0) : IntKind.u64.wrap (-IntKind.u64.wrap x) = ((x.natAbs : Nat) : Int) ∧ x.natAbs < 18446744073709551616 := by
  rw [IntKind.wrap_u64, IntKind.wrap_u64]; omega
theorem u64_pos {x : Int} (h1 : x ≤ 9223372036854775807) (hx : ¬ x < 0) : IntKind.u64.wrap x = ((x.natAbs : Nat) : Int) ∧ x.natAbs < 18446744073709551616 := by
  rw [IntKind.wrap_u64]; omega
theorem sg_abs {x : Int} : sg (neg x) x.natAbs = x := by unfold sg neg; split <;> simp_all <;> omega

end Go.Proofs.Ytdjhgalaianifaa
