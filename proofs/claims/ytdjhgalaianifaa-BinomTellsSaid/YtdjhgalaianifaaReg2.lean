/- what a region that draws its order makes: boxes, numbers, and what is stored into boxes. -/
import Derived.Test.YtdjhgalaianifaaReg
import Derived.Test.YtdjhgalaianifaaSigned1
set_option linter.unusedVariables false
set_option linter.unusedSimpArgs false
namespace Go.Proofs.Ytdjhgalaianifaa
open Go.RowKit

/-- no digit -/
def notU (v : Value) : Prop := ∀ x, v ≠ .int .u64 x
theorem notU_bool (b : Bool) : notU (.bool b) := fun _ e => by cases e
theorem notU_slice (a : Option Addr) (n c : Nat) : notU (.slice a n c) := fun _ e => by cases e
theorem notU_i64 (x : Int) : notU (.int .i64 x) := fun _ e => by cases e

/-- a digit's cell is none of a box -/
theorem NatAt.offBox {w : World} {a : Option Addr} {n c : Nat} {l : List Nat} (h : NatAt w a n c l) {p : Addr} {v0 : Value} (hc : w.cell? p = some v0) (hv : notU v0) (v : Value) : NatAt (w.setCell p v) a n c l := by
  refine ⟨h.len, h.le, h.cle, h.dig, ?_, h.nilc⟩
  rcases h.cell with h0 | ⟨b', o', he, hd⟩
  · exact .inl h0
  · refine .inr ⟨b', o', he, fun i hi => ?_⟩
    rw [World.cell?_setCell_other _ _ _ _ (fun e => ?_)]
    · exact hd i hi
    · rw [e, hd i hi] at hc
      exact hv _ (Option.some.inj hc).symm
theorem OwnAt.offBox {w : World} {B : Nat} {a : Option Addr} {n c : Nat} {l : List Nat} (h : OwnAt w B a n c l) {p : Addr} {v0 : Value} (hc : w.cell? p = some v0) (hv : notU v0) (v : Value) : OwnAt (w.setCell p v) B a n c l := by
  refine ⟨h.toNatAt.offBox hc hv v, ?_⟩
  rcases h.own with h0 | ⟨b2, o2, he2, hB, hf⟩
  · exact .inl h0
  · exact .inr ⟨b2, o2, he2, hB, fun i hi => by rw [World.frozen?_setCell]; exact hf i hi⟩

/-- a box of k cells that may be written, and that holds no digit -/
structure BoxAt (w : World) (b k : Nat) : Prop where
  c : ∀ i, i < k → ∃ v, w.cell? ⟨b, i, none⟩ = some v ∧ notU v
  f : ∀ i, i < k → w.frozen? ⟨b, i, none⟩ = false
theorem BoxAt.past {w w' : World} {b k : Nat} (h : BoxAt w b k) (hb : Below w.heap.size w w') (hl : b < w.heap.size) : BoxAt w' b k :=
  ⟨fun i hi => by obtain ⟨v, hv, hu⟩ := h.c i hi; exact ⟨v, (hb.cell (p := ⟨b, i, none⟩) hl).trans hv, hu⟩, fun i hi => (hb.frozen (p := ⟨b, i, none⟩) hl).trans (h.f i hi)⟩
theorem BoxAt.set {w : World} {b k : Nat} (h : BoxAt w b k) (p : Addr) (v : Value) (hv : notU v) : BoxAt (w.setCell p v) b k :=
  ⟨fun i hi => by
    obtain ⟨u, hu, hn⟩ := h.c i hi
    by_cases e : p = ⟨b, i, none⟩
    · subst e; exact ⟨v, World.cell?_setCell_same _ _ _ hu, hv⟩
    · exact ⟨u, by rw [World.cell?_setCell_other _ _ _ _ e]; exact hu, hn⟩, fun i hi => by rw [World.frozen?_setCell]; exact h.f i hi⟩
theorem BoxAt.new (w : World) (cs : Array Value) (E : Nat) (h : ∀ v ∈ cs.toList, notU v) : BoxAt (w.alloc (.cells cs E)) w.heap.size cs.size :=
  ⟨fun i hi => ⟨cs[i], by rw [World.cell?_alloc_at _ _ _ _ rfl, Array.getElem?_eq_getElem hi], h _ (by simp)⟩, fun i _ => World.frozen?_alloc_at _ _ _ _ rfl⟩
theorem BoxAt.of {w : World} {b k : Nat} {A : Array Value} (q : ∀ i, w.cell? ⟨b, i, none⟩ = A[i]?) (f : ∀ i, w.frozen? ⟨b, i, none⟩ = false) (hk : A.size = k) (hA : ∀ v ∈ A.toList, notU v) : BoxAt w b k :=
  ⟨fun i hi => ⟨A[i], by rw [q, Array.getElem?_eq_getElem (by omega)], hA _ (by simp)⟩, fun i _ => f i⟩
theorem BoxAt.drew {w : World} {b k : Nat} (h : BoxAt w b k) : BoxAt w.drew b k := ⟨h.c, h.f⟩
theorem BoxAt.two {w : World} {b : Nat} (h : BoxAt w b 2) : ∃ v0 v1, w.cell? ⟨b, 0, none⟩ = some v0 ∧ w.cell? ⟨b, 1, none⟩ = some v1 ∧ w.frozen? ⟨b, 0, none⟩ = false ∧ w.frozen? ⟨b, 1, none⟩ = false ∧ notU v0 ∧ notU v1 := by
  obtain ⟨v0, h0, u0⟩ := h.c 0 (by decide)
  obtain ⟨v1, h1, u1⟩ := h.c 1 (by decide)
  exact ⟨v0, v1, h0, h1, h.f 0 (by decide), h.f 1 (by decide), u0, u1⟩
theorem BoxAt.three {w : World} {b : Nat} (h : BoxAt w b 3) : ∃ v0 v1 v2, w.cell? ⟨b, 0, none⟩ = some v0 ∧ w.cell? ⟨b, 1, none⟩ = some v1 ∧ w.cell? ⟨b, 2, none⟩ = some v2 ∧ w.frozen? ⟨b, 0, none⟩ = false ∧ w.frozen? ⟨b, 1, none⟩ = false ∧ w.frozen? ⟨b, 2, none⟩ = false ∧ notU v0 ∧ notU v1 ∧ notU v2 := by
  obtain ⟨v0, h0, u0⟩ := h.c 0 (by decide)
  obtain ⟨v1, h1, u1⟩ := h.c 1 (by decide)
  obtain ⟨v2, h2, u2⟩ := h.c 2 (by decide)
  exact ⟨v0, v1, v2, h0, h1, h2, h.f 0 (by decide), h.f 1 (by decide), h.f 2 (by decide), u0, u1, u2⟩

/-- where the boxes lie, and one more -/
def setB (blk : Nat → Nat) (i b : Nat) : Nat → Nat := fun j => bif j == i then b else blk j
/-- the boxes that have come up: operation and cells; apart from one another -/
structure Boxes (A : List (Nat × Nat)) (B : Nat) (d : Nat → Bool) (blk : Nat → Nat) (w : World) : Prop where
  at_ : ∀ x ∈ A, d x.1 = true → B ≤ blk x.1 ∧ blk x.1 < w.heap.size ∧ BoxAt w (blk x.1) x.2
  ne : ∀ x ∈ A, ∀ y ∈ A, d x.1 = true → d y.1 = true → blk x.1 = blk y.1 → x.1 = y.1
def outOf (A : List (Nat × Nat)) (i : Nat) : Bool := A.all fun x => !(x.1 == i)
theorem outOf_ne {A : List (Nat × Nat)} {i : Nat} (h : outOf A i = true) {x : Nat × Nat} (hx : x ∈ A) : (x.1 == i) = false := by
  have := List.all_eq_true.1 h x hx
  simpa using this
theorem Boxes.none (A : List (Nat × Nat)) (B : Nat) (blk : Nat → Nat) (w : World) : Boxes A B (fun _ => false) blk w := ⟨fun _ _ h => (by cases h), fun _ _ _ _ h => (by cases h)⟩
theorem Boxes.past {A : List (Nat × Nat)} {B : Nat} {d : Nat → Bool} {blk : Nat → Nat} {w w' : World} (h : Boxes A B d blk w) (hb : Below w.heap.size w w') (i : Nat) (hi : outOf A i = true) : Boxes A B (upd d i) blk w' :=
  ⟨fun x hx hd => by
    obtain ⟨h1, h2, h3⟩ := h.at_ x hx (upd_of (outOf_ne hi hx) hd)
    exact ⟨h1, Nat.lt_of_lt_of_le h2 hb.size, h3.past hb h2⟩, fun x hx y hy hdx hdy e => h.ne x hx y hy (upd_of (outOf_ne hi hx) hdx) (upd_of (outOf_ne hi hy) hdy) e⟩
theorem Boxes.same {A : List (Nat × Nat)} {B : Nat} {d : Nat → Bool} {blk : Nat → Nat} {w : World} (h : Boxes A B d blk w) (i : Nat) (hi : outOf A i = true) : Boxes A B (upd d i) blk w := h.past (Below.refl _ _) i hi
theorem Boxes.set {A : List (Nat × Nat)} {B : Nat} {d : Nat → Bool} {blk : Nat → Nat} {w : World} (h : Boxes A B d blk w) (p : Addr) {v : Value} (hv : notU v) : Boxes A B d blk (w.setCell p v) :=
  ⟨fun x hx hd => by
    obtain ⟨h1, h2, h3⟩ := h.at_ x hx hd
    exact ⟨h1, by simpa using h2, h3.set p v hv⟩, h.ne⟩
theorem Boxes.new {A : List (Nat × Nat)} {B : Nat} {d : Nat → Bool} {blk : Nat → Nat} {w : World} (h : Boxes A B d blk w) (hB : B ≤ w.heap.size) (i : Nat) (cs : Array Value) (E : Nat) (hk : A.all (fun x => !(x.1 == i) || x.2 == cs.size) = true)
    (hc : ∀ v ∈ cs.toList, notU v) : Boxes A B (upd d i) (setB blk i w.heap.size) (w.alloc (.cells cs E)) := by
  have ha : Below w.heap.size w (w.alloc (.cells cs E)) := (Below.refl _ _).alloc (Nat.le_refl _) _
  refine ⟨fun x hx hd => ?_, fun x hx y hy hdx hdy e => ?_⟩
  · by_cases ex : (x.1 == i) = true
    · have hkx := List.all_eq_true.1 hk x hx
      rw [ex] at hkx
      have e2 : x.2 = cs.size := by simpa using hkx
      unfold setB
      rw [ex, e2]
      exact ⟨hB, by simp, BoxAt.new w cs E hc⟩
    · have ex := Bool.eq_false_iff.2 ex
      obtain ⟨h1, h2, h3⟩ := h.at_ x hx (upd_of ex hd)
      unfold setB
      rw [ex]
      exact ⟨h1, by simp; exact Nat.lt_succ_of_lt h2, h3.past ha h2⟩
  · unfold setB at e
    by_cases ex : (x.1 == i) = true
    · by_cases ey : (y.1 == i) = true
      · rw [beq_iff_eq] at ex ey; omega
      · have ey := Bool.eq_false_iff.2 ey
        obtain ⟨h1, h2, h3⟩ := h.at_ y hy (upd_of ey hdy)
        rw [ex, ey] at e
        simp at e
        omega
    · have ex := Bool.eq_false_iff.2 ex
      obtain ⟨h1, h2, h3⟩ := h.at_ x hx (upd_of ex hdx)
      by_cases ey : (y.1 == i) = true
      · rw [ex, ey] at e
        simp at e
        omega
      · have ey := Bool.eq_false_iff.2 ey
        rw [ex, ey] at e
        exact h.ne x hx y hy (upd_of ex hdx) (upd_of ey hdy) e

/-- a struct of a mark and a list, in memory from block B on -/
def CopyV (B : Nat) (b : Bool) (l : List Nat) (y : Value) (w : World) : Prop := ∃ a n c, y = .agg #[.bool b, .slice a n c] ∧ OwnAt w B a n c l
theorem CopyV.past {w w' : World} {B : Nat} {b : Bool} {l : List Nat} {y : Value} (h : CopyV B b l y w) (hb : Below w.heap.size w w') : CopyV B b l y w' := by
  obtain ⟨a, n, c, e, h⟩ := h; exact ⟨a, n, c, e, h.later hb (Nat.le_refl _)⟩
theorem CopyV.off {w : World} {B : Nat} {b : Bool} {l : List Nat} {y : Value} (h : CopyV B b l y w) {p : Addr} {v0 : Value} (hc : w.cell? p = some v0) (hv : notU v0) (v : Value) : CopyV B b l y (w.setCell p v) := by
  obtain ⟨a, n, c, e, h⟩ := h; exact ⟨a, n, c, e, h.offBox hc hv v⟩
def NatV (B : Nat) (l : List Nat) (y : Value) (w : World) : Prop := ∃ a n c, y = .slice a n c ∧ OwnAt w B a n c l
theorem NatV.past {w w' : World} {B : Nat} {l : List Nat} {y : Value} (h : NatV B l y w) (hb : Below w.heap.size w w') : NatV B l y w' := by
  obtain ⟨a, n, c, e, h⟩ := h; exact ⟨a, n, c, e, h.later hb (Nat.le_refl _)⟩
theorem NatV.off {w : World} {B : Nat} {l : List Nat} {y : Value} (h : NatV B l y w) {p : Addr} {v0 : Value} (hc : w.cell? p = some v0) (hv : notU v0) (v : Value) : NatV B l y (w.setCell p v) := by
  obtain ⟨a, n, c, e, h⟩ := h; exact ⟨a, n, c, e, h.offBox hc hv v⟩

/-- box i, at block b, holds these cells -/
structure Holds (d : Nat → Bool) (i u : Nat) (b : Nat) (vs : List Value) (w : World) : Prop where
  up : d i = true
  vp : d u = true
  lt : b < w.heap.size
  at_ : ∀ k, k < vs.length → w.cell? ⟨b, k, none⟩ = vs[k]?
theorem Holds.past {d : Nat → Bool} {i u b : Nat} {vs : List Value} {w w' : World} (h : Holds d i u b vs w) (hb : Below w.heap.size w w') (j : Nat) : Holds (upd d j) i u b vs w' :=
  ⟨by simp [upd, h.up], by simp [upd, h.vp], Nat.lt_of_lt_of_le h.lt hb.size, fun k hk => (hb.cell (p := ⟨b, k, none⟩) h.lt).trans (h.at_ k hk)⟩
theorem Holds.set {d : Nat → Bool} {i u b : Nat} {vs : List Value} {w : World} (h : Holds d i u b vs w) {b2 o : Nat} (hne : b2 ≠ b) (v : Value) : Holds d i u b vs (w.setCell ⟨b2, o, none⟩ v) :=
  ⟨h.up, h.vp, by simpa using h.lt, fun k hk => by rw [World.cell?_setCell_other _ _ _ _ (fun e => hne (congrArg Addr.block e))]; exact h.at_ k hk⟩
theorem Holds.same {d : Nat → Bool} {i u b : Nat} {vs : List Value} {w : World} (h : Holds d i u b vs w) (j : Nat) : Holds (upd d j) i u b vs w := h.past (Below.refl _ _) j

/-! a struct, stored into its box, cell by cell -/
theorem BoxAt.sets {b k : Nat} : ∀ (vs : List Value) (b2 o : Nat) (w : World), BoxAt w b k → (∀ v ∈ vs, notU v) → BoxAt (w.setCells b2 o vs) b k
  | [], _, _, _, h, _ => h
  | v :: r, b2, o, w, h, hv => BoxAt.sets r b2 (o + 1) _ (h.set _ v (hv v (by simp))) (fun x hx => hv x (by simp [hx]))
theorem Boxes.sets {A : List (Nat × Nat)} {B : Nat} {d : Nat → Bool} {blk : Nat → Nat} : ∀ (vs : List Value) (b o : Nat) (w : World), Boxes A B d blk w → (∀ v ∈ vs, notU v) → Boxes A B d blk (w.setCells b o vs)
  | [], _, _, _, h, _ => h
  | v :: r, b, o, w, h, hv => Boxes.sets r b (o + 1) _ (h.set ⟨b, o, Option.none⟩ (hv v (by simp))) (fun x hx => hv x (by simp [hx]))
theorem OwnAt.sets {B b k : Nat} {a : Option Addr} {n c : Nat} {l : List Nat} : ∀ (vs : List Value) (o : Nat) (w : World), OwnAt w B a n c l → BoxAt w b k → o + vs.length ≤ k → (∀ v ∈ vs, notU v) → OwnAt (w.setCells b o vs) B a n c l
  | [], _, _, h, _, _, _ => h
  | v :: r, o, w, h, hx, hk, hv => by
    obtain ⟨v0, h0, u0⟩ := hx.c o (by simp at hk; omega)
    exact OwnAt.sets r (o + 1) _ (h.offBox h0 u0 v) (hx.set _ v (hv v (by simp))) (by simp at hk ⊢; omega) (fun x hx => hv x (by simp [hx]))
theorem NatAt.sets {b k : Nat} {a : Option Addr} {n c : Nat} {l : List Nat} : ∀ (vs : List Value) (o : Nat) (w : World), NatAt w a n c l → BoxAt w b k → o + vs.length ≤ k → (∀ v ∈ vs, notU v) → NatAt (w.setCells b o vs) a n c l
  | [], _, _, h, _, _, _ => h
  | v :: r, o, w, h, hx, hk, hv => by
    obtain ⟨v0, h0, u0⟩ := hx.c o (by simp at hk; omega)
    exact NatAt.sets r (o + 1) _ (h.offBox h0 u0 v) (hx.set _ v (hv v (by simp))) (by simp at hk ⊢; omega) (fun x hx => hv x (by simp [hx]))
theorem CopyV.sets {B b2 k : Nat} {b : Bool} {l : List Nat} {y : Value} {w : World} (h : CopyV B b l y w) (vs : List Value) (hx : BoxAt w b2 k) (hk : vs.length ≤ k) (hv : ∀ v ∈ vs, notU v) : CopyV B b l y (w.setCells b2 0 vs) := by
  obtain ⟨a, n, c, e, h⟩ := h; exact ⟨a, n, c, e, h.sets vs 0 w hx (by omega) hv⟩
theorem NatV.sets {B b2 k : Nat} {l : List Nat} {y : Value} {w : World} (h : NatV B l y w) (vs : List Value) (hx : BoxAt w b2 k) (hk : vs.length ≤ k) (hv : ∀ v ∈ vs, notU v) : NatV B l y (w.setCells b2 0 vs) := by
  obtain ⟨a, n, c, e, h⟩ := h; exact ⟨a, n, c, e, h.sets vs 0 w hx (by omega) hv⟩
theorem Holds.sets {d : Nat → Bool} {i u b : Nat} {ws : List Value} {b2 : Nat} (hne : b2 ≠ b) : ∀ (vs : List Value) (o : Nat) (w : World), Holds d i u b ws w → Holds d i u b ws (w.setCells b2 o vs)
  | [], _, _, h => h
  | v :: r, o, w, h => Holds.sets hne r (o + 1) _ (h.set hne v)
theorem Holds.new {d : Nat → Bool} {i u b k : Nat} {w : World} (hd : d i = true) (hu : d u = true) (hl : b < w.heap.size) (hx : BoxAt w b k) (vs : List Value) (hk : vs.length ≤ k) : Holds d i u b vs (w.setCells b 0 vs) := by
  refine ⟨hd, hu, ?_, fun j hj => ?_⟩
  · rw [size_setCells]; exact hl
  · have := World.cell?_setCells_in b vs 0 w (fun q hq => by obtain ⟨v, hv, _⟩ := hx.c (0 + q) (by omega); rw [hv]; rfl) j hj
    rw [Nat.zero_add] at this
    rw [this, List.getElem?_eq_getElem hj]

/-- box i, at block b, holds this struct -/
def HoldsV (d : Nat → Bool) (i u b : Nat) (y : Value) (w : World) : Prop := ∃ vs : List Value, y = .agg vs.toArray ∧ Holds d i u b vs w
theorem HoldsV.up {d : Nat → Bool} {i u b : Nat} {y : Value} {w : World} (h : HoldsV d i u b y w) : d i = true := by obtain ⟨_, _, h⟩ := h; exact h.up
theorem HoldsV.vp {d : Nat → Bool} {i u b : Nat} {y : Value} {w : World} (h : HoldsV d i u b y w) : d u = true := by obtain ⟨_, _, h⟩ := h; exact h.vp
theorem HoldsV.past {d : Nat → Bool} {i u b : Nat} {y : Value} {w w' : World} (h : HoldsV d i u b y w) (hb : Below w.heap.size w w') (j : Nat) : HoldsV (upd d j) i u b y w' := by
  obtain ⟨vs, e, h⟩ := h; exact ⟨vs, e, h.past hb j⟩
theorem HoldsV.same {d : Nat → Bool} {i u b : Nat} {y : Value} {w : World} (h : HoldsV d i u b y w) (j : Nat) : HoldsV (upd d j) i u b y w := h.past (Below.refl _ _) j
theorem HoldsV.sets {d : Nat → Bool} {i u b : Nat} {y : Value} {w : World} (h : HoldsV d i u b y w) {b2 : Nat} (hne : b2 ≠ b) (vs : List Value) : HoldsV d i u b y (w.setCells b2 0 vs) := by
  obtain ⟨ws, e, h⟩ := h; exact ⟨ws, e, h.sets hne vs 0⟩
theorem HoldsV.new {d : Nat → Bool} {i u b k : Nat} {w : World} (hd : d i = true) (hu : d u = true) (hl : b < w.heap.size) (hx : BoxAt w b k) (vs : List Value) (hk : vs.length ≤ k) : HoldsV d i u b (.agg vs.toArray) (w.setCells b 0 vs) := ⟨vs, rfl, Holds.new hd hu hl hx vs hk⟩

/-! boxes that stood before the region, and are written in it -/
def Cells (w : World) (b : Nat) (vs : List Value) : Prop := ∀ k, k < vs.length → w.cell? ⟨b, k, none⟩ = vs[k]?
theorem Cells.past {w w' : World} {b : Nat} {vs : List Value} (h : Cells w b vs) (hb : Below w.heap.size w w') (hl : b < w.heap.size) : Cells w' b vs := fun k hk => (hb.cell (p := ⟨b, k, none⟩) hl).trans (h k hk)
theorem Cells.sets {b2 b : Nat} {ws : List Value} (hne : b2 ≠ b) : ∀ (vs : List Value) (o : Nat) (w : World), Cells w b ws → Cells (w.setCells b2 o vs) b ws
  | [], _, _, h => h
  | v :: r, o, w, h => Cells.sets hne r (o + 1) _ (fun k hk => by rw [World.cell?_setCell_other _ _ _ _ (fun e => hne (congrArg Addr.block e))]; exact h k hk)
theorem Cells.new {b k : Nat} {w : World} (hx : BoxAt w b k) (vs : List Value) (hk : vs.length ≤ k) : Cells (w.setCells b 0 vs) b vs := by
  intro j hj
  have := World.cell?_setCells_in b vs 0 w (fun q hq => by obtain ⟨v, hv, _⟩ := hx.c (0 + q) (by omega); rw [hv]; rfl) j hj
  rw [Nat.zero_add] at this
  rw [this, List.getElem?_eq_getElem hj]
def CellsV (b : Nat) (y : Value) (w : World) : Prop := ∃ vs : List Value, y = .agg vs.toArray ∧ Cells w b vs
theorem CellsV.past {w w' : World} {b : Nat} {y : Value} (h : CellsV b y w) (hb : Below w.heap.size w w') (hl : b < w.heap.size) : CellsV b y w' := by
  obtain ⟨vs, e, h⟩ := h; exact ⟨vs, e, h.past hb hl⟩
theorem CellsV.sets {w : World} {b b2 : Nat} {y : Value} (h : CellsV b y w) (hne : b2 ≠ b) (vs : List Value) : CellsV b y (w.setCells b2 0 vs) := by
  obtain ⟨ws, e, h⟩ := h; exact ⟨ws, e, h.sets hne vs 0⟩
theorem OwnAt.setsOff {B b : Nat} {a : Option Addr} {n c : Nat} {l : List Nat} (hb : b < B) : ∀ (vs : List Value) (o : Nat) (w : World), OwnAt w B a n c l → OwnAt (w.setCells b o vs) B a n c l
  | [], _, _, h => h
  | v :: r, o, w, h => OwnAt.setsOff hb r (o + 1) _ (h.setOff hb v)
theorem CopyV.setsOff {w : World} {B b2 : Nat} {b : Bool} {l : List Nat} {y : Value} (h : CopyV B b l y w) (hb : b2 < B) (vs : List Value) : CopyV B b l y (w.setCells b2 0 vs) := by
  obtain ⟨a, n, c, e, h⟩ := h; exact ⟨a, n, c, e, OwnAt.setsOff hb vs 0 w h⟩
theorem NatV.setsOff {w : World} {B b2 : Nat} {l : List Nat} {y : Value} (h : NatV B l y w) (hb : b2 < B) (vs : List Value) : NatV B l y (w.setCells b2 0 vs) := by
  obtain ⟨a, n, c, e, h⟩ := h; exact ⟨a, n, c, e, OwnAt.setsOff hb vs 0 w h⟩

end Go.Proofs.Ytdjhgalaianifaa
