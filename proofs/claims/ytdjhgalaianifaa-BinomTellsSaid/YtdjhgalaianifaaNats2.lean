/- rows of numbers beside other rows; copies of rows. -/
import Derived.Test.YtdjhgalaianifaaNats
import Derived.Test.YtdjhgalaianifaaReg2
import Derived.OneCell
set_option linter.unusedVariables false
set_option linter.unusedSimpArgs false
namespace Go.Proofs.Ytdjhgalaianifaa
open Go.RowKit

/-- a row of numbers whose digits lie in none of the blocks A -/
structure Rows (w : World) (B g cap n : Nat) (f : Nat → List Nat) (A : List Nat) : Prop where
  ex : ∃ vs, w.ownsRow B 23 1 (.slice (some ⟨g, 0, none⟩) n cap) n vs ∧ ∀ i, i < n → ∃ a m c, vs[i]? = some (.slice a m c) ∧ OwnAt w B a m c (f i) ∧ (m = 0 ∨ ∀ x, a = some x → x.block ∉ A)
theorem Nats.rows {w : World} {B g cap n : Nat} {f : Nat → List Nat} (h : Nats w B g cap n f) : Rows w B g cap n f [g] := by
  obtain ⟨vs, h1, h2⟩ := h.ex
  refine ⟨vs, h1, fun i hi => ?_⟩
  obtain ⟨a, m, c, e, ho, hn⟩ := h2 i hi
  exact ⟨a, m, c, e, ho, hn.imp id fun h x hx => by simpa using h x hx⟩
theorem Rows.lt {w : World} {B g cap n : Nat} {f : Nat → List Nat} {A : List Nat} (h : Rows w B g cap n f A) : B ≤ g ∧ g < w.heap.size := by
  obtain ⟨vs, h1, _⟩ := h.ex; exact h1.lt g rfl
theorem Rows.past {w w' : World} {B g cap n : Nat} {f : Nat → List Nat} {A : List Nat} (h : Rows w B g cap n f A) (hb : Below w.heap.size w w') : Rows w' B g cap n f A := by
  obtain ⟨vs, h1, h2⟩ := h.ex
  refine ⟨vs, h1.kept (below_grown hb none) (.inr (by simp [Value.ownBlock])), fun i hi => ?_⟩
  obtain ⟨a, m, c, e, ho, hne⟩ := h2 i hi
  exact ⟨a, m, c, e, ho.past hb, hne⟩
theorem Rows.drew {w : World} {B g cap n : Nat} {f : Nat → List Nat} {A : List Nat} (h : Rows w B g cap n f A) : Rows w.drew B g cap n f A := h.past (Below.refl _ _).drew
theorem Rows.get {w : World} {B g cap n : Nat} {f : Nat → List Nat} {A : List Nat} (h : Rows w B g cap n f A) {i : Nat} (hi : i < n) : ∃ a m c, w.cell? ⟨g, i, none⟩ = some (.slice a m c) ∧ OwnAt w B a m c (f i) := by
  obtain ⟨vs, h1, h2⟩ := h.ex
  obtain ⟨a, m, c, e, ho, hne⟩ := h2 i hi
  exact ⟨a, m, c, by rw [World.ownsRow.cellAt h1 i (by omega), e], ho⟩
theorem Rows.pushed {w w' : World} {B B2 g cap n g0 g1 cap1 k : Nat} {f f1 : Nat → List Nat} {A : List Nat} (h : Rows w B g cap n f A) (hp : Pushed w B2 g0 w' g1 cap1 k f1) (hA : g0 ∈ A) (hne : g ≠ g0) : Rows w' B g cap n f A := by
  obtain ⟨vs, h1, h2⟩ := h.ex
  refine ⟨vs, h1.kept hp.grown (.inr (by simpa [Value.ownBlock] using hne)), fun i hi => ?_⟩
  obtain ⟨a, m, c, e, ho, hn⟩ := h2 i hi
  exact ⟨a, m, c, e, ho.grown hp.grown (hn.imp id fun h x hx e => h x hx (by cases e; exact hA)), hn⟩
/-- a struct or a list written where none of its digits lies -/
theorem Rows.store {w : World} {B g cap n : Nat} {f : Nat → List Nat} {A : List Nat} (h : Rows w B g cap n f A) {p : Addr} (hp : p.block ≠ g) {v0 : Value} (hc : w.cell? p = some v0) (hv : notU v0) (v : Value) : Rows (w.setCell p v) B g cap n f A := by
  obtain ⟨vs, h1, h2⟩ := h.ex
  refine ⟨vs, ownsRow_setCell_other h1 (by simp only [Value.ownBlock, ne_eq, Option.some.injEq]; exact fun e => hp e.symm) v, fun i hi => ?_⟩
  obtain ⟨a, m, c, e, ho, hn⟩ := h2 i hi
  exact ⟨a, m, c, e, ho.offBox hc hv v, hn⟩

theorem ownsRow_setCells {B E g cap n : Nat} : ∀ (vs : List Value) (o : Nat) (w : World) (xs : List Value), o + vs.length ≤ n → w.ownsRow B E 1 (.slice (some ⟨g, 0, none⟩) n cap) n xs →
    ∃ ys, (w.setCells g o vs).ownsRow B E 1 (.slice (some ⟨g, 0, none⟩) n cap) n ys ∧ ∀ j, ys[j]? = if o ≤ j ∧ j < o + vs.length then vs[j - o]? else xs[j]?
  | [], o, w, xs, _, h => ⟨xs, h, fun j => by rw [if_neg (by simp)]⟩
  | v :: r, o, w, xs, hl, h => by
    have hxl : xs.length = n := by have := h.1; omega
    simp only [List.length_cons] at hl ⊢
    obtain ⟨ys, h1, h2⟩ := ownsRow_setCells r (o + 1) (w.setCell ⟨g, o, none⟩ v) (xs.set o v) (by omega) (World.ownsRow.stored h o v).1
    refine ⟨ys, h1, fun j => ?_⟩
    rw [h2 j]
    by_cases e : j = o
    · subst e
      rw [if_neg (by omega), if_pos (by omega), Nat.sub_self, List.getElem?_set_self (by omega)]
      rfl
    · by_cases hj : o + 1 ≤ j ∧ j < o + 1 + r.length
      · rw [if_pos hj, if_pos (by omega), show j - o = (j - (o + 1)) + 1 by omega, List.getElem?_cons_succ]
      · rw [if_neg hj, if_neg (by omega), List.getElem?_set_ne (by omega)]

theorem ownsRow_from {w : World} {base base' E size n : Nat} {v : Value} {xs : List Value} (h : w.ownsRow base E size v n xs) (hb : base' ≤ base) : w.ownsRow base' E size v n xs :=
  ⟨h.1, h.2.imp id fun ⟨g, cap, cur, e, hg, r⟩ => ⟨g, cap, cur, e, Nat.le_trans hb hg, r⟩⟩

/-- 'copy' of a row behind the first place of a longer one -/
theorem copy_rows {w : World} {B g cap n gs : Nat} {f : Nat → List Nat} (h : Nats w B g cap n f) (hn : 0 < n) (hs : w.ownsRow B 23 1 (.slice (some ⟨gs, 0, none⟩) (n + 1) (n + 1)) (n + 1) (List.replicate (n + 1) (.slice none 0 0))) (hne : g ≠ gs)
    (hel : ∀ i, i < n → ∀ a m c, w.cell? ⟨g, i, none⟩ = some (.slice a m c) → m = 0 ∨ ∀ x, a = some x → x.block ≠ gs) (ty : TypeId) :
    ∃ w', (Builtin.copy_ #[51, 51] ty #[.slice (some ⟨gs, 1, none⟩) n n, .slice (some ⟨g, 0, none⟩) n cap]).run Try.prog w = .ok (goInt ((n : Nat) : Int)) w' ∧ Nats w' B g cap n f ∧ Rows w' B gs (n + 1) (n + 1) (fun i => if i = 0 then [] else f (i - 1)) [g, gs] ∧ w.grownBy w' (some gs) := by
  have hisz : (Try.prog.info? 23).map (·.size) = some 1 := by kernel_rfl
  obtain ⟨vs, h1, h2⟩ := h.ex
  have hvl : vs.length = n := by have := h1.1; omega
  obtain ⟨ys, k1, k2⟩ := ownsRow_setCells vs 1 w _ (by omega) hs
  have ht : Turned gs w (w.setCells gs 1 vs) := (Turned.refl gs w).sets vs 1
  have hcl : ∀ i, i < n → w.cell? ⟨g, i, none⟩ = vs[i]? := fun i hi => World.ownsRow.cellAt h1 i (by omega)
  have key : ∀ i, i < n → ∃ a m c, vs[i]? = some (.slice a m c) ∧ OwnAt (w.setCells gs 1 vs) B a m c (f i) ∧ (m = 0 ∨ ∀ x, a = some x → x.block ≠ g ∧ x.block ≠ gs) := fun i hi => by
    obtain ⟨a, m, c, e, ho, hn1⟩ := h2 i hi
    have hn2 := hel i hi a m c (by rw [hcl i hi, e])
    refine ⟨a, m, c, e, ho.other ht hn2, ?_⟩
    rcases hn1 with h0 | hn1
    · exact .inl h0
    · rcases hn2 with h0 | hn2
      · exact .inl h0
      · exact .inr fun x hx => ⟨hn1 x hx, hn2 x hx⟩
  refine ⟨w.setCells gs 1 vs, ?_, ⟨vs, h1.kept ht (.inr (by simpa [Value.ownBlock] using hne)), fun i hi => ?_⟩, ⟨ys, k1, fun i hi => ?_⟩, ht⟩
  · have hrun := run_copy_cells (P := Try.prog) w 51 51 ty 23 gs 1 n n ⟨g, 0, none⟩ n cap vs Try.underlying51 hisz (by rw [hvl]; exact (Nat.min_self n).symm)
      (fun j v hj => by
        have hjl : j < n := by have := (List.getElem?_eq_some_iff.1 hj).1; omega
        rw [addr_add, Nat.zero_add, hcl j hjl, hj])
      (fun j hj => by
        rw [World.ownsRow.cellAt hs (1 + j) (by omega), List.getElem?_replicate, if_pos (by omega)]; rfl)
      (fun j hj => World.ownsRow.frozenAt hs (1 + j))
      (fun v hv => by
        obtain ⟨i, hi, e⟩ := List.getElem_of_mem hv
        obtain ⟨a, m, c, e2, _⟩ := h2 i (by omega)
        rw [List.getElem?_eq_getElem hi] at e2
        rw [← e, Option.some.inj e2]; rfl)
    rw [hvl] at hrun
    exact hrun
  · obtain ⟨a, m, c, e, ho, hn1⟩ := key i hi
    exact ⟨a, m, c, e, ho, hn1.imp id fun h x hx => (h x hx).1⟩
  · rw [k2 i]
    by_cases e : i = 0
    · subst e
      rw [if_neg (by omega), List.getElem?_replicate, if_pos (by omega)]
      exact ⟨none, 0, 0, rfl, OwnAt.nil _ _, .inl rfl⟩
    · simp only [if_neg e]
      rw [if_pos (by omega)]
      obtain ⟨a, m, c, e2, ho, hn1⟩ := key (i - 1) (by omega)
      exact ⟨a, m, c, e2, ho, hn1.imp id fun h x hx => by simp; exact h x hx⟩

/-- the first n lists of a row lie apart from one another -/
def ApartAt (w : World) (g n : Nat) : Prop := ∀ s t, s < n → t < n → s ≠ t → ∀ a m c a2 m2 c2, w.cell? ⟨g, s, none⟩ = some (.slice a m c) → w.cell? ⟨g, t, none⟩ = some (.slice a2 m2 c2) →
  m = 0 ∨ m2 = 0 ∨ ∀ x y, a = some x → a2 = some y → x.block ≠ y.block
theorem ApartAt.few {w : World} {g n : Nat} (hn : n ≤ 1) : ApartAt w g n := fun s t hs ht hne => by omega
theorem ApartAt.same {w w' : World} {g n : Nat} (h : ApartAt w g n) (hc : ∀ s, s < n → w'.cell? ⟨g, s, none⟩ = w.cell? ⟨g, s, none⟩) : ApartAt w' g n :=
  fun s t hs ht hne a m c a2 m2 c2 h1 h2 => h s t hs ht hne a m c a2 m2 c2 (by rw [← hc s hs]; exact h1) (by rw [← hc t ht]; exact h2)
theorem ApartAt.snoc {w : World} {g i : Nat} (h : ApartAt w g i) {v0 : Value} (hi : w.cell? ⟨g, i, none⟩ = some v0) {a : Option Addr} {m c : Nat}
    (hnew : ∀ s, s < i → ∀ a2 m2 c2, w.cell? ⟨g, s, none⟩ = some (.slice a2 m2 c2) → m = 0 ∨ m2 = 0 ∨ ∀ x y, a = some x → a2 = some y → x.block ≠ y.block) : ApartAt (w.setCell ⟨g, i, none⟩ (.slice a m c)) g (i + 1) := by
  have hold : ∀ s, s ≠ i → (w.setCell ⟨g, i, none⟩ (.slice a m c)).cell? ⟨g, s, none⟩ = w.cell? ⟨g, s, none⟩ := fun s hs =>
    World.cell?_setCell_other _ _ _ _ (fun e => hs (by have := congrArg Addr.off e; exact this.symm))
  have hat : (w.setCell ⟨g, i, none⟩ (.slice a m c)).cell? ⟨g, i, none⟩ = some (.slice a m c) := World.cell?_setCell_same _ _ _ hi
  intro s t hs ht hne a1 m1 c1 a2 m2 c2 h1 h2
  by_cases es : s = i
  · subst es
    rw [hat] at h1
    cases h1
    rw [hold t (fun e => hne e.symm)] at h2
    exact hnew t (by omega) a2 m2 c2 h2
  · rw [hold s es] at h1
    by_cases et : t = i
    · subst et
      rw [hat] at h2
      cases h2
      rcases hnew s (by omega) a1 m1 c1 h1 with k | k | k
      · exact .inr (.inl k)
      · exact .inl k
      · exact .inr (.inr fun x y hx hy e => k y x hy hx e.symm)
    · rw [hold t et] at h2
      exact h s t (by omega) (by omega) hne a1 m1 c1 a2 m2 c2 h1 h2

end Go.Proofs.Ytdjhgalaianifaa
