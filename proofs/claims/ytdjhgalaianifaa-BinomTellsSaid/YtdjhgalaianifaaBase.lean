/- What it means that a slice in memory reads as a list of digits, and how that stays while other memory is written. No program. -/
import Derived.Test.YtdjhgalaianifaaNum
import Derived.WalkKit
import Derived.Lib.Hide
import Derived.Laws.AppendOwnNone
import Derived.Laws.IdiomCopy
import Derived.Deep.QuietTactic
set_option linter.unusedVariables false
set_option linter.unusedSimpArgs false
namespace Go.Proofs.Ytdjhgalaianifaa
open Go.RowKit

/-- The slice of n digits at a reads in w as the list l. -/
structure NatAt (w : World) (a : Option Addr) (n c : Nat) (l : List Nat) : Prop where
  len : l.length = n
  le : n ≤ c
  cle : c ≤ 9223372036854775807
  dig : Dig l
  cell : n = 0 ∨ ∃ b o, a = some ⟨b, o, none⟩ ∧ ∀ i, i < n → w.cell? ⟨b, o + i, none⟩ = some (.int .u64 ((D l i : Nat) : Int))
  nilc : a = none → c = 0

/-- The same, in memory from block B on, which may be written. -/
structure OwnAt (w : World) (B : Nat) (a : Option Addr) (n c : Nat) (l : List Nat) : Prop extends NatAt w a n c l where
  own : n = 0 ∨ ∃ b o, a = some ⟨b, o, none⟩ ∧ B ≤ b ∧ ∀ i, i < n → w.frozen? ⟨b, o + i, none⟩ = false

theorem NatAt.nil (w : World) : NatAt w none 0 0 [] := ⟨rfl, Nat.le_refl _, by decide, dig_nil, .inl rfl, fun _ => rfl⟩
theorem OwnAt.nil (w : World) (B : Nat) : OwnAt w B none 0 0 [] := ⟨NatAt.nil w, .inl rfl⟩

theorem NatAt.parts {w : World} {a : Option Addr} {n c : Nat} {l : List Nat} (h : NatAt w a n c l) :
    n = 0 ∨ ∃ b o, a = some ⟨b, o, none⟩ ∧ b < w.heap.size ∧ ∀ i, i < n → w.cell? ⟨b, o + i, none⟩ = some (.int .u64 ((D l i : Nat) : Int)) := by
  rcases h.cell with h0 | ⟨b, o, ha, hc⟩
  · exact .inl h0
  · by_cases hn : n = 0
    · exact .inl hn
    · exact .inr ⟨b, o, ha, World.block_lt_of_cell? w ⟨b, o + 0, none⟩ (hc 0 (by omega)), hc⟩

theorem NatAt.below {w w' : World} {B : Nat} {a : Option Addr} {n c : Nat} {l : List Nat} (h : NatAt w a n c l) (hb : Below B w w') (ha : n = 0 ∨ ∀ x, a = some x → x.block < B) : NatAt w' a n c l := by
  refine ⟨h.len, h.le, h.cle, h.dig, ?_, h.nilc⟩
  rcases h.cell with h0 | ⟨b, o, he, hc⟩
  · exact .inl h0
  · rcases ha with ha | ha
    · exact .inl ha
    · refine .inr ⟨b, o, he, fun i hi => ?_⟩
      rw [hb.cell (p := ⟨b, o + i, none⟩) (show b < B from ha _ he)]
      exact hc i hi

theorem NatAt.later {w w' : World} {B : Nat} {a : Option Addr} {n c : Nat} {l : List Nat} (h : NatAt w a n c l) (hb : Below B w w') (hB : w.heap.size ≤ B) : NatAt w' a n c l := by
  rcases h.parts with h0 | ⟨b, o, he, hlt, _⟩
  · exact h.below hb (.inl h0)
  · exact h.below hb (.inr fun x hx => by rw [he] at hx; cases hx; show b < B; omega)

theorem OwnAt.later {w w' : World} {B B' : Nat} {a : Option Addr} {n c : Nat} {l : List Nat} (h : OwnAt w B a n c l) (hb : Below B' w w') (hB : w.heap.size ≤ B') : OwnAt w' B a n c l := by
  refine ⟨h.toNatAt.later hb hB, ?_⟩
  rcases h.own with h0 | ⟨b, o, he, hle, hf⟩
  · exact .inl h0
  · rcases h.toNatAt.parts with h0 | ⟨b', o', he', hlt, _⟩
    · exact .inl h0
    · rw [he] at he'
      cases he'
      refine .inr ⟨b, o, he, hle, fun i hi => ?_⟩
      rw [hb.frozen (p := ⟨b, o + i, none⟩) (show b < B' by omega)]
      exact hf i hi

theorem OwnAt.mono {w : World} {B B' : Nat} {a : Option Addr} {n c : Nat} {l : List Nat} (h : OwnAt w B a n c l) (hB : B' ≤ B) : OwnAt w B' a n c l := by
  refine ⟨h.toNatAt, ?_⟩
  rcases h.own with h0 | ⟨b, o, he, hle, hf⟩
  · exact .inl h0
  · exact .inr ⟨b, o, he, by omega, hf⟩

theorem NatAt.drew {w : World} {a : Option Addr} {n c : Nat} {l : List Nat} (h : NatAt w a n c l) : NatAt w.drew a n c l := h.later (B := w.heap.size) (Below.refl _ _).drew (Nat.le_refl _)
theorem OwnAt.drew {w : World} {B : Nat} {a : Option Addr} {n c : Nat} {l : List Nat} (h : OwnAt w B a n c l) : OwnAt w.drew B a n c l := h.later (B' := w.heap.size) (Below.refl _ _).drew (Nat.le_refl _)
theorem NatAt.alloc {w : World} {a : Option Addr} {n c : Nat} {l : List Nat} (h : NatAt w a n c l) (o : Obj) : NatAt (w.alloc o) a n c l := h.later (B := w.heap.size) ((Below.refl _ _).alloc (Nat.le_refl _) o) (Nat.le_refl _)
theorem OwnAt.alloc {w : World} {B : Nat} {a : Option Addr} {n c : Nat} {l : List Nat} (h : OwnAt w B a n c l) (o : Obj) : OwnAt (w.alloc o) B a n c l := h.later (B' := w.heap.size) ((Below.refl _ _).alloc (Nat.le_refl _) o) (Nat.le_refl _)

theorem Below.draws {B : Nat} {a w : World} (h : Below B a w) (n : Nat) : Below B a (w.drewN n) := h.trans ⟨rfl, rfl, rfl, Nat.le_refl _, fun _ _ => rfl⟩
theorem OwnAt.draws {w : World} {B : Nat} {a : Option Addr} {n c : Nat} {l : List Nat} (h : OwnAt w B a n c l) (k : Nat) : OwnAt (w.drewN k) B a n c l := h.later (B' := w.heap.size) (Below.draws (Below.refl _ _) k) (Nat.le_refl _)
theorem NatAt.draws {w : World} {a : Option Addr} {n c : Nat} {l : List Nat} (h : NatAt w a n c l) (k : Nat) : NatAt (w.drewN k) a n c l := h.later (B := w.heap.size) (Below.draws (Below.refl _ _) k) (Nat.le_refl _)

/-- cutting a list at its end -/
theorem D_take {l : List Nat} {m i : Nat} (h : i < m) : D (l.take m) i = D l i := by
  simp [D, List.getD_eq_getElem?_getD, h]
theorem NatAt.take {w : World} {a : Option Addr} {n c m : Nat} {l : List Nat} (h : NatAt w a n c l) (hm : m ≤ n) : NatAt w a m c (l.take m) := by
  refine ⟨by have := h.len; rw [List.length_take]; omega, by have := h.le; omega, h.cle, h.dig.take m, ?_, h.nilc⟩
  by_cases h0 : m = 0
  · exact .inl h0
  · rcases h.cell with hn | ⟨b, o, he, hc⟩
    · omega
    · exact .inr ⟨b, o, he, fun i hi => by rw [D_take hi]; exact hc i (by omega)⟩
theorem OwnAt.take {w : World} {B : Nat} {a : Option Addr} {n c m : Nat} {l : List Nat} (h : OwnAt w B a n c l) (hm : m ≤ n) : OwnAt w B a m c (l.take m) := by
  refine ⟨h.toNatAt.take hm, ?_⟩
  rcases h.own with h0 | ⟨b, o, he, hle, hf⟩
  · exact .inl (by omega)
  · exact .inr ⟨b, o, he, hle, fun i hi => hf i (by omega)⟩
theorem NatAt.recap {w : World} {a : Option Addr} {n c c' : Nat} {l : List Nat} (h : NatAt w a n c l) (h1 : n ≤ c') (h2 : c' ≤ c) : NatAt w a n c' l :=
  ⟨h.len, h1, Nat.le_trans h2 h.cle, h.dig, h.cell, fun e => by have := h.nilc e; omega⟩
theorem OwnAt.recap {w : World} {B : Nat} {a : Option Addr} {n c c' : Nat} {l : List Nat} (h : OwnAt w B a n c l) (h1 : n ≤ c') (h2 : c' ≤ c) : OwnAt w B a n c' l := ⟨h.toNatAt.recap h1 h2, h.own⟩

/-- A call that tells a new number, and leaves all that was as it was. -/
def RetNat (w : World) (N : Nat) (e : Ending) (w' : World) : Prop :=
  ∃ a n c, e = .returned (.slice a n c) ∧ OwnAt w' w.heap.size a n c (digs N) ∧ Below w.heap.size w w'
/-- the same, and that all went well -/
def RetNatOk (w : World) (N : Nat) (er : Int) (e : Ending) (w' : World) : Prop :=
  ∃ a n c, e = .returned (.tuple #[.slice a n c, .int .i64 er]) ∧ OwnAt w' w.heap.size a n c (digs N) ∧ Below w.heap.size w w'
/-- A call that leaves all that was as it was. -/
def RetVal (w : World) (v : Value) (e : Ending) (w' : World) : Prop := e = .returned v ∧ Below w.heap.size w w'

theorem below_later {w w1 w2 : World} (h1 : Below w.heap.size w w1) (h2 : Below w1.heap.size w1 w2) : Below w.heap.size w w2 := h1.trans (h2.mono h1.size)

/-- a store of a digit -/
theorem OwnAt.set {w : World} {B : Nat} {b o n c : Nat} {l : List Nat} (h : OwnAt w B (some ⟨b, o, none⟩) n c l) {k d : Nat} (hk : k < n) (hd : d < 18446744073709551616) :
    OwnAt (w.setCell ⟨b, o + k, none⟩ (.int .u64 ((d : Nat) : Int))) B (some ⟨b, o, none⟩) n c (l.set k d) := by
  rcases h.cell with h0 | ⟨b', o', he, hc⟩
  · omega
  cases he
  rcases h.own with h0 | ⟨b', o', he, hle, hf⟩
  · omega
  cases he
  refine ⟨⟨by simpa using h.len, h.le, h.cle, h.dig.set k d hd, .inr ⟨b, o, rfl, fun i hi => ?_⟩, h.nilc⟩, .inr ⟨b, o, rfl, hle, fun i hi => by rw [World.frozen?_setCell]; exact hf i hi⟩⟩
  by_cases hik : i = k
  · subst hik
    rw [D_set_same (by rw [h.len]; exact hk)]
    exact World.cell?_setCell_same _ _ _ (hc i hi)
  · rw [D_set_other (fun e => hik e.symm), World.cell?_setCell_other _ (a := ⟨b, o + k, none⟩) (b := ⟨b, o + i, none⟩) _ (fun e => hik (by have := congrArg Addr.off e; simp at this; omega))]
    exact hc i hi

/-- digits as values -/
def dv (l : List Nat) : List Value := l.map fun d => Value.int .u64 ((d : Nat) : Int)
theorem dv_length (l : List Nat) : (dv l).length = l.length := by simp [dv]
theorem dv_append (l m : List Nat) : dv (l ++ m) = dv l ++ dv m := by simp [dv]
theorem dv_at {l : List Nat} {i : Nat} (h : i < l.length) : (dv l)[i]? = some (.int .u64 ((D l i : Nat) : Int)) := by
  simp [dv, D, List.getD_eq_getElem?_getD, h]
theorem dv_one (l : List Nat) : ∀ u ∈ dv l, u.oneCell' = true := by
  intro u hu
  obtain ⟨d, _, rfl⟩ := List.mem_map.1 hu
  rfl

theorem OwnAt.ofRow {w : World} {B E : Nat} {v : Value} {n : Nat} {l : List Nat} (h : w.ownsRow B E 1 v n (dv l)) (hd : Dig l) : ∃ a c, v = .slice a n c ∧ OwnAt w B a n c l := by
  have hlen : l.length = n := by have := h.1; rw [dv_length] at this; omega
  rcases h.2 with ⟨rfl, hn⟩ | ⟨g, cap, cur, rfl, hb, hg, hnc, hcm, hcs, htake⟩
  · subst hn
    have : l = [] := List.eq_nil_of_length_eq_zero hlen
    subst this
    exact ⟨none, 0, rfl, OwnAt.nil w B⟩
  · have hm : cap ≤ 9223372036854775807 := hcm
    refine ⟨_, _, rfl, ⟨hlen, hnc, hm, hd, .inr ⟨g, 0, rfl, fun i hi => ?_⟩, fun e => by cases e⟩, .inr ⟨g, 0, rfl, hb, fun i hi => ?_⟩⟩
    · have := World.ownsRow.cellAt h i (by omega)
      rw [Nat.zero_add, this]
      exact dv_at (by omega)
    · rw [Nat.zero_add]
      exact World.ownsRow.frozenAt h i

theorem addr_add (b o i : Nat) : ((⟨b, o, none⟩ : Addr).add i) = ⟨b, o + i, none⟩ := by
  unfold Addr.add; split <;> simp_all

/-- 'append(s, x...)', s the call's own row, x digits -/
theorem wpList_append_nat {P : Program} {w : World} {ops : Array Oper} {rest : List Oper} {o : Oper} {a : Act} {Q : Exit → Act → World → Prop} (hgd : o.guard = none) (s x : Operand) (T : TypeId)
    (ho : o.op = .call { callee := .builtin .append, args := #[s, x], argTypes := #[T, T] })
    (base E : Nat) (i : TypeInfo) (ht : P.underlying T = some (.slice E)) (hi : P.info? E = some i) (hz : i.zero = some (.int .u64 0)) (hsize : i.size = 1) (hby : i.bytes = 8)
    (v : Value) (n : Nat) (xs : List Value) (hs : a.eval s = v) (hown : w.ownsRow base E 1 v n xs)
    (xa : Option Addr) (m xc : Nat) (l : List Nat) (hx : a.eval x = .slice xa m xc) (hn : NatAt w xa m xc l) (hsz : n + m ≤ 1099511627776) (hbase : base ≤ w.heap.size)
    (h : ∀ a' c' w', w'.ownsRow base E 1 (.slice a' (n + m) c') (n + m) (xs ++ dv l) → w.grownBy w' v.ownBlock → wpList P ops Q rest (a.put o.dst (.slice a' (n + m) c')) w') :
    wpList P ops Q (o :: rest) a w := by
  cases xa with
  | none =>
    have hc := hn.nilc rfl
    have hm : m = 0 := by have := hn.le; omega
    subst hc
    subst hm
    have hl : l = [] := List.eq_nil_of_length_eq_zero hn.len
    subst hl
    refine wpList_append_own_none hgd s x T ho base E i 1 ht hi v n xs hs hown hx ?_
    have hshape : ∃ a' c', v = .slice a' n c' := by
      rcases hown.2 with ⟨rfl, hn0⟩ | ⟨g, cap, cur, rfl, _⟩
      · subst hn0; exact ⟨_, _, rfl⟩
      · exact ⟨_, _, rfl⟩
    obtain ⟨a', c', rfl⟩ := hshape
    exact h a' c' w (by simpa [dv] using hown) ⟨rfl, rfl, rfl, Nat.le_refl _, fun _ _ _ => rfl⟩
  | some ad =>
    have hnews : ∀ j u, (dv l)[j]? = some u → w.cell? (ad.add j) = some u := by
      intro j u hu
      have hj : j < l.length := by
        have := (List.getElem?_eq_some_iff.1 hu).1
        rwa [dv_length] at this
      rw [dv_at hj] at hu
      cases hu
      rcases hn.cell with h0 | ⟨b, o, he, hc⟩
      · have := hn.len; omega
      · cases he
        rw [addr_add]
        exact hc j (by have := hn.len; omega)
    refine wpList_append_own (w := w) hgd s x T ho base E i (.int .u64 0) 1 8 ht hi hz hsize hby rfl (by decide) v n xs hs hown ad m xc (dv l) hx (by rw [dv_length, hn.len]; omega) hnews (dv_one l)
      (by simp only [maxLen]; omega) (by omega) hbase ?_
    intro v' w' h1 h2 _
    have hshape : ∃ a' c', v' = .slice a' (n + m) c' := by
      rcases h1.2 with ⟨rfl, hn0⟩ | ⟨g, cap, cur, rfl, _⟩
      · rw [hn0]; exact ⟨_, _, rfl⟩
      · exact ⟨_, _, rfl⟩
    obtain ⟨a', c', rfl⟩ := hshape
    exact h a' c' w' h1 h2

theorem below_setCells (B b : Nat) (hB : B ≤ b) : ∀ (vs : List Value) (o : Nat) (w : World), Below B w (w.setCells b o vs)
  | [], _, w => Below.refl B w
  | v :: r, o, w => ((Below.refl B w).setCell (p := ⟨b, o, none⟩) hB v).trans (below_setCells B b hB r (o + 1) _)
theorem size_setCells (b : Nat) : ∀ (vs : List Value) (o : Nat) (w : World), (w.setCells b o vs).heap.size = w.heap.size
  | [], _, w => rfl
  | v :: r, o, w => by rw [World.setCells, size_setCells b r, World.size_setCell]

/-- many digits stored at once -/
theorem OwnAt.setAll {w : World} {B : Nat} {b o n c : Nat} {l l' : List Nat} (h : OwnAt w B (some ⟨b, o, none⟩) n c l) (hl : l'.length = n) (hd : Dig l') :
    OwnAt (w.setCells b o (dv l')) B (some ⟨b, o, none⟩) n c l' := by
  by_cases hn : n = 0
  · subst hn
    have : l' = [] := List.eq_nil_of_length_eq_zero hl
    subst this
    have h2 : l = [] := List.eq_nil_of_length_eq_zero h.len
    subst h2
    exact h
  rcases h.cell with h0 | ⟨b', o', he, hc⟩
  · omega
  cases he
  rcases h.own with h0 | ⟨b', o', he, hle, hf⟩
  · omega
  cases he
  refine ⟨⟨hl, h.le, h.cle, hd, .inr ⟨b, o, rfl, fun i hi => ?_⟩, h.nilc⟩, .inr ⟨b, o, rfl, hle, fun i hi => by rw [World.frozen?_setCells]; exact hf i hi⟩⟩
  rw [World.cell?_setCells_in b (dv l') o w (fun j hj => by rw [dv_length, hl] at hj; rw [hc j hj]; rfl) i (by rw [dv_length]; omega)]
  have := dv_at (l := l') (i := i) (by omega)
  rw [List.getElem?_eq_getElem (by rw [dv_length]; omega)] at this
  exact this

theorem dv_replicate (n : Nat) : dv (List.replicate n 0) = List.replicate n (.int .u64 0) := by simp [dv]

/-- a written list of one digit, of two -/
theorem lit1 {E : Nat} (w : World) (v : Int) (x : Nat) (hv : v = x) (hx : x < 18446744073709551616) : OwnAt (w.alloc (.cells #[.int .u64 v] E)) w.heap.size (some ⟨w.heap.size, 0, none⟩) 1 1 [x] := by
  subst hv
  refine ⟨⟨rfl, Nat.le_refl _, by decide, dig_cons.2 ⟨hx, dig_nil⟩, .inr ⟨_, _, rfl, fun i hi => ?_⟩, fun e => by cases e⟩, .inr ⟨_, _, rfl, Nat.le_refl _, fun i hi => ?_⟩⟩
  · obtain rfl : i = 0 := by omega
    rw [World.cell?_alloc_at _ _ _ _ rfl]; rfl
  · exact World.frozen?_alloc_at _ _ _ _ rfl
theorem lit2 {E : Nat} (w : World) (v u : Int) (x y : Nat) (hv : v = x) (hx : x < 18446744073709551616) (hu : u = y) (hy : y < 18446744073709551616) : OwnAt (w.alloc (.cells #[.int .u64 v, .int .u64 u] E)) w.heap.size (some ⟨w.heap.size, 0, none⟩) 2 2 [x, y] := by
  subst hv
  subst hu
  refine ⟨⟨rfl, Nat.le_refl _, by decide, dig_cons.2 ⟨hx, dig_cons.2 ⟨hy, dig_nil⟩⟩, .inr ⟨_, _, rfl, fun i hi => ?_⟩, fun e => by cases e⟩, .inr ⟨_, _, rfl, Nat.le_refl _, fun i hi => ?_⟩⟩
  · rcases (by omega : i = 0 ∨ i = 1) with rfl | rfl <;> (rw [World.cell?_alloc_at _ _ _ _ rfl]; rfl)
  · exact World.frozen?_alloc_at _ _ _ _ rfl

/-- the same, the address known by its number -/
theorem lit1g {E : Nat} (w : World) (g : Nat) (v : Int) (x : Nat) (hg : g = w.heap.size) (hv : v = x) (hx : x < 18446744073709551616) : OwnAt (w.alloc (.cells #[.int .u64 v] E)) w.heap.size (some ⟨g, 0, none⟩) 1 1 [x] := by
  subst hg; exact lit1 w v x hv hx
theorem lit2g {E : Nat} (w : World) (g : Nat) (v u : Int) (x y : Nat) (hg : g = w.heap.size) (hv : v = x) (hx : x < 18446744073709551616) (hu : u = y) (hy : y < 18446744073709551616) : OwnAt (w.alloc (.cells #[.int .u64 v, .int .u64 u] E)) w.heap.size (some ⟨g, 0, none⟩) 2 2 [x, y] := by
  subst hg; exact lit2 w v u x y hv hx hu hy

theorem lit3g {E : Nat} (w : World) (g : Nat) (v u t : Int) (x y z : Nat) (hg : g = w.heap.size) (hv : v = x) (hx : x < 18446744073709551616) (hu : u = y) (hy : y < 18446744073709551616) (ht : t = z) (hz : z < 18446744073709551616) :
    OwnAt (w.alloc (.cells #[.int .u64 v, .int .u64 u, .int .u64 t] E)) w.heap.size (some ⟨g, 0, none⟩) 3 3 [x, y, z] := by
  subst hg
  subst hv
  subst hu
  subst ht
  refine ⟨⟨rfl, Nat.le_refl _, by decide, dig_cons.2 ⟨hx, dig_cons.2 ⟨hy, dig_cons.2 ⟨hz, dig_nil⟩⟩⟩, .inr ⟨_, _, rfl, fun i hi => ?_⟩, fun e => by cases e⟩, .inr ⟨_, _, rfl, Nat.le_refl _, fun i hi => ?_⟩⟩
  · rcases (by omega : i = 0 ∨ i = 1 ∨ i = 2) with rfl | rfl | rfl <;> (rw [World.cell?_alloc_at _ _ _ _ rfl]; rfl)
  · exact World.frozen?_alloc_at _ _ _ _ rfl

/-- the list without its highest noughts, in the same memory -/
theorem digs_take {l : List Nat} (h : Dig l) : l.take (digs (val l)).length = digs (val l) := by
  have hle := digs_length_val h
  have h1 := val_lt (dig_digs (val l))
  rw [val_digs] at h1
  have h2 := lo_hi l (digs (val l)).length
  have h3 : hi l (digs (val l)).length = 0 := by
    rcases Nat.eq_zero_or_pos (hi l (digs (val l)).length) with h0 | h0
    · exact h0
    · have := Nat.le_mul_of_pos_right (18446744073709551616 ^ (digs (val l)).length) h0
      omega
  by_cases hv : val l = 0
  · rw [hv]; rfl
  · refine take_digs h hle h3 (.inr ?_)
    have h4 := D_digs_last hv
    intro e
    have h5 := lo_step l ((digs (val l)).length - 1)
    have hpos : 0 < (digs (val l)).length := by
      rcases Nat.eq_zero_or_pos (digs (val l)).length with h6 | h6
      · exact absurd (digs_len0.1 h6) hv
      · exact h6
    rw [show (digs (val l)).length - 1 + 1 = (digs (val l)).length by omega, e, Nat.mul_zero, Nat.add_zero] at h5
    rw [h3, Nat.mul_zero, Nat.add_zero, h5] at h2
    have h7 := lo_lt h ((digs (val l)).length - 1)
    rw [← h2] at h7
    have h8 := digs_length_le.2 h7
    omega

theorem NatAt.digs {w : World} {a : Option Addr} {n c : Nat} {l : List Nat} (h : NatAt w a n c l) : NatAt w a (digs (val l)).length c (Go.Proofs.Ytdjhgalaianifaa.digs (val l)) := by
  have h1 := h.take (m := (Go.Proofs.Ytdjhgalaianifaa.digs (val l)).length) (by have := digs_length_val h.dig; rw [h.len] at this; exact this)
  rwa [digs_take h.dig] at h1
theorem OwnAt.digs {w : World} {B : Nat} {a : Option Addr} {n c : Nat} {l : List Nat} (h : OwnAt w B a n c l) : OwnAt w B a (digs (val l)).length c (Go.Proofs.Ytdjhgalaianifaa.digs (val l)) := by
  have h1 := h.take (m := (Go.Proofs.Ytdjhgalaianifaa.digs (val l)).length) (by have := digs_length_val h.dig; rw [h.len] at this; exact this)
  rwa [digs_take h.dig] at h1

theorem NatAt.short {w : World} {a : Option Addr} {n c : Nat} {l : List Nat} (h : NatAt w a n c l) : (Go.Proofs.Ytdjhgalaianifaa.digs (val l)).length ≤ n := by
  have := digs_length_val h.dig; rw [h.len] at this; exact this
theorem NatAt.short2 {w : World} {a : Option Addr} {n c N : Nat} (h : NatAt w a n c (Go.Proofs.Ytdjhgalaianifaa.digs N)) : (Go.Proofs.Ytdjhgalaianifaa.digs N).length = n := h.len

theorem ret_len {a : Option Addr} {n m c : Nat} (h : n = m) : Ending.returned (.slice a n c) = .returned (.slice a m c) := by rw [h]
theorem ret_int {k : IntKind} {a b : Int} (h : a = b) : Ending.returned (.int k a) = .returned (.int k b) := by rw [h]
theorem ret_bool {a b : Bool} (h : a = b) : Ending.returned (.bool a) = .returned (.bool b) := by rw [h]

theorem NatAt.past {w w' : World} {a : Option Addr} {n c : Nat} {l : List Nat} (h : NatAt w a n c l) (hb : Below w.heap.size w w') : NatAt w' a n c l := h.later hb (Nat.le_refl _)
theorem below_alloc {w w1 : World} (hb : Below w.heap.size w w1) (o : Obj) : Below w.heap.size w (w1.alloc o) := hb.alloc hb.size o

end Go.Proofs.Ytdjhgalaianifaa
