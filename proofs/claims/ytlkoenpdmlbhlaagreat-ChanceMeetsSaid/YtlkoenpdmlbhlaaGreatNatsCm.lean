import Derived.Maps.AppendAt
import Derived.Deep.RegionHeld3
import Derived.Laws.AppendOwn
import Derived.Test.YtlkoenpdmlbhlaaGreatS0Cm
import Derived.Test.YtlkoenpdmlbhlaaGreatA8Cm
import Derived.Test.YtlkoenpdmlbhlaaGreatB3Cm
set_option linter.unusedVariables false
set_option linter.unusedSimpArgs false
namespace Go.Proofs.YtlkoenpdmlbhlaaGreat
open Go.RowKit
theorem nat_info : (Tryz.prog.info? 23).map (fun i => (i.zero, i.size, i.bytes)) = some (some (.slice none 0 0), 1, 24) := by kernel_rfl
structure Nats (w : World) (B g cap n : Nat) (f : Nat → List Nat) : Prop where
 ex : ∃ vs, w.ownsRow B 23 1 (.slice (some ⟨g, 0, none⟩) n cap) n vs ∧ ∀ i, i < n → ∃ a m c, vs[i]? = some (.slice a m c) ∧ OwnAt w B a m c (f i) ∧ (m = 0 ∨ ∀ x, a = some x → x.block ≠ g)
theorem OwnAt.grown {w w' : World} {B : Nat} {o : Option Nat} {a : Option Addr} {n c : Nat} {l : List Nat} (h : OwnAt w B a n c l) (hg : w.grownBy w' o) (hne : n = 0 ∨ ∀ x, a = some x → o ≠ some x.block) : OwnAt w' B a n c l := by
 cases o with
 | none => exact h.past ⟨hg.os, hg.tape, hg.output, hg.size, fun k hk => hg.block k hk (by simp)⟩
 | some b => exact h.other hg (hne.imp id fun h x hx e => h x hx (by rw [e]))
theorem below_grown {w w' : World} (hb : Below w.heap.size w w') (o : Option Nat) : w.grownBy w' o := ⟨hb.os, hb.tape, hb.output, hb.size, fun k hk _ => hb.block k hk⟩
theorem Nats.lt {w : World} {B g cap n : Nat} {f : Nat → List Nat} (h : Nats w B g cap n f) : B ≤ g ∧ g < w.heap.size := by
 obtain ⟨vs, h1, _⟩ := h.ex; exact h1.lt g rfl
theorem Nats.bnd {w : World} {B g cap n : Nat} {f : Nat → List Nat} (h : Nats w B g cap n f) : n ≤ cap ∧ cap ≤ maxLen := by
 obtain ⟨vs, ⟨_, h1⟩, _⟩ := h.ex
 rcases h1 with ⟨h', _⟩ | ⟨g', cap', cur, h', _, _, h2, h3, _⟩
 · simp at h'
 · simp only [Value.slice.injEq, Option.some.injEq, Addr.mk.injEq, and_true, true_and] at h'
   obtain ⟨rfl, rfl⟩ := h'
   exact ⟨h2, h3⟩
theorem Nats.past {w w' : World} {B g cap n : Nat} {f : Nat → List Nat} (h : Nats w B g cap n f) (hb : Below w.heap.size w w') : Nats w' B g cap n f := by
 obtain ⟨vs, h1, h2⟩ := h.ex
 refine ⟨vs, h1.kept (below_grown hb none) (.inr (by simp [Value.ownBlock])), fun i hi => ?_⟩
 obtain ⟨a, m, c, e, ho, hne⟩ := h2 i hi
 exact ⟨a, m, c, e, ho.past hb, hne⟩
theorem Nats.drew {w : World} {B g cap n : Nat} {f : Nat → List Nat} (h : Nats w B g cap n f) : Nats w.drew B g cap n f := h.past (Below.refl _ _).drew
theorem Nats.mono {w : World} {B B' g cap n : Nat} {f : Nat → List Nat} (h : Nats w B g cap n f) (hB : B' ≤ B) : Nats w B' g cap n f := by
 obtain ⟨vs, ⟨h1, h3⟩, h2⟩ := h.ex
 refine ⟨vs, ⟨h1, ?_⟩, fun i hi => ?_⟩
 · rcases h3 with h3 | ⟨g', cap', cur, e, hb, r⟩
   · exact .inl h3
   · exact .inr ⟨g', cap', cur, e, Nat.le_trans hB hb, r⟩
 · obtain ⟨a, m, c, e, ho, hne⟩ := h2 i hi
   exact ⟨a, m, c, e, ho.mono hB, hne⟩
theorem Nats.congr {w : World} {B g cap n : Nat} {f f' : Nat → List Nat} (h : Nats w B g cap n f) (he : ∀ i, i < n → f i = f' i) : Nats w B g cap n f' := by
 obtain ⟨vs, h1, h2⟩ := h.ex
 exact ⟨vs, h1, fun i hi => he i hi ▸ h2 i hi⟩
theorem Nats.get {w : World} {B g cap n : Nat} {f : Nat → List Nat} (h : Nats w B g cap n f) {i : Nat} (hi : i < n) : ∃ a m c, w.cell? ⟨g, i, none⟩ = some (.slice a m c) ∧ OwnAt w B a m c (f i) ∧ (m = 0 ∨ ∀ x, a = some x → x.block ≠ g) := by
 obtain ⟨vs, h1, h2⟩ := h.ex
 obtain ⟨a, m, c, e, ho, hne⟩ := h2 i hi
 exact ⟨a, m, c, by rw [World.ownsRow.cellAt h1 i (by omega), e], ho, hne⟩
theorem OwnAt.ltBlock {w : World} {B : Nat} {a : Option Addr} {n c : Nat} {l : List Nat} (h : OwnAt w B a n c l) : n = 0 ∨ ∀ x, a = some x → x.block < w.heap.size := by
 rcases h.toNatAt.parts with h0 | ⟨b, o, rfl, hlt, _⟩
 · exact .inl h0
 · exact .inr fun x hx => by cases hx; exact hlt
theorem Nats.lit {w : World} {B : Nat} {a : Option Addr} {m c : Nat} {l : List Nat} (h : OwnAt w B a m c l) (hB : B ≤ w.heap.size) : Nats (w.alloc (.cells #[.slice a m c] 23)) B w.heap.size 1 1 (fun _ => l) := by
 refine ⟨[.slice a m c], World.ownsRow_lit w #[.slice a m c] 1 hB (by simp only [maxLen]; omega) rfl, fun i hi => ?_⟩
 obtain rfl : i = 0 := by omega
 exact ⟨a, m, c, rfl, h.past ((Below.refl _ _).alloc (Nat.le_refl _) _), h.ltBlock.imp id fun h x hx => Nat.ne_of_lt (h x hx)⟩
theorem Nats.push {w w' : World} {B g cap n : Nat} {f : Nat → List Nat} (h : Nats w B g cap n f) {vs : List Value} (hr : ∀ i, i < n → ∃ a m c, vs[i]? = some (.slice a m c) ∧ OwnAt w B a m c (f i) ∧ (m = 0 ∨ ∀ x, a = some x → x.block ≠ g)) (hvl : vs.length = n)
 {a : Option Addr} {m c : Nat} {l : List Nat} (ha : OwnAt w B a m c l) (hne : m = 0 ∨ ∀ x, a = some x → x.block ≠ g) {g' cap' : Nat}
 (h1 : w'.ownsRow B 23 1 (.slice (some ⟨g', 0, none⟩) (n + 1) cap') (n + 1) (vs ++ [.slice a m c])) (hg : w.grownBy w' (some g)) (hgg : g' = g ∨ g' = w.heap.size) : Nats w' B g' cap' (n + 1) (fun i => if i = n then l else f i) := by
 refine ⟨_, h1, fun i hi => ?_⟩
 have key : ∀ {a : Option Addr} {m c : Nat} {l : List Nat}, OwnAt w B a m c l → (m = 0 ∨ ∀ x, a = some x → x.block ≠ g) → OwnAt w' B a m c l ∧ (m = 0 ∨ ∀ x, a = some x → x.block ≠ g') := fun ho hn => by
  refine ⟨ho.grown hg (hn.imp id fun h x hx e => h x hx (Option.some.inj e).symm), ?_⟩
  rcases hgg with rfl | rfl
  · exact hn
  · exact ho.ltBlock.imp id fun h x hx => Nat.ne_of_lt (h x hx)
 by_cases e : i = n
 · subst e
   simp only [if_true]
   obtain ⟨k1, k2⟩ := key ha hne
   exact ⟨a, m, c, by rw [List.getElem?_append_right (by omega), hvl, Nat.sub_self]; rfl, k1, k2⟩
 · simp only [if_neg e]
   obtain ⟨a', m', c', e', ho, hn⟩ := hr i (by omega)
   obtain ⟨k1, k2⟩ := key ho hn
   exact ⟨a', m', c', by rw [List.getElem?_append_left (by omega)]; exact e', k1, k2⟩
theorem step_push {P : Program} {w : World} {ops : Array Oper} {o : Oper} {a : Act} {K : Act → World → Prop} {Q : Exit → Act → World → Prop} {E0 : Prop} (hgd : o.guard = none) (s x : Operand) (T E : TypeId)
 (ho : o.op = .call { callee := .builtin .append, args := #[s, x], argTypes := #[T, T] })
 (base : Nat) (i : TypeInfo) (ht : P.underlying T = some (.slice E)) (hi : P.info? E = some i) (hz : i.zero = some (.slice none 0 0)) (hsize : i.size = 1) (hby : i.bytes = 24)
 (g cap n : Nat) (xs : List Value) (hs : a.eval s = .slice (some ⟨g, 0, none⟩) n cap) (hown : w.ownsRow base E 1 (.slice (some ⟨g, 0, none⟩) n cap) n xs)
 (ad : Addr) (u : Value) (hx : a.eval x = .slice (some ad) 1 1) (hu : w.cell? (ad.add 0) = some u) (h1 : u.oneCell' = true) (hsz : n ≤ 1000000) (hbase : base ≤ w.heap.size)
 (h : ∀ g' c' w', w'.ownsRow base E 1 (.slice (some ⟨g', 0, none⟩) (n + 1) c') (n + 1) (xs ++ [u]) → w.grownBy w' (some g) → (g' = g ∨ g' = w.heap.size) → K (a.put o.dst (.slice (some ⟨g', 0, none⟩) (n + 1) c')) w') :
 if Region.wanted o (yielded ops a.tmps) = true then Oper.wp P o a w K Q else E0 := by
 rw [if_pos (by simp [Region.wanted, hgd])]
 obtain ⟨v', w', hr, h2, h3, h4, h5⟩ := run_append_own_at (P := P) w base T o.type E i (.slice none 0 0) 1 24 ht hi hz hsize hby rfl (by decide) _ n xs hown ad 1 1 [u] rfl
  (fun j y hj => by match j, hj with | 0, hj => simp at hj; subst hj; exact hu) (fun y hy => by simp at hy; subst hy; exact h1) (by simp only [maxLen]; omega) (by omega) hbase
 unfold Oper.wp execOp
 simp only [ho, resolve, invoke, builtin, Sem.run_bind, Sem.run_pure, Result.andThen_ok, List.map_toArray, List.map_cons, List.map_nil, hs, hx, hr]
 rcases h2.2 with ⟨_, hn⟩ | ⟨g', cap', cur, rfl, _⟩
 · omega
 · refine h g' cap' w' h2 h3 ?_
   simpa [Value.ownBlock] using h5
structure Pushed (w : World) (B g : Nat) (w' : World) (g' cap' n : Nat) (f : Nat → List Nat) : Prop where
 row : Nats w' B g' cap' n f
 grown : w.grownBy w' (some g)
 where_ : g' = g ∨ g' = w.heap.size
theorem step_push_nats {w : World} {ops : Array Oper} {o : Oper} {a : Act} {K : Act → World → Prop} {Q : Exit → Act → World → Prop} {E0 : Prop} (hgd : o.guard = none) (s x : Operand)
 (ho : o.op = .call { callee := .builtin .append, args := #[s, x], argTypes := #[124, 124] })
 (B g cap n : Nat) (f : Nat → List Nat) (hs : a.eval s = .slice (some ⟨g, 0, none⟩) n cap) (h : Nats w B g cap n f)
 (bx : Nat) (am : Option Addr) (m c : Nat) (l : List Nat) (hx : a.eval x = .slice (some ⟨bx, 0, none⟩) 1 1) (hu : w.cell? ⟨bx, 0, none⟩ = some (.slice am m c)) (hl : OwnAt w B am m c l) (hne : m = 0 ∨ ∀ x, am = some x → x.block ≠ g) (hsz : n ≤ 1000000)
 (hK : ∀ g' c' w', Pushed w B g w' g' c' (n + 1) (fun i => if i = n then l else f i) → K (a.put o.dst (.slice (some ⟨g', 0, none⟩) (n + 1) c')) w') :
 if Region.wanted o (yielded ops a.tmps) = true then Oper.wp Tryz.prog o a w K Q else E0 := by
 obtain ⟨i0, hi, hz, hsize, hby⟩ := info_parts nat_info
 obtain ⟨vs, h1, h2⟩ := h.ex
 refine step_push (P := Tryz.prog) hgd s x 124 23 ho B i0 Tryz.underlying124 hi hz hsize hby g cap n vs hs h1 ⟨bx, 0, none⟩ (.slice am m c) hx hu rfl hsz (Nat.le_trans h.lt.1 (Nat.le_of_lt h.lt.2)) ?_
 intro g' c' w' k1 k2 k3
 exact hK g' c' w' ⟨h.push h2 (by have := h1.1; omega) hl hne k1 k2 k3, k2, k3⟩
theorem Pushed.below {w w0 : World} {B g : Nat} {w' : World} {g' cap' n : Nat} {f : Nat → List Nat} (h : Pushed w B g w' g' cap' n f) (hb : Below B w0 w) (hB : B ≤ w.heap.size) (hg : B ≤ g) : Below B w0 w' :=
 hb.grown h.grown hB (fun k e => by cases e; exact hg)
theorem wpList_push_nats {w : World} {ops : Array Oper} {rest : List Oper} {o : Oper} {a : Act} {Q : Exit → Act → World → Prop} (hgd : o.guard = none) (s x : Operand)
 (ho : o.op = .call { callee := .builtin .append, args := #[s, x], argTypes := #[124, 124] })
 (B g cap n : Nat) (f : Nat → List Nat) (hs : a.eval s = .slice (some ⟨g, 0, none⟩) n cap) (h : Nats w B g cap n f)
 (bx : Nat) (am : Option Addr) (m c : Nat) (l : List Nat) (hx : a.eval x = .slice (some ⟨bx, 0, none⟩) 1 1) (hu : w.cell? ⟨bx, 0, none⟩ = some (.slice am m c)) (hl : OwnAt w B am m c l) (hne : m = 0 ∨ ∀ x, am = some x → x.block ≠ g) (hsz : n ≤ 1000000)
 (hK : ∀ g' c' w', Pushed w B g w' g' c' (n + 1) (fun i => if i = n then l else f i) → wpList Tryz.prog ops Q rest (a.put o.dst (.slice (some ⟨g', 0, none⟩) (n + 1) c')) w') :
 wpList Tryz.prog ops Q (o :: rest) a w := by
 refine wpList_plain hgd fun K hK2 => ?_
 have h9 := step_push_nats (ops := ops) (K := K) (Q := Q) (E0 := True) hgd s x ho B g cap n f hs h bx am m c l hx hu hl hne hsz (fun g' c' w' hp => hK2 _ _ (hK g' c' w' hp))
 rw [if_pos (by simp [Region.wanted, hgd])] at h9
 exact h9
theorem lit_cell (w : World) (x : Value) (E : Nat) : (w.alloc (.cells #[x] E)).cell? ⟨w.heap.size, 0, none⟩ = some x := by rw [World.cell?_alloc_at _ _ _ _ rfl]; rfl
theorem OwnAt.apart {w : World} {B g : Nat} {a : Option Addr} {n c : Nat} {l : List Nat} (h : OwnAt w B a n c l) (hg : g < B) : n = 0 ∨ ∀ x, a = some x → x.block ≠ g := by
 rcases h.own with h0 | ⟨b, o, rfl, hb, _⟩
 · exact .inl h0
 · exact .inr fun x hx => by cases hx; show b ≠ g; omega
end Go.Proofs.YtlkoenpdmlbhlaaGreat
set_option linter.unusedVariables false
set_option linter.unusedSimpArgs false
namespace Go.Proofs.YtlkoenpdmlbhlaaGreat
open Go.RowKit
theorem rat_info : (Tryz.prog.info? 27).map (fun i => (i.zero, i.size, i.bytes)) = some (some (.agg #[.bool false, .slice none 0 0, .slice none 0 0]), 3, 56) := by kernel_rfl
def RatsOwn (w : World) (B : Nat) (v : Value) (n : Nat) (f : Nat → Bool × List Nat × List Nat) : Prop :=
 ∃ xs, w.ownsRow B 27 3 v n xs ∧ ∀ i, i < n → ∃ a1 n1 c1 a2 n2 c2, xs[i * 3]? = some (.bool (f i).1) ∧ xs[i * 3 + 1]? = some (.slice a1 n1 c1) ∧ xs[i * 3 + 2]? = some (.slice a2 n2 c2) ∧
  OwnAt w B a1 n1 c1 (f i).2.1 ∧ OwnAt w B a2 n2 c2 (f i).2.2 ∧ (n1 = 0 ∨ ∀ x, a1 = some x → v.ownBlock ≠ some x.block) ∧ (n2 = 0 ∨ ∀ x, a2 = some x → v.ownBlock ≠ some x.block)
theorem RatsOwn.nil (w : World) (B : Nat) (f : Nat → Bool × List Nat × List Nat) : RatsOwn w B (.slice none 0 0) 0 f :=
 ⟨[], ⟨rfl, .inl ⟨rfl, rfl⟩⟩, fun i hi => absurd hi (Nat.not_lt_zero i)⟩
theorem RatsOwn.past {w w' : World} {B n : Nat} {v : Value} {f : Nat → Bool × List Nat × List Nat} (h : RatsOwn w B v n f) (hb : Below w.heap.size w w') : RatsOwn w' B v n f := by
 obtain ⟨xs, h1, h2⟩ := h
 refine ⟨xs, h1.kept (below_grown hb none) (by cases v.ownBlock <;> simp), fun i hi => ?_⟩
 obtain ⟨a1, n1, c1, a2, n2, c2, e1, e2, e3, o1, o2, r⟩ := h2 i hi
 exact ⟨a1, n1, c1, a2, n2, c2, e1, e2, e3, o1.past hb, o2.past hb, r⟩
theorem RatsOwn.lt {w : World} {B n : Nat} {v : Value} {f : Nat → Bool × List Nat × List Nat} (h : RatsOwn w B v n f) : ∀ k, v.ownBlock = some k → B ≤ k ∧ k < w.heap.size := by
 obtain ⟨xs, h1, _⟩ := h; exact h1.lt
theorem RatsOwn.at_ {w : World} {B n : Nat} {v : Value} {f : Nat → Bool × List Nat × List Nat} (h : RatsOwn w B v n f) : ∃ a c, v = .slice a n c ∧ RatsAt w a n c f := by
 obtain ⟨xs, h1, h2⟩ := h
 rcases h1.2 with ⟨rfl, rfl⟩ | ⟨g, cap, cur, rfl, hb, hg, h5, h6, _⟩
 · exact ⟨none, 0, rfl, Nat.le_refl _, Nat.zero_le _, .inl rfl⟩
 · refine ⟨_, cap, rfl, h5, h6, .inr ⟨g, 0, rfl, (Array.getElem?_eq_some_iff.1 hg).1, fun i hi => ?_⟩⟩
   obtain ⟨a1, n1, c1, a2, n2, c2, e1, e2, e3, o1, o2, _⟩ := h2 i hi
   refine ⟨a1, n1, c1, a2, n2, c2, ?_, ?_, ?_, o1.toNatAt, o2.toNatAt⟩
   · rw [Nat.zero_add, World.ownsRow.cellAt h1 (i * 3) (by omega), e1]
   · rw [Nat.zero_add, World.ownsRow.cellAt h1 (i * 3 + 1) (by omega), e2]
   · rw [Nat.zero_add, World.ownsRow.cellAt h1 (i * 3 + 2) (by omega), e3]
theorem wpList_push_rat {w : World} {ops : Array Oper} {rest : List Oper} {o : Oper} {a : Act} {Q : Exit → Act → World → Prop} (hgd : o.guard = none) (s x : Operand)
 (ho : o.op = .call { callee := .builtin .append, args := #[s, x], argTypes := #[48, 48] })
 (B n : Nat) (v : Value) (f : Nat → Bool × List Nat × List Nat) (hs : a.eval s = v) (h : RatsOwn w B v n f)
 (bx : Nat) (a1 : Option Addr) (n1 c1 : Nat) (a2 : Option Addr) (n2 c2 : Nat) (hx : a.eval x = .slice (some ⟨bx, 0, none⟩) 1 1) (q0 : w.cell? ⟨bx, 0, none⟩ = some (.bool (f n).1)) (q1 : w.cell? ⟨bx, 1, none⟩ = some (.slice a1 n1 c1)) (q2 : w.cell? ⟨bx, 2, none⟩ = some (.slice a2 n2 c2))
 (B2 : Nat) (o1 : OwnAt w B2 a1 n1 c1 (f n).2.1) (o2 : OwnAt w B2 a2 n2 c2 (f n).2.2) (hB2 : B ≤ B2) (hv : ∀ k, v.ownBlock = some k → k < B2) (hsz : n ≤ 1000000) (hbase : B ≤ w.heap.size)
 (hK : ∀ v' w', RatsOwn w' B v' (n + 1) f → Below B w w' → wpList Tryz.prog ops Q rest (a.put o.dst v') w') :
 wpList Tryz.prog ops Q (o :: rest) a w := by
 obtain ⟨i0, hi, hz, hsize, hby⟩ := info_parts rat_info
 obtain ⟨xs, h1, h2⟩ := h
 refine wpList_plain hgd fun K hK2 => ?_
 obtain ⟨v', w', hr, k1, k2, k3, k4⟩ := run_append_own_at (P := Tryz.prog) w B 48 o.type 27 i0 _ 3 56 Tryz.underlying48 hi hz hsize hby rfl (by decide) v n xs h1 ⟨bx, 0, none⟩ 1 1 [.bool (f n).1, .slice a1 n1 c1, .slice a2 n2 c2] rfl
  (fun j y hj => by match j, hj with | 0, hj => (simp at hj; subst hj; exact q0) | 1, hj => (simp at hj; subst hj; exact q1) | 2, hj => (simp at hj; subst hj; exact q2)) (fun y hy => by simp at hy; rcases hy with rfl | rfl | rfl <;> rfl) (by simp only [maxLen]; omega) (by omega) hbase
 have hdone := hK2 _ _ (hK v' w' ⟨_, k1, fun i hi => ?_⟩ ((Below.refl B w).grown k2 hbase (fun k e => (h1.lt k e).1)))
 · unfold Oper.wp execOp
   simp only [ho, resolve, invoke, builtin, Sem.run_bind, Sem.run_pure, Result.andThen_ok, List.map_toArray, List.map_cons, List.map_nil, hs, hx, hr]
   exact hdone
 · have hxl := h1.1
   have key : ∀ {a : Option Addr} {m c : Nat} {l : List Nat} {B3 : Nat}, OwnAt w B3 a m c l → B ≤ B3 → (m = 0 ∨ ∀ x, a = some x → v.ownBlock ≠ some x.block) → OwnAt w' B a m c l ∧ (m = 0 ∨ ∀ x, a = some x → v'.ownBlock ≠ some x.block) := fun ho hb3 hn => by
    refine ⟨(ho.grown k2 hn).mono hb3, ?_⟩
    rcases k4 with e | e
    · rw [e]; exact hn
    · rw [e]
      exact ho.ltBlock.imp id fun h x hx e => by have := h x hx; have := Option.some.inj e; omega
   have far : ∀ {a : Option Addr} {m c : Nat} {l : List Nat}, OwnAt w B2 a m c l → (m = 0 ∨ ∀ x, a = some x → v.ownBlock ≠ some x.block) := fun ho => by
    rcases ho.own with h0 | ⟨b, o', rfl, hb, _⟩
    · exact .inl h0
    · exact .inr fun x hx e => by cases hx; have := hv _ e; simp at this; omega
   by_cases e : i = n
   · subst e
     obtain ⟨r1, s1⟩ := key o1 hB2 (far o1)
     obtain ⟨r2, s2⟩ := key o2 hB2 (far o2)
     exact ⟨a1, n1, c1, a2, n2, c2, by rw [List.getElem?_append_right (by omega), hxl, Nat.sub_self]; rfl, by rw [List.getElem?_append_right (by omega), hxl, Nat.add_sub_cancel_left]; rfl, by rw [List.getElem?_append_right (by omega), hxl, Nat.add_sub_cancel_left]; rfl, r1, r2, s1, s2⟩
   · obtain ⟨a3, n3, c3, a4, n4, c4, e1, e2, e3, p1, p2, u1, u2⟩ := h2 i (by omega)
     obtain ⟨r1, s1⟩ := key p1 (Nat.le_refl _) u1
     obtain ⟨r2, s2⟩ := key p2 (Nat.le_refl _) u2
     exact ⟨a3, n3, c3, a4, n4, c4, by rw [List.getElem?_append_left (by omega)]; exact e1, by rw [List.getElem?_append_left (by omega)]; exact e2, by rw [List.getElem?_append_left (by omega)]; exact e3, r1, r2, s1, s2⟩
end Go.Proofs.YtlkoenpdmlbhlaaGreat
