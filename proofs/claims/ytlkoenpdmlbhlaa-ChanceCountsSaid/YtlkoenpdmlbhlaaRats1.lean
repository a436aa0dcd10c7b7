/- rows of fractions in memory of their own: append. -/
import Derived.Test.YtlkoenpdmlbhlaaB3
import Derived.Test.YtlkoenpdmlbhlaaNats
import Derived.Laws.AppendOwn
set_option linter.unusedVariables false
set_option linter.unusedSimpArgs false
namespace Go.Proofs.Ytlkoenpdmlbhlaa
open Go.RowKit

theorem rat_info : (Try.prog.info? 36).map (fun i => (i.zero, i.size, i.bytes)) = some (some (.agg #[.bool false, .slice none 0 0, .slice none 0 0]), 3, 56) := by kernel_rfl

/-- a row of fractions' parts, all in memory from block B on, the digits apart from the row -/
def RatsOwn (w : World) (B : Nat) (v : Value) (n : Nat) (f : Nat → Bool × List Nat × List Nat) : Prop :=
  ∃ xs, w.ownsRow B 36 3 v n xs ∧ ∀ i, i < n → ∃ a1 n1 c1 a2 n2 c2, xs[i * 3]? = some (.bool (f i).1) ∧ xs[i * 3 + 1]? = some (.slice a1 n1 c1) ∧ xs[i * 3 + 2]? = some (.slice a2 n2 c2) ∧
    OwnAt w B a1 n1 c1 (f i).2.1 ∧ OwnAt w B a2 n2 c2 (f i).2.2 ∧ (n1 = 0 ∨ ∀ x, a1 = some x → v.ownBlock ≠ some x.block) ∧ (n2 = 0 ∨ ∀ x, a2 = some x → v.ownBlock ≠ some x.block)
theorem RatsOwn.nil (w : World) (B : Nat) (f : Nat → Bool × List Nat × List Nat) : RatsOwn w B (.slice none 0 0) 0 f :=
  ⟨[], ⟨rfl, .inl ⟨rfl, rfl⟩⟩, fun i hi => absurd hi (Nat.not_lt_zero i)⟩
theorem RatsOwn.past {w w' : World} {B n : Nat} {v : Value} {f : Nat → Bool × List Nat × List Nat} (h : RatsOwn w B v n f) (hb : Below w.heap.size w w') : RatsOwn w' B v n f := by
  obtain ⟨xs, h1, h2⟩ := h
  refine ⟨xs, h1.kept (below_grown hb none) (by cases v.ownBlock <;> simp), fun i hi => ?_⟩
  obtain ⟨a1, n1, c1, a2, n2, c2, e1, e2, e3, o1, o2, r⟩ := h2 i hi
  exact ⟨a1, n1, c1, a2, n2, c2, e1, e2, e3, o1.past hb, o2.past hb, r⟩
theorem RatsOwn.mono {w : World} {B B' n : Nat} {v : Value} {f : Nat → Bool × List Nat × List Nat} (h : RatsOwn w B v n f) (hB : B' ≤ B) : RatsOwn w B' v n f := by
  obtain ⟨xs, ⟨h1, h3⟩, h2⟩ := h
  refine ⟨xs, ⟨h1, ?_⟩, fun i hi => ?_⟩
  · rcases h3 with h3 | ⟨g', cap', cur, e, hb, r⟩
    · exact .inl h3
    · exact .inr ⟨g', cap', cur, e, Nat.le_trans hB hb, r⟩
  · obtain ⟨a1, n1, c1, a2, n2, c2, e1, e2, e3, o1, o2, r⟩ := h2 i hi
    exact ⟨a1, n1, c1, a2, n2, c2, e1, e2, e3, o1.mono hB, o2.mono hB, r⟩
theorem RatsOwn.lt {w : World} {B n : Nat} {v : Value} {f : Nat → Bool × List Nat × List Nat} (h : RatsOwn w B v n f) : ∀ k, v.ownBlock = some k → B ≤ k ∧ k < w.heap.size := by
  obtain ⟨xs, h1, _⟩ := h; exact h1.lt
/-- what the row's value is, and that it reads as these parts -/
theorem RatsOwn.at_ {w : World} {B n : Nat} {v : Value} {f : Nat → Bool × List Nat × List Nat} (h : RatsOwn w B v n f) : ∃ a c, v = .slice a n c ∧ RatsAt w a n c f := by
  obtain ⟨xs, h1, h2⟩ := h
  rcases h1.2 with ⟨rfl, rfl⟩ | ⟨g, cap, cur, rfl, hb, hg, h5, h6, _⟩
  · exact ⟨none, 0, rfl, Nat.le_refl _, Nat.zero_le _, .inl rfl⟩
  · refine ⟨_, cap, rfl, h5, h6, .inr ⟨g, 0, rfl, (Array.getElem?_eq_some_iff.1 hg).1, fun i hi => ?_⟩⟩
    obtain ⟨a1, n1, c1, a2, n2, c2, e1, e2, e3, o1, o2, _⟩ := h2 i hi
    refine ⟨a1, n1, c1, a2, n2, c2, ?_, ?_, ?_, o1.toNatAt, o2.toNatAt⟩
    · rw [Nat.zero_add, World.ownsRow.cellAt h1 (i * 3) (by omega), e1]
    · rw [Nat.zero_add, World.ownsRow.cellAt h1 (i * 3 + 1) (by omega), e2]
    · rw [Nat.zero_add, World.ownsRow.cellAt h1 (i * 3 + 2) (by omega), e3]
/-- 'append(s, x)' of one fraction -/
theorem wpList_push_rat {w : World} {ops : Array Oper} {rest : List Oper} {o : Oper} {a : Act} {Q : Exit → Act → World → Prop} (hgd : o.guard = none) (s x : Operand)
    (ho : o.op = .call { callee := .builtin .append, args := #[s, x], argTypes := #[49, 49] })
    (B n : Nat) (v : Value) (f : Nat → Bool × List Nat × List Nat) (hs : a.eval s = v) (h : RatsOwn w B v n f)
    (bx : Nat) (a1 : Option Addr) (n1 c1 : Nat) (a2 : Option Addr) (n2 c2 : Nat) (hx : a.eval x = .slice (some ⟨bx, 0, none⟩) 1 1) (q0 : w.cell? ⟨bx, 0, none⟩ = some (.bool (f n).1)) (q1 : w.cell? ⟨bx, 1, none⟩ = some (.slice a1 n1 c1)) (q2 : w.cell? ⟨bx, 2, none⟩ = some (.slice a2 n2 c2))
    (B2 : Nat) (o1 : OwnAt w B2 a1 n1 c1 (f n).2.1) (o2 : OwnAt w B2 a2 n2 c2 (f n).2.2) (hB2 : B ≤ B2) (hv : ∀ k, v.ownBlock = some k → k < B2) (hsz : n ≤ 1000000) (hbase : B ≤ w.heap.size)
    (hK : ∀ v' w', RatsOwn w' B v' (n + 1) f → Below B w w' → wpList Try.prog ops Q rest (a.put o.dst v') w') :
    wpList Try.prog ops Q (o :: rest) a w := by
  obtain ⟨i0, hi, hz, hsize, hby⟩ := info_parts rat_info
  obtain ⟨xs, h1, h2⟩ := h
  refine wpList_plain hgd fun K hK2 => ?_
  obtain ⟨v', w', hr, k1, k2, k3, k4⟩ := run_append_own_at (P := Try.prog) w B 49 o.type 36 i0 _ 3 56 Try.underlying49 hi hz hsize hby rfl (by decide) v n xs h1 ⟨bx, 0, none⟩ 1 1 [.bool (f n).1, .slice a1 n1 c1, .slice a2 n2 c2] rfl
    (fun j y hj => by match j, hj with | 0, hj => (simp at hj; subst hj; exact q0) | 1, hj => (simp at hj; subst hj; exact q1) | 2, hj => (simp at hj; subst hj; exact q2)) (fun y hy => by simp at hy; rcases hy with rfl | rfl | rfl <;> rfl) (by simp only [maxLen]; omega) (by omega) hbase
  have hdone := hK2 _ _ (hK v' w' ⟨_, k1, fun i hi => ?_⟩ ((Below.refl B w).grown k2 hbase (fun k e => (h1.lt k e).1)))
  · unfold Oper.wp execOp
    simp only [ho, resolve, invoke, builtin, Sem.run_bind, Sem.run_pure, Result.andThen_ok, List.map_toArray, List.map_cons, List.map_nil, hs, hx, hr]
    exact hdone
  · have hxl := h1.1
    have key : ∀ {a : Option Addr} {m c : Nat} {l : List Nat} {B3 : Nat}, OwnAt w B3 a m c l → B ≤ B3 → (m = 0 ∨ ∀ x, a = some x → v.ownBlock ≠ some x.block) → OwnAt w' B a m c l ∧ (m = 0 ∨ ∀ x, a = some x → v'.ownBlock ≠ some x.block) := fun ho hb3 hn => by
      refine ⟨(ho.grown k2 hn).mono hb3, ?_⟩
      rcases k4 with e | e
      · rw [e]; exact hn
      · rw [e]
        exact ho.ltBlock.imp id fun h x hx e => by have := h x hx; have := Option.some.inj e; omega
    have far : ∀ {a : Option Addr} {m c : Nat} {l : List Nat}, OwnAt w B2 a m c l → (m = 0 ∨ ∀ x, a = some x → v.ownBlock ≠ some x.block) := fun ho => by
      rcases ho.own with h0 | ⟨b, o', rfl, hb, _⟩
      · exact .inl h0
      · exact .inr fun x hx e => by cases hx; have := hv _ e; simp at this; omega
    by_cases e : i = n
    · subst e
      obtain ⟨r1, s1⟩ := key o1 hB2 (far o1)
      obtain ⟨r2, s2⟩ := key o2 hB2 (far o2)
      exact ⟨a1, n1, c1, a2, n2, c2, by rw [List.getElem?_append_right (by omega), hxl, Nat.sub_self]; rfl, by rw [List.getElem?_append_right (by omega), hxl, Nat.add_sub_cancel_left]; rfl, by rw [List.getElem?_append_right (by omega), hxl, Nat.add_sub_cancel_left]; rfl, r1, r2, s1, s2⟩
    · obtain ⟨a3, n3, c3, a4, n4, c4, e1, e2, e3, p1, p2, u1, u2⟩ := h2 i (by omega)
      obtain ⟨r1, s1⟩ := key p1 (Nat.le_refl _) u1
      obtain ⟨r2, s2⟩ := key p2 (Nat.le_refl _) u2
      exact ⟨a3, n3, c3, a4, n4, c4, by rw [List.getElem?_append_left (by omega)]; exact e1, by rw [List.getElem?_append_left (by omega)]; exact e2, by rw [List.getElem?_append_left (by omega)]; exact e3, r1, r2, s1, s2⟩

end Go.Proofs.Ytlkoenpdmlbhlaa
