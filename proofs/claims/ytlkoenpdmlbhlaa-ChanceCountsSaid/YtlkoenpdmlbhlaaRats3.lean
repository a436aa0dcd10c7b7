/- two rows of fractions that grow side by side. -/
import Derived.Test.YtlkoenpdmlbhlaaRats2
set_option linter.unusedVariables false
set_option linter.unusedSimpArgs false
namespace Go.Proofs.Ytlkoenpdmlbhlaa
open Go.RowKit

/-- digits that lie in another block -/
def OffO (o : Option Nat) (a : Option Addr) (n : Nat) : Prop := n = 0 ∨ ∀ x, a = some x → o ≠ some x.block
theorem OffO.turn {o o' : Option Nat} {w : World} {B n c : Nat} {a : Option Addr} {l : List Nat} (h : OffO o a n) (ho : OwnAt w B a n c l) (e : o' = o ∨ o' = some w.heap.size) : OffO o' a n := by
  rcases e with rfl | rfl
  · exact h
  · exact ho.ltBlock.imp id fun h x hx e => by have := h x hx; have := Option.some.inj e; omega
theorem OffO.ge {o : Option Nat} {w : World} {B n c : Nat} {a : Option Addr} {l : List Nat} (ho : OwnAt w B a n c l) (h : ∀ k, o = some k → k < B) : OffO o a n := by
  rcases ho.own with h0 | ⟨b, k, rfl, hb, _⟩
  · exact .inl h0
  · refine .inr fun x hx e => ?_
    cases hx
    have := h _ e
    simp only at this
    omega
/-- a list of fractions in a row of its own, the digits apart from the row and from block o, the row apart from o -/
def RatsA (w : World) (B : Nat) (v : Value) (L : List Rat) (o : Option Nat) : Prop :=
  ∃ xs, w.ownsRow B 36 3 v L.length xs ∧ (∀ k, v.ownBlock = some k → o ≠ some k) ∧ ∀ i, i < L.length → ∃ a1 n1 c1 a2 n2 c2, xs[i * 3]? = some (.bool (neg (L.getD i 0).num)) ∧ xs[i * 3 + 1]? = some (.slice a1 n1 c1) ∧ xs[i * 3 + 2]? = some (.slice a2 n2 c2) ∧
    OwnAt w B a1 n1 c1 (digs (L.getD i 0).num.natAbs) ∧ OwnAt w B a2 n2 c2 (digs (L.getD i 0).den) ∧ OffO v.ownBlock a1 n1 ∧ OffO v.ownBlock a2 n2 ∧ OffO o a1 n1 ∧ OffO o a2 n2
theorem RatsA.nil (w : World) (B : Nat) (o : Option Nat) : RatsA w B (.slice none 0 0) [] o := ⟨[], ⟨rfl, .inl ⟨rfl, rfl⟩⟩, fun k e => by simp [Value.ownBlock] at e, fun i hi => absurd hi (Nat.not_lt_zero i)⟩
theorem RatsA.past {w w' : World} {B : Nat} {v : Value} {L : List Rat} {o : Option Nat} (h : RatsA w B v L o) (hb : Below w.heap.size w w') : RatsA w' B v L o := by
  obtain ⟨xs, h1, h3, h2⟩ := h
  refine ⟨xs, h1.kept (below_grown hb none) (by cases v.ownBlock <;> simp), h3, fun i hi => ?_⟩
  obtain ⟨a1, n1, c1, a2, n2, c2, e1, e2, e3, o1, o2, r⟩ := h2 i hi
  exact ⟨a1, n1, c1, a2, n2, c2, e1, e2, e3, o1.past hb, o2.past hb, r⟩
theorem RatsA.lt {w : World} {B : Nat} {v : Value} {L : List Rat} {o : Option Nat} (h : RatsA w B v L o) : ∀ k, v.ownBlock = some k → B ≤ k ∧ k < w.heap.size := by
  obtain ⟨xs, h1, _⟩ := h; exact h1.lt
/-- the other row has grown -/
theorem RatsA.other {w w' : World} {B : Nat} {v : Value} {L : List Rat} {o o' : Option Nat} (h : RatsA w B v L o) (hg : w.grownBy w' o) (e : o' = o ∨ o' = some w.heap.size) : RatsA w' B v L o' := by
  have hlt := h.lt
  obtain ⟨xs, h1, h3, h2⟩ := h
  refine ⟨xs, h1.kept hg ?_, fun k ek => ?_, fun i hi => ?_⟩
  · cases ho : v.ownBlock with
    | none => exact .inl rfl
    | some k => exact .inr (fun e => h3 k ho e.symm)
  · rcases e with rfl | rfl
    · exact h3 k ek
    · intro e2
      have := (hlt k ek).2
      have := Option.some.inj e2
      omega
  · obtain ⟨a1, n1, c1, a2, n2, c2, e1, e2, e3, o1, o2, f1, f2, f3, f4⟩ := h2 i hi
    exact ⟨a1, n1, c1, a2, n2, c2, e1, e2, e3, o1.grown hg f3, o2.grown hg f4, f1, f2, f3.turn o1 e, f4.turn o2 e⟩
theorem RatsA.at_ {w : World} {B : Nat} {v : Value} {L : List Rat} {o : Option Nat} (h : RatsA w B v L o) : ∃ a c, v = .slice a L.length c ∧ RatsAt w a L.length c (fun i => partsOf (L.getD i 0)) := by
  have h' : RatsOwn w B v L.length (fun i => partsOf (L.getD i 0)) := by
    obtain ⟨xs, h1, h3, h2⟩ := h
    refine ⟨xs, h1, fun i hi => ?_⟩
    obtain ⟨a1, n1, c1, a2, n2, c2, e1, e2, e3, o1, o2, f1, f2, _⟩ := h2 i hi
    exact ⟨a1, n1, c1, a2, n2, c2, e1, e2, e3, o1, o2, f1, f2⟩
  exact h'.at_
/-- 'append(s, x)' of one fraction -/
theorem wpList_push_ratA {w : World} {ops : Array Oper} {rest : List Oper} {op : Oper} {a : Act} {Q : Exit → Act → World → Prop} (hgd : op.guard = none) (s x : Operand)
    (ho : op.op = .call { callee := .builtin .append, args := #[s, x], argTypes := #[49, 49] })
    (B : Nat) (v : Value) (L : List Rat) (o : Option Nat) (q : Rat) (hs : a.eval s = v) (h : RatsA w B v L o)
    (bx : Nat) (a1 : Option Addr) (n1 c1 : Nat) (a2 : Option Addr) (n2 c2 : Nat) (hx : a.eval x = .slice (some ⟨bx, 0, none⟩) 1 1) (q0 : w.cell? ⟨bx, 0, none⟩ = some (.bool (neg q.num))) (q1 : w.cell? ⟨bx, 1, none⟩ = some (.slice a1 n1 c1)) (q2 : w.cell? ⟨bx, 2, none⟩ = some (.slice a2 n2 c2))
    (o1 : OwnAt w B a1 n1 c1 (digs q.num.natAbs)) (o2 : OwnAt w B a2 n2 c2 (digs q.den)) (f1 : OffO v.ownBlock a1 n1) (f2 : OffO v.ownBlock a2 n2) (f3 : OffO o a1 n1) (f4 : OffO o a2 n2) (hob : ∀ k, o = some k → k < w.heap.size) (hsz : L.length ≤ 1000000) (hbase : B ≤ w.heap.size)
    (hK : ∀ v' w', RatsA w' B v' (L ++ [q]) o → w.grownBy w' v.ownBlock → (v'.ownBlock = v.ownBlock ∨ v'.ownBlock = some w.heap.size) → Below B w w' → wpList Try.prog ops Q rest (a.put op.dst v') w') :
    wpList Try.prog ops Q (op :: rest) a w := by
  obtain ⟨i0, hi, hz, hsize, hby⟩ := info_parts rat_info
  have hlt := h.lt
  obtain ⟨xs, h1, h3, h2⟩ := h
  refine wpList_plain hgd fun K hK2 => ?_
  obtain ⟨v', w', hr, k1, k2, k3, k4⟩ := run_append_own_at (P := Try.prog) w B 49 op.type 36 i0 _ 3 56 Try.underlying49 hi hz hsize hby rfl (by decide) v L.length xs h1 ⟨bx, 0, none⟩ 1 1 [.bool (neg q.num), .slice a1 n1 c1, .slice a2 n2 c2] rfl
    (fun j y hj => by match j, hj with | 0, hj => (simp at hj; subst hj; exact q0) | 1, hj => (simp at hj; subst hj; exact q1) | 2, hj => (simp at hj; subst hj; exact q2)) (fun y hy => by simp at hy; rcases hy with rfl | rfl | rfl <;> rfl) (by simp only [maxLen]; omega) (by omega) hbase
  have hdone := hK2 _ _ (hK v' w' ⟨_, by rw [List.length_append]; exact k1, fun k e => ?_, fun i hi => ?_⟩ k2 k4 ((Below.refl B w).grown k2 hbase (fun k e => (hlt k e).1)))
  · unfold Oper.wp execOp
    simp only [ho, resolve, invoke, builtin, Sem.run_bind, Sem.run_pure, Result.andThen_ok, List.map_toArray, List.map_cons, List.map_nil, hs, hx, hr]
    exact hdone
  · rcases k4 with e' | e'
    · exact h3 k (by rw [← e', e])
    · rw [e'] at e
      intro e2
      have := hob k e2
      have := Option.some.inj e
      omega
  · have hxl := h1.1
    rw [List.length_append] at hi
    simp only [List.length_cons, List.length_nil] at hi
    by_cases e : i = L.length
    · subst e
      have e0 : (L ++ [q]).getD L.length 0 = q := by rw [List.getD_eq_getElem?_getD, List.getElem?_append_right (Nat.le_refl _), Nat.sub_self]; rfl
      rw [e0]
      exact ⟨a1, n1, c1, a2, n2, c2, by rw [List.getElem?_append_right (by omega), hxl, Nat.sub_self]; rfl, by rw [List.getElem?_append_right (by omega), hxl, Nat.add_sub_cancel_left]; rfl, by rw [List.getElem?_append_right (by omega), hxl, Nat.add_sub_cancel_left]; rfl, o1.grown k2 f1, o2.grown k2 f2, f1.turn o1 k4, f2.turn o2 k4, f3, f4⟩
    · obtain ⟨a3, n3, c3, a4, n4, c4, e1, e2, e3, p1, p2, u1, u2, u3, u4⟩ := h2 i (by omega)
      have e0 : (L ++ [q]).getD i 0 = L.getD i 0 := by rw [List.getD_eq_getElem?_getD, List.getD_eq_getElem?_getD, List.getElem?_append_left (by omega)]
      rw [e0]
      exact ⟨a3, n3, c3, a4, n4, c4, by rw [List.getElem?_append_left (by omega)]; exact e1, by rw [List.getElem?_append_left (by omega)]; exact e2, by rw [List.getElem?_append_left (by omega)]; exact e3, p1.grown k2 u1, p2.grown k2 u2, u1.turn p1 k4, u2.turn p2 k4, u3, u4⟩
/-- a list's sum -/
def sumL24 (L : List Rat) : Rat := sumQ 0 (fun i => L.getD i 0) L.length

end Go.Proofs.Ytlkoenpdmlbhlaa
