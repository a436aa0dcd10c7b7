/- rows of fractions whose digits lie apart: append inside a fence. -/
import Derived.Test.YtlkoenpdmlbhlaaRats1
import Derived.Test.YtlkoenpdmlbhlaaFold1
import Derived.RangeFuncBox
set_option linter.unusedVariables false
set_option linter.unusedSimpArgs false
namespace Go.Proofs.Ytlkoenpdmlbhlaa
open Go.RowKit

/-- digits in memory from block L on, ahead of block U -/
def InAt (w : World) (L U : Nat) (a : Option Addr) (n c : Nat) (l : List Nat) : Prop := OwnAt w L a n c l ∧ (n = 0 ∨ ∀ x, a = some x → x.block < U)
/-- a row of fractions, all in memory from block B on and ahead of block U; each one's digits lie apart from the row and ahead of the next one's -/
def RatsSep (w : World) (B U : Nat) (v : Value) (n : Nat) (q : Nat → Rat) : Prop :=
  ∃ (xs : List Value) (lo hi : Nat → Nat), w.ownsRow B 36 3 v n xs ∧ (∀ k, v.ownBlock = some k → k < U) ∧ U ≤ w.heap.size ∧ (∀ i j, i < j → j < n → hi i ≤ lo j) ∧
    ∀ i, i < n → ∃ a1 n1 c1 a2 n2 c2, xs[i * 3]? = some (.bool (neg (q i).num)) ∧ xs[i * 3 + 1]? = some (.slice a1 n1 c1) ∧ xs[i * 3 + 2]? = some (.slice a2 n2 c2) ∧
      InAt w (lo i) (hi i) a1 n1 c1 (digs (q i).num.natAbs) ∧ InAt w (lo i) (hi i) a2 n2 c2 (digs (q i).den) ∧ B ≤ lo i ∧ hi i ≤ U ∧ ∀ k, v.ownBlock = some k → k < lo i ∨ hi i ≤ k
theorem RatsSep.nil (w : World) (B U : Nat) (q : Nat → Rat) (hU : U ≤ w.heap.size) : RatsSep w B U (.slice none 0 0) 0 q :=
  ⟨[], fun _ => 0, fun _ => 0, ⟨rfl, .inl ⟨rfl, rfl⟩⟩, fun k e => by simp [Value.ownBlock] at e, hU, fun i j _ h => absurd h (Nat.not_lt_zero _), fun i hi => absurd hi (Nat.not_lt_zero i)⟩
theorem RatsSep.past {w w' : World} {B U n : Nat} {v : Value} {q : Nat → Rat} (h : RatsSep w B U v n q) (hb : Below w.heap.size w w') : RatsSep w' B U v n q := by
  obtain ⟨xs, lo, hi, h1, hv, hU, ho, h2⟩ := h
  refine ⟨xs, lo, hi, h1.kept (below_grown hb none) (by cases v.ownBlock <;> simp), hv, Nat.le_trans hU hb.size, ho, fun i hi => ?_⟩
  obtain ⟨a1, n1, c1, a2, n2, c2, e1, e2, e3, ⟨o1, p1⟩, ⟨o2, p2⟩, r⟩ := h2 i hi
  exact ⟨a1, n1, c1, a2, n2, c2, e1, e2, e3, ⟨o1.past hb, p1⟩, ⟨o2.past hb, p2⟩, r⟩
theorem RatsSep.up {w : World} {B U U' n : Nat} {v : Value} {q : Nat → Rat} (h : RatsSep w B U v n q) (hU : U ≤ U') (hw : U' ≤ w.heap.size) : RatsSep w B U' v n q := by
  obtain ⟨xs, lo, hi, h1, hv, _, ho, h2⟩ := h
  refine ⟨xs, lo, hi, h1, fun k e => Nat.lt_of_lt_of_le (hv k e) hU, hw, ho, fun i hi => ?_⟩
  obtain ⟨a1, n1, c1, a2, n2, c2, e1, e2, e3, o1, o2, r1, r2, r3⟩ := h2 i hi
  exact ⟨a1, n1, c1, a2, n2, c2, e1, e2, e3, o1, o2, r1, Nat.le_trans r2 hU, r3⟩
theorem RatsSep.lt {w : World} {B U n : Nat} {v : Value} {q : Nat → Rat} (h : RatsSep w B U v n q) : ∀ k, v.ownBlock = some k → B ≤ k ∧ k < w.heap.size := by
  obtain ⟨xs, _, _, h1, _⟩ := h; exact h1.lt
theorem RatsSep.cells {w : World} {B U n : Nat} {v : Value} {q : Nat → Rat} (h : RatsSep w B U v n q) : ∀ k o, v.ownBlock = some k → w.heap[k]? = some o → o.isCells = true := by
  obtain ⟨xs, lo, hi, h1, _⟩ := h
  intro k o e ho
  rcases h1.2 with ⟨rfl, _⟩ | ⟨g, cap, cur, rfl, _, hgb, _⟩
  · simp [Value.ownBlock] at e
  · obtain rfl : g = k := by simpa [Value.ownBlock] using e
    rw [hgb] at ho; cases ho; rfl
theorem RatsSep.mono {w : World} {B B' U n : Nat} {v : Value} {q : Nat → Rat} (h : RatsSep w B U v n q) (hB : B' ≤ B) : RatsSep w B' U v n q := by
  obtain ⟨xs, lo, hi, ⟨h1, h3⟩, hv, hU, ho, h2⟩ := h
  refine ⟨xs, lo, hi, ⟨h1, ?_⟩, hv, hU, ho, fun i hi => ?_⟩
  · rcases h3 with h3 | ⟨g', cap', cur, e, hb, r⟩
    · exact .inl h3
    · exact .inr ⟨g', cap', cur, e, Nat.le_trans hB hb, r⟩
  · obtain ⟨a1, n1, c1, a2, n2, c2, e1, e2, e3, o1, o2, r1, r⟩ := h2 i hi
    exact ⟨a1, n1, c1, a2, n2, c2, e1, e2, e3, o1, o2, Nat.le_trans hB r1, r⟩
theorem RatsSep.grown {w w' : World} {B U n b : Nat} {v : Value} {q : Nat → Rat} (h : RatsSep w B U v n q) (hg : w.grownBy w' (some b)) (hb : b < B) : RatsSep w' B U v n q := by
  have hlt := h.lt
  obtain ⟨xs, lo, hi, h1, hv, hU, ho, h2⟩ := h
  refine ⟨xs, lo, hi, h1.kept hg (.inr fun e => by have := hlt b e; omega), hv, Nat.le_trans hU hg.size, ho, fun i hi => ?_⟩
  obtain ⟨a1, n1, c1, a2, n2, c2, e1, e2, e3, ⟨o1, p1⟩, ⟨o2, p2⟩, r1, r2, r3⟩ := h2 i hi
  have key : ∀ {a : Option Addr} {m c : Nat} {l : List Nat}, OwnAt w (lo i) a m c l → (m = 0 ∨ ∀ x, a = some x → (some b : Option Nat) ≠ some x.block) := fun ho => by
    rcases ho.own with h0 | ⟨b', o', rfl, hb', _⟩
    · exact .inl h0
    · exact .inr fun x hx e => by cases hx; have e2 : b = b' := Option.some.inj e; have e3 : lo i ≤ b' := hb'; omega
  exact ⟨a1, n1, c1, a2, n2, c2, e1, e2, e3, ⟨o1.grown hg (key o1), p1⟩, ⟨o2.grown hg (key o2), p2⟩, r1, r2, r3⟩
theorem RatsSep.turn {W : World} {l B U n : Nat} {o : Obj} (o' : Obj) {v : Value} {q : Nat → Rat} (h : RatsSep W B U v n q) (hl : W.heap[l]? = some o) (ho : o.isCells = false) : RatsSep (W.putObj l o') B U v n q := by
  obtain ⟨xs, lo, hi, h1, hv, hU, hor, h2⟩ := h
  refine ⟨xs, lo, hi, ownsRow_putObj h1 o' hl ho, hv, by simpa using hU, hor, fun i hi => ?_⟩
  obtain ⟨a1, n1, c1, a2, n2, c2, e1, e2, e3, ⟨o1, p1⟩, ⟨o2, p2⟩, r⟩ := h2 i hi
  exact ⟨a1, n1, c1, a2, n2, c2, e1, e2, e3, ⟨o1.turn o' hl ho, p1⟩, ⟨o2.turn o' hl ho, p2⟩, r⟩
theorem RatsSep.own {w : World} {B U n : Nat} {v : Value} {q : Nat → Rat} (h : RatsSep w B U v n q) : RatsOwn w B v n (fun i => partsOf (q i)) := by
  obtain ⟨xs, lo, hi, h1, hv, hU, hor, h2⟩ := h
  refine ⟨xs, h1, fun i hi => ?_⟩
  obtain ⟨a1, n1, c1, a2, n2, c2, e1, e2, e3, ⟨o1, p1⟩, ⟨o2, p2⟩, r1, r2, r3⟩ := h2 i hi
  have far : ∀ {a : Option Addr} {m c U1 : Nat} {l : List Nat}, OwnAt w (lo i) a m c l → (m = 0 ∨ ∀ x, a = some x → x.block < U1) → (∀ k, v.ownBlock = some k → k < lo i ∨ U1 ≤ k) → (m = 0 ∨ ∀ x, a = some x → v.ownBlock ≠ some x.block) := fun ho hp hk => by
    rcases ho.own with h0 | ⟨b', o', rfl, hb', _⟩
    · exact .inl h0
    · rcases hp with h0 | hp
      · exact .inl h0
      · refine .inr fun x hx e => ?_
        cases hx
        have h3 := hp _ rfl
        have h4 := hk _ e
        simp only at h3 h4 hb'
        omega
  exact ⟨a1, n1, c1, a2, n2, c2, e1, e2, e3, o1.mono r1, o2.mono r1, far o1 p1 r3, far o2 p2 r3⟩
/-- 'append(s, x)' of one fraction, inside a fence -/
theorem wpListIn_push_sep {F : Fence} {m0 : Nat} {w : World} {ops : Array Oper} {rest : List Oper} {o : Oper} {a : Act} {Q : Exit → Act → World → Prop} (hgd : o.guard = none) (s x : Operand)
    (ho : o.op = .call { callee := .builtin .append, args := #[s, x], argTypes := #[49, 49] })
    (B U n : Nat) (v : Value) (q : Nat → Rat) (hs : a.eval s = v) (h : RatsSep w B U v n q)
    (bx : Nat) (a1 : Option Addr) (n1 c1 : Nat) (a2 : Option Addr) (n2 c2 : Nat) (hx : a.eval x = .slice (some ⟨bx, 0, none⟩) 1 1) (q0 : w.cell? ⟨bx, 0, none⟩ = some (.bool (neg (q n).num))) (q1 : w.cell? ⟨bx, 1, none⟩ = some (.slice a1 n1 c1)) (q2 : w.cell? ⟨bx, 2, none⟩ = some (.slice a2 n2 c2))
    (o1 : OwnAt w U a1 n1 c1 (digs (q n).num.natAbs)) (o2 : OwnAt w U a2 n2 c2 (digs (q n).den)) (hsz : n ≤ 1000000) (hBU : B ≤ U)
    (hK : ∀ v' w', RatsSep w' B w'.heap.size v' (n + 1) q → w.grownBy w' v.ownBlock → (v'.ownBlock = v.ownBlock ∨ v'.ownBlock = some w.heap.size) → (∃ g c, v' = .slice (some ⟨g, 0, none⟩) (n + 1) c) → wpListIn F m0 Try.prog ops Q rest (a.put o.dst v') w') :
    wpListIn F m0 Try.prog ops Q (o :: rest) a w := by
  obtain ⟨i0, hi, hz, hsize, hby⟩ := info_parts rat_info
  have hown := h
  obtain ⟨xs, lo, hi', h1, hv, hU, hor, h2⟩ := h
  refine wpListIn_plain hgd fun K hK2 => ?_
  obtain ⟨v', w', hr, k1, k2, k3, k4⟩ := run_append_own_at (P := Try.prog) w B 49 o.type 36 i0 _ 3 56 Try.underlying49 hi hz hsize hby rfl (by decide) v n xs h1 ⟨bx, 0, none⟩ 1 1 [.bool (neg (q n).num), .slice a1 n1 c1, .slice a2 n2 c2] rfl
    (fun j y hj => by match j, hj with | 0, hj => (simp at hj; subst hj; exact q0) | 1, hj => (simp at hj; subst hj; exact q1) | 2, hj => (simp at hj; subst hj; exact q2)) (fun y hy => by simp at hy; rcases hy with rfl | rfl | rfl <;> rfl) (by simp only [maxLen]; omega) (by omega) (by omega)
  have hsep : RatsSep w' B w'.heap.size v' (n + 1) q := by
    have hxl := h1.1
    have hws := k2.size
    refine ⟨_, fun i => if i = n then U else lo i, fun i => if i = n then w.heap.size else hi' i, k1, fun k e => (k1.lt k e).2, Nat.le_refl _, fun i j hij hj => ?_, fun i hi => ?_⟩
    · simp only [if_neg (show ¬ i = n by omega)]
      by_cases e : j = n
      · simp only [if_pos e]
        obtain ⟨_, _, _, _, _, _, _, _, _, _, _, _, r2, _⟩ := h2 i (by omega)
        exact r2
      · simp only [if_neg e]
        exact hor i j hij (by omega)
    · have far : ∀ {a : Option Addr} {m c L U1 : Nat} {l : List Nat}, OwnAt w L a m c l → (m = 0 ∨ ∀ x, a = some x → x.block < U1) → (∀ k, v.ownBlock = some k → k < L ∨ U1 ≤ k) → (m = 0 ∨ ∀ x, a = some x → v.ownBlock ≠ some x.block) := fun ho hp hk => by
        rcases ho.own with h0 | ⟨b', o', rfl, hb', _⟩
        · exact .inl h0
        · rcases hp with h0 | hp
          · exact .inl h0
          · refine .inr fun x hx e => ?_
            cases hx
            have h3 := hp _ rfl
            have h4 := hk _ e
            simp only at h3 h4 hb'
            omega
      have place : ∀ L U1, U1 ≤ w.heap.size → (∀ k, v.ownBlock = some k → k < L ∨ U1 ≤ k) → ∀ k, v'.ownBlock = some k → k < L ∨ U1 ≤ k := fun L U1 hU1 hk k e => by
        rcases k4 with e' | e'
        · exact hk k (by rw [← e', e])
        · rw [e'] at e
          exact .inr (by have := Option.some.inj e; omega)
      by_cases e : i = n
      · subst e
        simp only [if_true]
        have pv : ∀ k, v.ownBlock = some k → k < U ∨ w.heap.size ≤ k := fun k e => .inl (hv k e)
        exact ⟨a1, n1, c1, a2, n2, c2, by rw [List.getElem?_append_right (by omega), hxl, Nat.sub_self]; rfl, by rw [List.getElem?_append_right (by omega), hxl, Nat.add_sub_cancel_left]; rfl, by rw [List.getElem?_append_right (by omega), hxl, Nat.add_sub_cancel_left]; rfl,
          ⟨o1.grown k2 (far o1 o1.ltBlock pv), o1.ltBlock⟩, ⟨o2.grown k2 (far o2 o2.ltBlock pv), o2.ltBlock⟩, hBU, hws, place _ _ (Nat.le_refl _) pv⟩
      · simp only [if_neg e]
        obtain ⟨a3, n3, c3, a4, n4, c4, e1, e2, e3, ⟨p1, u1⟩, ⟨p2, u2⟩, r1, r2, r3⟩ := h2 i (by omega)
        exact ⟨a3, n3, c3, a4, n4, c4, by rw [List.getElem?_append_left (by omega)]; exact e1, by rw [List.getElem?_append_left (by omega)]; exact e2, by rw [List.getElem?_append_left (by omega)]; exact e3,
          ⟨p1.grown k2 (far p1 u1 r3), u1⟩, ⟨p2.grown k2 (far p2 u2 r3), u2⟩, r1, by omega, place _ _ (by omega) r3⟩
  have hdone := hK2 _ _ (hK v' w' hsep k2 k4 (by
    rcases k1.2 with ⟨_, hn⟩ | ⟨g', cap', cur, rfl, _⟩
    · omega
    · exact ⟨_, _, rfl⟩))
  unfold Oper.wpIn
  refine ⟨?_, ?_⟩
  · simp [Oper.about, ho, resolve, Target.leads, Sem.run_pure]
  · rw [Oper.semAt_plain F _ _ (by rw [ho]; intro c hc'; cases hc')]
    simp [execOp, ho, resolve, invoke, builtin, hs, hx, hr, Result.andThen]
    exact hdone

end Go.Proofs.Ytlkoenpdmlbhlaa
