import Derived.RangeFuncBox
import Derived.Test.YtlkoenpdmlbhlaaGreatS0Cm
import Derived.Test.YtlkoenpdmlbhlaaGreatNatsCm
import Derived.Test.YtlkoenpdmlbhlaaGreatRange1Cm
set_option linter.unusedVariables false
set_option linter.unusedSimpArgs false
namespace Go.Proofs.YtlkoenpdmlbhlaaGreat
open Go.RowKit
def InAt (w : World) (L U : Nat) (a : Option Addr) (n c : Nat) (l : List Nat) : Prop := OwnAt w L a n c l ∧ (n = 0 ∨ ∀ x, a = some x → x.block < U)
def RatsSep (w : World) (B U : Nat) (v : Value) (n : Nat) (q : Nat → Rat) : Prop :=
 ∃ (xs : List Value) (lo hi : Nat → Nat), w.ownsRow B 27 3 v n xs ∧ (∀ k, v.ownBlock = some k → k < U) ∧ U ≤ w.heap.size ∧ (∀ i j, i < j → j < n → hi i ≤ lo j) ∧
  ∀ i, i < n → ∃ a1 n1 c1 a2 n2 c2, xs[i * 3]? = some (.bool (neg (q i).num)) ∧ xs[i * 3 + 1]? = some (.slice a1 n1 c1) ∧ xs[i * 3 + 2]? = some (.slice a2 n2 c2) ∧
   InAt w (lo i) (hi i) a1 n1 c1 (digs (q i).num.natAbs) ∧ InAt w (lo i) (hi i) a2 n2 c2 (digs (q i).den) ∧ B ≤ lo i ∧ hi i ≤ U ∧ ∀ k, v.ownBlock = some k → k < lo i ∨ hi i ≤ k
theorem RatsSep.nil (w : World) (B U : Nat) (q : Nat → Rat) (hU : U ≤ w.heap.size) : RatsSep w B U (.slice none 0 0) 0 q :=
 ⟨[], fun _ => 0, fun _ => 0, ⟨rfl, .inl ⟨rfl, rfl⟩⟩, fun k e => by simp [Value.ownBlock] at e, hU, fun i j _ h => absurd h (Nat.not_lt_zero _), fun i hi => absurd hi (Nat.not_lt_zero i)⟩
theorem RatsSep.past {w w' : World} {B U n : Nat} {v : Value} {q : Nat → Rat} (h : RatsSep w B U v n q) (hb : Below w.heap.size w w') : RatsSep w' B U v n q := by
 obtain ⟨xs, lo, hi, h1, hv, hU, ho, h2⟩ := h
 refine ⟨xs, lo, hi, h1.kept (below_grown hb none) (by cases v.ownBlock <;> simp), hv, Nat.le_trans hU hb.size, ho, fun i hi => ?_⟩
 obtain ⟨a1, n1, c1, a2, n2, c2, e1, e2, e3, ⟨o1, p1⟩, ⟨o2, p2⟩, r⟩ := h2 i hi
 exact ⟨a1, n1, c1, a2, n2, c2, e1, e2, e3, ⟨o1.past hb, p1⟩, ⟨o2.past hb, p2⟩, r⟩
theorem RatsSep.up {w : World} {B U U' n : Nat} {v : Value} {q : Nat → Rat} (h : RatsSep w B U v n q) (hU : U ≤ U') (hw : U' ≤ w.heap.size) : RatsSep w B U' v n q := by
 obtain ⟨xs, lo, hi, h1, hv, _, ho, h2⟩ := h
 refine ⟨xs, lo, hi, h1, fun k e => Nat.lt_of_lt_of_le (hv k e) hU, hw, ho, fun i hi => ?_⟩
 obtain ⟨a1, n1, c1, a2, n2, c2, e1, e2, e3, o1, o2, r1, r2, r3⟩ := h2 i hi
 exact ⟨a1, n1, c1, a2, n2, c2, e1, e2, e3, o1, o2, r1, Nat.le_trans r2 hU, r3⟩
theorem RatsSep.lt {w : World} {B U n : Nat} {v : Value} {q : Nat → Rat} (h : RatsSep w B U v n q) : ∀ k, v.ownBlock = some k → B ≤ k ∧ k < w.heap.size := by
 obtain ⟨xs, _, _, h1, _⟩ := h; exact h1.lt
theorem RatsSep.cells {w : World} {B U n : Nat} {v : Value} {q : Nat → Rat} (h : RatsSep w B U v n q) : ∀ k o, v.ownBlock = some k → w.heap[k]? = some o → o.isCells = true := by
 obtain ⟨xs, lo, hi, h1, _⟩ := h
 intro k o e ho
 rcases h1.2 with ⟨rfl, _⟩ | ⟨g, cap, cur, rfl, _, hgb, _⟩
 · simp [Value.ownBlock] at e
 · obtain rfl : g = k := by simpa [Value.ownBlock] using e
   rw [hgb] at ho; cases ho; rfl
theorem RatsSep.mono {w : World} {B B' U n : Nat} {v : Value} {q : Nat → Rat} (h : RatsSep w B U v n q) (hB : B' ≤ B) : RatsSep w B' U v n q := by
 obtain ⟨xs, lo, hi, ⟨h1, h3⟩, hv, hU, ho, h2⟩ := h
 refine ⟨xs, lo, hi, ⟨h1, ?_⟩, hv, hU, ho, fun i hi => ?_⟩
 · rcases h3 with h3 | ⟨g', cap', cur, e, hb, r⟩
   · exact .inl h3
   · exact .inr ⟨g', cap', cur, e, Nat.le_trans hB hb, r⟩
 · obtain ⟨a1, n1, c1, a2, n2, c2, e1, e2, e3, o1, o2, r1, r⟩ := h2 i hi
   exact ⟨a1, n1, c1, a2, n2, c2, e1, e2, e3, o1, o2, Nat.le_trans hB r1, r⟩
theorem RatsSep.grown {w w' : World} {B U n b : Nat} {v : Value} {q : Nat → Rat} (h : RatsSep w B U v n q) (hg : w.grownBy w' (some b)) (hb : b < B) : RatsSep w' B U v n q := by
 have hlt := h.lt
 obtain ⟨xs, lo, hi, h1, hv, hU, ho, h2⟩ := h
 refine ⟨xs, lo, hi, h1.kept hg (.inr fun e => by have := hlt b e; omega), hv, Nat.le_trans hU hg.size, ho, fun i hi => ?_⟩
 obtain ⟨a1, n1, c1, a2, n2, c2, e1, e2, e3, ⟨o1, p1⟩, ⟨o2, p2⟩, r1, r2, r3⟩ := h2 i hi
 have key : ∀ {a : Option Addr} {m c : Nat} {l : List Nat}, OwnAt w (lo i) a m c l → (m = 0 ∨ ∀ x, a = some x → (some b : Option Nat) ≠ some x.block) := fun ho => by
  rcases ho.own with h0 | ⟨b', o', rfl, hb', _⟩
  · exact .inl h0
  · exact .inr fun x hx e => by cases hx; have e2 : b = b' := Option.some.inj e; have e3 : lo i ≤ b' := hb'; omega
 exact ⟨a1, n1, c1, a2, n2, c2, e1, e2, e3, ⟨o1.grown hg (key o1), p1⟩, ⟨o2.grown hg (key o2), p2⟩, r1, r2, r3⟩
theorem RatsSep.turn {W : World} {l B U n : Nat} {o : Obj} (o' : Obj) {v : Value} {q : Nat → Rat} (h : RatsSep W B U v n q) (hl : W.heap[l]? = some o) (ho : o.isCells = false) : RatsSep (W.putObj l o') B U v n q := by
 obtain ⟨xs, lo, hi, h1, hv, hU, hor, h2⟩ := h
 refine ⟨xs, lo, hi, ownsRow_putObj h1 o' hl ho, hv, by simpa using hU, hor, fun i hi => ?_⟩
 obtain ⟨a1, n1, c1, a2, n2, c2, e1, e2, e3, ⟨o1, p1⟩, ⟨o2, p2⟩, r⟩ := h2 i hi
 exact ⟨a1, n1, c1, a2, n2, c2, e1, e2, e3, ⟨o1.turn o' hl ho, p1⟩, ⟨o2.turn o' hl ho, p2⟩, r⟩
theorem wpListIn_push_sep {F : Fence} {m0 : Nat} {w : World} {ops : Array Oper} {rest : List Oper} {o : Oper} {a : Act} {Q : Exit → Act → World → Prop} (hgd : o.guard = none) (s x : Operand)
 (ho : o.op = .call { callee := .builtin .append, args := #[s, x], argTypes := #[48, 48] })
 (B U n : Nat) (v : Value) (q : Nat → Rat) (hs : a.eval s = v) (h : RatsSep w B U v n q)
 (bx : Nat) (a1 : Option Addr) (n1 c1 : Nat) (a2 : Option Addr) (n2 c2 : Nat) (hx : a.eval x = .slice (some ⟨bx, 0, none⟩) 1 1) (q0 : w.cell? ⟨bx, 0, none⟩ = some (.bool (neg (q n).num))) (q1 : w.cell? ⟨bx, 1, none⟩ = some (.slice a1 n1 c1)) (q2 : w.cell? ⟨bx, 2, none⟩ = some (.slice a2 n2 c2))
 (o1 : OwnAt w U a1 n1 c1 (digs (q n).num.natAbs)) (o2 : OwnAt w U a2 n2 c2 (digs (q n).den)) (hsz : n ≤ 1000000) (hBU : B ≤ U)
 (hK : ∀ v' w', RatsSep w' B w'.heap.size v' (n + 1) q → w.grownBy w' v.ownBlock → (v'.ownBlock = v.ownBlock ∨ v'.ownBlock = some w.heap.size) → (∃ g c, v' = .slice (some ⟨g, 0, none⟩) (n + 1) c) → wpListIn F m0 Tryz.prog ops Q rest (a.put o.dst v') w') :
 wpListIn F m0 Tryz.prog ops Q (o :: rest) a w := by
 obtain ⟨i0, hi, hz, hsize, hby⟩ := info_parts rat_info
 have hown := h
 obtain ⟨xs, lo, hi', h1, hv, hU, hor, h2⟩ := h
 refine wpListIn_plain hgd fun K hK2 => ?_
 obtain ⟨v', w', hr, k1, k2, k3, k4⟩ := run_append_own_at (P := Tryz.prog) w B 48 o.type 27 i0 _ 3 56 Tryz.underlying48 hi hz hsize hby rfl (by decide) v n xs h1 ⟨bx, 0, none⟩ 1 1 [.bool (neg (q n).num), .slice a1 n1 c1, .slice a2 n2 c2] rfl
  (fun j y hj => by match j, hj with | 0, hj => (simp at hj; subst hj; exact q0) | 1, hj => (simp at hj; subst hj; exact q1) | 2, hj => (simp at hj; subst hj; exact q2)) (fun y hy => by simp at hy; rcases hy with rfl | rfl | rfl <;> rfl) (by simp only [maxLen]; omega) (by omega) (by omega)
 have hsep : RatsSep w' B w'.heap.size v' (n + 1) q := by
  have hxl := h1.1
  have hws := k2.size
  refine ⟨_, fun i => if i = n then U else lo i, fun i => if i = n then w.heap.size else hi' i, k1, fun k e => (k1.lt k e).2, Nat.le_refl _, fun i j hij hj => ?_, fun i hi => ?_⟩
  · simp only [if_neg (show ¬ i = n by omega)]
    by_cases e : j = n
    · simp only [if_pos e]
      obtain ⟨_, _, _, _, _, _, _, _, _, _, _, _, r2, _⟩ := h2 i (by omega)
      exact r2
    · simp only [if_neg e]
      exact hor i j hij (by omega)
  · have far : ∀ {a : Option Addr} {m c L U1 : Nat} {l : List Nat}, OwnAt w L a m c l → (m = 0 ∨ ∀ x, a = some x → x.block < U1) → (∀ k, v.ownBlock = some k → k < L ∨ U1 ≤ k) → (m = 0 ∨ ∀ x, a = some x → v.ownBlock ≠ some x.block) := fun ho hp hk => by
     rcases ho.own with h0 | ⟨b', o', rfl, hb', _⟩
     · exact .inl h0
     · rcases hp with h0 | hp
       · exact .inl h0
       · refine .inr fun x hx e => ?_
         cases hx
         have h3 := hp _ rfl
         have h4 := hk _ e
         simp only at h3 h4 hb'
         omega
    have place : ∀ L U1, U1 ≤ w.heap.size → (∀ k, v.ownBlock = some k → k < L ∨ U1 ≤ k) → ∀ k, v'.ownBlock = some k → k < L ∨ U1 ≤ k := fun L U1 hU1 hk k e => by
     rcases k4 with e' | e'
     · exact hk k (by rw [← e', e])
     · rw [e'] at e
       exact .inr (by have := Option.some.inj e; omega)
    by_cases e : i = n
    · subst e
      simp only [if_true]
      have pv : ∀ k, v.ownBlock = some k → k < U ∨ w.heap.size ≤ k := fun k e => .inl (hv k e)
      exact ⟨a1, n1, c1, a2, n2, c2, by rw [List.getElem?_append_right (by omega), hxl, Nat.sub_self]; rfl, by rw [List.getElem?_append_right (by omega), hxl, Nat.add_sub_cancel_left]; rfl, by rw [List.getElem?_append_right (by omega), hxl, Nat.add_sub_cancel_left]; rfl,
       ⟨o1.grown k2 (far o1 o1.ltBlock pv), o1.ltBlock⟩, ⟨o2.grown k2 (far o2 o2.ltBlock pv), o2.ltBlock⟩, hBU, hws, place _ _ (Nat.le_refl _) pv⟩
    · simp only [if_neg e]
      obtain ⟨a3, n3, c3, a4, n4, c4, e1, e2, e3, ⟨p1, u1⟩, ⟨p2, u2⟩, r1, r2, r3⟩ := h2 i (by omega)
      exact ⟨a3, n3, c3, a4, n4, c4, by rw [List.getElem?_append_left (by omega)]; exact e1, by rw [List.getElem?_append_left (by omega)]; exact e2, by rw [List.getElem?_append_left (by omega)]; exact e3,
       ⟨p1.grown k2 (far p1 u1 r3), u1⟩, ⟨p2.grown k2 (far p2 u2 r3), u2⟩, r1, by omega, place _ _ (by omega) r3⟩
 have hdone := hK2 _ _ (hK v' w' hsep k2 k4 (by
  rcases k1.2 with ⟨_, hn⟩ | ⟨g', cap', cur, rfl, _⟩
  · omega
  · exact ⟨_, _, rfl⟩))
 unfold Oper.wpIn
 refine ⟨?_, ?_⟩
 · simp [Oper.about, ho, resolve, Target.leads, Sem.run_pure]
 · rw [Oper.semAt_plain F _ _ (by rw [ho]; intro c hc'; cases hc')]
   simp [execOp, ho, resolve, invoke, builtin, hs, hx, hr, Result.andThen]
   exact hdone
end Go.Proofs.YtlkoenpdmlbhlaaGreat
set_option linter.unusedVariables false
set_option linter.unusedSimpArgs false
namespace Go.Proofs.YtlkoenpdmlbhlaaGreat
open Go.RowKit Go.Shelf
attribute [local go_sem] Oper.semAt_some
theorem BoxAt.low {w w' : World} {B b k : Nat} (h : BoxAt w b k) (hb : Below B w w') (hl : b < B) : BoxAt w' b k :=
 ⟨fun i hi => by obtain ⟨v, hv, hu⟩ := h.c i hi; exact ⟨v, (hb.cell (p := ⟨b, i, none⟩) hl).trans hv, hu⟩, fun i hi => (hb.frozen (p := ⟨b, i, none⟩) hl).trans (h.f i hi)⟩
def AppI (B bS : Nat) (q : Nat → Rat) (i : Nat) (W : World) : Prop := ∃ v U, W.cell? ⟨bS, 0, none⟩ = some v ∧ BoxAt W bS 1 ∧ bS < B ∧ B ≤ U ∧ RatsSep W B U v i q
theorem AppI.lt {B bS : Nat} {q : Nat → Rat} {i : Nat} {W : World} (h : AppI B bS q i W) : bS < W.heap.size := by
 obtain ⟨v, U, _, _, h1, h2, h3⟩ := h
 obtain ⟨_, _, _, _, _, hU, _⟩ := h3
 omega
theorem AppI.past {B bS : Nat} {q : Nat → Rat} {i : Nat} {W W' : World} (h : AppI B bS q i W) (hb : Below W.heap.size W W') : AppI B bS q i W' := by
 have hl := h.lt
 obtain ⟨v, U, hc, hx, h1, h2, h3⟩ := h
 exact ⟨v, U, (hb.cell (p := ⟨bS, 0, none⟩) hl).trans hc, hx.past hb hl, h1, h2, h3.past hb⟩
theorem AppI.off {B bS b : Nat} {q : Nat → Rat} {i : Nat} {W : World} {x y : Int} (h : AppI B bS q i W) (hb : b < bS) (hc : W.cell? ⟨b, 0, none⟩ = some (.int .i64 x)) : AppI B bS q i (W.setCell ⟨b, 0, none⟩ (.int .i64 y)) := by
 obtain ⟨v, U, h0, hx, h1, h2, h3⟩ := h
 exact ⟨v, U, (World.cell?_setCell_other _ _ _ _ (fun e => by injection e with h2; omega)).trans h0, hx.set _ _ (notU_i64 y), h1, h2, h3.grown (grownBy_setCell' W b _) (by omega)⟩
theorem AppI.turn {B bS : Nat} {q : Nat → Rat} {i : Nat} {W : World} (h : AppI B bS q i W) {l : Nat} {o : Obj} (o' : Obj) (hl : W.heap[l]? = some o) (ho : o.isCells = false) : AppI B bS q i (W.putObj l o') := by
 obtain ⟨v, U, h0, hx, h1, h2, h3⟩ := h
 exact ⟨v, U, cell_turn o' h0 hl ho, hx.turn o' hl ho, h1, h2, h3.turn o' hl ho⟩
def AppM (gf : Nat) (lb : Array Value) (B bS : Nat) (q : Nat → Rat) (i : Nat) (x : Value) (b : Act) (W : World) : Prop :=
 ∃ bx a1 n1 c1 a2 n2 c2, b = { tmps := #[.slice none 0 0, .func (.func gf) #[] lb, .pointer (some ⟨bS, 0, none⟩), undef, .slice none 0 0, .pointer (some ⟨bx, 0, none⟩), .func (.func gf) #[] lb, x, undef, undef, undef, undef, undef], defers := [] } ∧
  W.cell? ⟨bx, 0, none⟩ = some (.bool (neg (q i).num)) ∧ W.cell? ⟨bx, 1, none⟩ = some (.slice a1 n1 c1) ∧ W.cell? ⟨bx, 2, none⟩ = some (.slice a2 n2 c2) ∧
  ∃ v U, W.cell? ⟨bS, 0, none⟩ = some v ∧ BoxAt W bS 1 ∧ bS < B ∧ B ≤ U ∧ RatsSep W B U v i q ∧ OwnAt W U a1 n1 c1 (digs (q i).num.natAbs) ∧ OwnAt W U a2 n2 c2 (digs (q i).den)
theorem AppM.turn {gf : Nat} {lb : Array Value} {B bS : Nat} {q : Nat → Rat} {i : Nat} {x : Value} {b : Act} {W : World} (h : AppM gf lb B bS q i x b W) {l : Nat} {o : Obj} (o' : Obj) (hl : W.heap[l]? = some o) (ho : o.isCells = false) : AppM gf lb B bS q i x b (W.putObj l o') := by
 obtain ⟨bx, a1, n1, c1, a2, n2, c2, e, h0, h1, h2, v, U, z0, hx, z1, z2, z3, g1, g2⟩ := h
 exact ⟨bx, a1, n1, c1, a2, n2, c2, e, cell_turn o' h0 hl ho, cell_turn o' h1 hl ho, cell_turn o' h2 hl ho, v, U, cell_turn o' z0 hl ho, hx.turn o' hl ho, z1, z2, z3.turn o' hl ho, g1.turn o' hl ho, g2.turn o' hl ho⟩
def RetRats (w : World) (N : Nat) (q : Nat → Rat) (e : Ending) (w' : World) : Prop := ∃ v U, e = .returned v ∧ RatsSep w' w.heap.size U v N q
set_option maxRecDepth 100000 in
set_option maxHeartbeats 8000000 in
theorem appendSeq_any (gf : Nat) (lb : Array Value) (N : Nat) (q : Nat → Rat) (w : World)
 (n0 : Nat) (bj : Option Nat) (hn0 : n0 ≤ w.heap.size) (hbj : ∀ b, bj = some b → b < w.heap.size) (hseq : Hands 2 Tryz.prog gf lb w n0 bj N (RatNew q)) (eg : ∀ args w, (callFunc gf args).run Tryz.prog w = .ok (.enter gf args) w) (hN : N ≤ 1000) :
 Calls Tryz.prog 110 #[.slice none 0 0, .func (.func gf) #[] lb] w fun e w' => RetRats w N q e w' ∧ Below n0 w w' := by
 refine (callsIn_wide (n := 3)).1 ?_
 refine callsIn_of_wp_marks Tryz.func110 rfl trivial ?_ rfl
 simp only [Tryz.ntmps110, List.size_toArray, List.length_cons, List.length_nil, Nat.reduceAdd, Nat.reduceSub, Array.replicate_succ, Array.replicate_zero, List.push_toArray, List.append_toArray, List.nil_append, List.cons_append]
 gi_wp2
 obtain ⟨w1, hW1, hz1, hb1, q1, f1⟩ := box1g w w.heap.size rfl #[.slice none 0 0] 48
 rw [hW1]
 have x1 : BoxAt w1 w.heap.size 1 := BoxAt.of q1 f1 rfl (by simp [notU_slice])
 have hI0 : AppI (w.heap.size + 1) w.heap.size q 0 w1 := ⟨_, w.heap.size + 1, q1 0, x1, Nat.lt_succ_self _, Nat.le_refl _, RatsSep.nil _ _ _ _ (by omega)⟩
 clear q1 f1 x1 hW1
 refine wpIn_rounds (w0 := w) (by decide) rfl eg hn0 hseq hb1 (AppI (w.heap.size + 1) w.heap.size q) (AppM gf lb (w.heap.size + 1) w.heap.size q)
  (fun i W W' h hb => h.past hb) (fun b hb i W x y h hc => h.off (hbj b hb) hc) (fun i W l o o' h hl ho _ => h.turn o' hl ho) (fun i x b W l o o' h hl ho _ => h.turn o' hl ho) hI0 ?_ ?_ ?_
 · rintro l i x W0 W hi hI0 hW0 hI hBW ⟨a3, n3, c3, a4, n4, c4, rfl, h3, h4⟩
   have hal : Below W.heap.size W (W.alloc (.cells #[.bool (neg (q i).num), .slice a3 n3 c3, .slice a4 n4 c4] 27)) := (Below.refl _ _).alloc (Nat.le_refl _) _
   have y0 : (W.alloc (.cells #[.bool (neg (q i).num), .slice a3 n3 c3, .slice a4 n4 c4] 27)).cell? ⟨W.heap.size, 0, none⟩ = some (.bool (neg (q i).num)) := by rw [World.cell?_alloc_at _ _ _ _ rfl]; rfl
   have y1 : (W.alloc (.cells #[.bool (neg (q i).num), .slice a3 n3 c3, .slice a4 n4 c4] 27)).cell? ⟨W.heap.size, 1, none⟩ = some (.slice a3 n3 c3) := by rw [World.cell?_alloc_at _ _ _ _ rfl]; rfl
   have y2 : (W.alloc (.cells #[.bool (neg (q i).num), .slice a3 n3 c3, .slice a4 n4 c4] 27)).cell? ⟨W.heap.size, 2, none⟩ = some (.slice a4 n4 c4) := by rw [World.cell?_alloc_at _ _ _ _ rfl]; rfl
   have hlt := hI0.lt
   obtain ⟨v, U, z0, hx, z1, z2, z3⟩ := hI0
   have hU : U ≤ W0.heap.size := by obtain ⟨_, _, _, _, _, hU, _⟩ := z3; exact hU
   have z3 := ((z3.up hU (Nat.le_refl _)).past hW0).past hal
   have z0 := (hal.cell (p := ⟨w.heap.size, 0, none⟩) (Nat.lt_of_lt_of_le hlt hW0.size)).trans ((hW0.cell (p := ⟨w.heap.size, 0, none⟩) hlt).trans z0)
   have hx := (hx.past hW0 hlt).past hal (Nat.lt_of_lt_of_le hlt hW0.size)
   have hM : AppM gf lb (w.heap.size + 1) w.heap.size q i (.agg #[.bool (neg (q i).num), .slice a3 n3 c3, .slice a4 n4 c4]) _ _ := ⟨W.heap.size, a3, n3, c3, a4, n4, c4, rfl, y0, y1, y2, v, W0.heap.size, z0, hx, z1, by omega, z3, h3.past hal, h4.past hal⟩
   have hall := And.intro (KeepsOthers.alloc W (.cells #[.bool (neg (q i).num), .slice a3 n3 c3, .slice a4 n4 c4] 27)) (And.intro (hal.mono hBW.size) hM)
   clear y0 y1 y2 hM z0 z1 z2 z3 hx
   gi_wp2
   exact hall
 · rintro l i x b W hi hBW0 hWs ⟨bx, a3, n3, c3, a4, n4, c4, rfl, h0, h1, h2, v, U, t0, hx, t1, t2, t3, h3, h4⟩
   have zf0 := hx.f 0 (by decide)
   have hal : Below W.heap.size W (W.alloc (.cells #[.bool (neg (q i).num), .slice a3 n3 c3, .slice a4 n4 c4] 27)) := (Below.refl _ _).alloc (Nat.le_refl _) _
   have y0 : (W.alloc (.cells #[.bool (neg (q i).num), .slice a3 n3 c3, .slice a4 n4 c4] 27)).cell? ⟨W.heap.size, 0, none⟩ = some (.bool (neg (q i).num)) := by rw [World.cell?_alloc_at _ _ _ _ rfl]; rfl
   have y1 : (W.alloc (.cells #[.bool (neg (q i).num), .slice a3 n3 c3, .slice a4 n4 c4] 27)).cell? ⟨W.heap.size, 1, none⟩ = some (.slice a3 n3 c3) := by rw [World.cell?_alloc_at _ _ _ _ rfl]; rfl
   have y2 : (W.alloc (.cells #[.bool (neg (q i).num), .slice a3 n3 c3, .slice a4 n4 c4] 27)).cell? ⟨W.heap.size, 2, none⟩ = some (.slice a4 n4 c4) := by rw [World.cell?_alloc_at _ _ _ _ rfl]; rfl
   have hUW : U ≤ W.heap.size := by obtain ⟨_, _, _, _, _, hU, _⟩ := t3; exact hU
   have hown := t3.lt
   have t3 := t3.past hal
   have h3 := h3.past hal
   have h4 := h4.past hal
   have hx2 := hx.past hal (by omega)
   have zf2 := hx2.f 0 (by decide)
   have hbz : w.heap.size + 1 ≤ (W.alloc (.cells #[.bool (neg (q i).num), .slice a3 n3 c3, .slice a4 n4 c4] 27)).heap.size := Nat.le_trans (by omega) hal.size
   have t02 := (hal.cell (p := ⟨w.heap.size, 0, none⟩) (show w.heap.size < W.heap.size by omega)).trans t0
   gi_wp2_with (gi_at_builtin; go_loud (refine wpListIn_push_sep rfl _ _ rfl (w.heap.size + 1) U i v q rfl t3 W.heap.size _ _ _ _ _ _ rfl y0 y1 y2 h3 h4 (by omega) t2 ?_; rintro v2 w2 k1 k2 k3 ⟨g2, c2, rfl⟩; have hb2 := (Below.refl (w.heap.size + 1) _).grown k2 hbz (fun k e => (hown k e).1); have q2 := (hb2.cell (p := ⟨w.heap.size, 0, none⟩) (Nat.lt_succ_self _)).trans t02; have hx2 := hx2.low hb2 (Nat.lt_succ_self _); have zf2 := hx2.f 0 (by decide)))
   have hw2 : w.heap.size + 1 ≤ w2.heap.size := Nat.le_trans hbz hb2.size
   refine ⟨((KeepsOthers.alloc W _).trans (KeepsOthers.of_grownBy k2 fun j o ej hj => t3.cells j o ej hj)).trans (KeepsOthers.setCell _ _ _), ?_, ?_⟩
   · exact ((hal.mono (by omega)).trans (hb2.mono (Nat.le_succ _))).setCell (p := ⟨w.heap.size, 0, none⟩) (Nat.le_refl _) _
   · exact ⟨_, w2.heap.size, World.cell?_setCell_same _ _ _ q2, hx2.set _ _ (Go.Proofs.YtlkoenpdmlbhlaaGreat.nu rfl), t1, hw2, k1.grown (grownBy_setCell' w2 w.heap.size _) (Nat.lt_succ_self _)⟩
 · intro D W hD hI hBW hdef
   obtain ⟨v, U, z0, hx, z1, z2, z3⟩ := hI
   gi_wp2
   refine ⟨by simp, .inl ⟨_, _, rfl, run_takeDeferred hdef, ?_⟩⟩
   exact ⟨_, results_tmp rfl _ _ _, ⟨v, U, rfl, (z3.turn (.deferred none) hdef rfl).mono (Nat.le_succ _)⟩, hBW.trans (below_put (.deferred none) (show n0 ≤ D by omega))⟩
set_option maxRecDepth 100000 in
set_option maxHeartbeats 8000000 in
theorem collect_any (gf : Nat) (lb : Array Value) (N : Nat) (q : Nat → Rat) (w : World)
 (n0 : Nat) (bj : Option Nat) (hn0 : n0 ≤ w.heap.size) (hbj : ∀ b, bj = some b → b < w.heap.size) (hseq : Hands 2 Tryz.prog gf lb w n0 bj N (RatNew q)) (eg : ∀ args w, (callFunc gf args).run Tryz.prog w = .ok (.enter gf args) w) (hN : N ≤ 1000) :
 Calls Tryz.prog 68 #[.func (.func gf) #[] lb] w fun e w' => RetRats w N q e w' ∧ Below n0 w w' := by
 have H := Lib.hid (appendSeq_any gf lb N q w n0 bj hn0 hbj hseq eg hN)
 clear hseq eg
 go_enter Tryz.func68, Tryz.ntmps68
 go_wp2_with fail
 refine H.out.mono ?_
 rintro e w1 ⟨⟨v, U, rfl, h1⟩, hb⟩
 go_wp2
 go_ret
 exact ⟨⟨v, U, rfl, h1⟩, hb⟩
end Go.Proofs.YtlkoenpdmlbhlaaGreat
