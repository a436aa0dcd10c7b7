import Derived.RangeFuncNested
import Derived.RangeFuncBound
import Derived.RangeFuncCalls
import Derived.RangeFuncLeaves
import Derived.Shelf.Abstract
import Derived.Shelf.RegionOpen
import Derived.WalkKit
import Derived.OwnWalkIn
import Derived.TacticsInMore
import Derived.LoopNIn
import Derived.LoopIn
import Derived.Test.YtlkoenpdmlbhlaaGreatS0Cm
import Derived.Test.YtlkoenpdmlbhlaaGreatA1Cm
import Derived.Test.YtlkoenpdmlbhlaaGreatChance1Cm
set_option linter.unusedVariables false
set_option linter.unusedSimpArgs false
namespace Go.Proofs.YtlkoenpdmlbhlaaGreat
open Go.RowKit Go.Shelf
def Turns (B : Nat) (X : World → Prop) : Prop := ∀ (W : World) (l : Nat) (o o' : Obj), X W → W.heap[l]? = some o → o.isCells = false → B ≤ l → X (W.putObj l o')
def Hands (n : Nat) (P : Program) (gf : Nat) (lb : Array Value) (w0 : World) (n0 : Nat) (bj : Option Nat) (N : Nat) (Ok : Nat → Value → Nat → World → Prop) : Prop :=
 ∀ (l : Nat) (J : Nat → World → Prop) (W : World), Below w0.heap.size w0 W → (∀ i W W', J i W → Below W.heap.size W W' → J i W') →
  (∀ b, bj = some b → ∀ i W x y, J i W → W.cell? ⟨b, 0, none⟩ = some (.int .i64 x) → J i (W.setCell ⟨b, 0, none⟩ (.int .i64 y))) →
  (∀ i x W0 W, i < N → J i W0 → Below W0.heap.size W0 W → J i W → Below n0 w0 W → Ok i x W0.heap.size W → YieldAt Fence.wide (n - 1) P l #[x] W fun e W' => e = .returned (.bool true) ∧ J (i + 1) W' ∧ Below w0.heap.size W W') →
  J 0 W → CallsIn Fence.wide n P gf (#[.func (.yield l) #[] #[]] ++ lb) W fun e W' => (∃ v, e = .returned v) ∧ J N W' ∧ Below n0 w0 W'
theorem Hands.weak {n : Nat} {P : Program} {gf : Nat} {lb : Array Value} {w0 : World} {n0 : Nat} {bj : Option Nat} {N : Nat} {Ok Ok' : Nat → Value → Nat → World → Prop} (h : Hands n P gf lb w0 n0 bj N Ok) (hk : ∀ i x B W, i < N → Ok i x B W → Ok' i x B W) : Hands n P gf lb w0 n0 bj N Ok' :=
 fun l J W h1 h2 h3 h4 h5 => h l J W h1 h2 h3 (fun i x W0 W hi a b c d e => h4 i x W0 W hi a b c d (hk i x _ W hi e)) h5
theorem below_put {B l : Nat} {W : World} (o : Obj) (h : B ≤ l) : Below B W (W.putObj l o) :=
 ⟨rfl, rfl, rfl, by simp, fun k hk => World.putObj_heap_other (by omega)⟩
theorem wpIn_rounds {P : Program} {n : Nat} {g : Operand} {p : Tmp} {assign body : Code} {Q : Exit → Act → World → Prop} {a : Act} {w w0 : World} (h1 : 1 ≤ n)
 {gf : Nat} {lb : Array Value} (hg : a.eval g = .func (.func gf) #[] lb) (eg : ∀ args w, (callFunc gf args).run P w = .ok (.enter gf args) w)
 {N : Nat} {Ok : Nat → Value → Nat → World → Prop} {n0 : Nat} {bj : Option Nat} (hn : n0 ≤ w0.heap.size) (hseq : Hands (n - 1) P gf lb w0 n0 bj N Ok) (hw : Below w0.heap.size w0 w)
 (I : Nat → World → Prop) (Mid : Nat → Value → Act → World → Prop) (hI : ∀ i W W', I i W → Below W.heap.size W W' → I i W') (hI3 : ∀ b, bj = some b → ∀ i W x y, I i W → W.cell? ⟨b, 0, none⟩ = some (.int .i64 x) → I i (W.setCell ⟨b, 0, none⟩ (.int .i64 y))) (hI2 : ∀ i, Turns w.heap.size (I i)) (hM2 : ∀ i x b, Turns w.heap.size (Mid i x b)) (h0 : I 0 w)
 (hassign : ∀ (l i : Nat) (x : Value) (W0 W : World), i < N → I i W0 → Below W0.heap.size W0 W → I i W → Below n0 w0 W → Ok i x W0.heap.size W →
   assign.wpIn (Fence.wide.inRound l) (n - 1 - 1) P (Exit.then (fun b W1 => KeepsOthers W W1 ∧ Below w0.heap.size W W1 ∧ Mid i x b W1) (fun _ _ _ => False)) { tmps := a.tmps.setIfInBounds p x, defers := [] } W)
 (hbody : ∀ (l i : Nat) (x : Value) (b : Act) (W : World), i < N → Below n0 w0 W → w0.heap.size ≤ W.heap.size → Mid i x b W →
   body.wpIn (Fence.wide.inRound l) (n - 1 - 1) P (fun e _ W' => e = .normal ∧ KeepsOthers W W' ∧ Below w0.heap.size W W' ∧ I (i + 1) W') b W)
 (hdone : ∀ (D : Nat) (W : World), w.heap.size ≤ D → I N W → Below n0 w0 W → W.heap[D]? = some (.deferred (some [])) → Q .normal { a with defers := { target := .collected D, args := #[] } :: a.defers } W) :
 (Code.rangeFunc g #[p] assign body).wpIn Fence.wide n P Q a w := by
 refine wpIn_rangeFunc ?_
 intro fn hfn
 obtain ⟨rec, hrec⟩ : ∃ rec : LoopState → Loop, rec = fun st => { state := st, pending := none, fn, tmps := a.tmps, params := #[p], assign, body, defers := w.heap.size } := ⟨_, rfl⟩
 obtain ⟨W1, hW1⟩ : ∃ W1, (w.alloc (.deferred (some []))).alloc (.loop (rec .ready)) = W1 := ⟨_, rfl⟩
 have hal : Below w.heap.size w W1 := by rw [← hW1]; exact ((Below.refl _ w).alloc (Nat.le_refl _) _).alloc (by simp) _
 have hL1 : W1.heap[w.heap.size + 1]? = some (.loop (rec .ready)) := by
  rw [← hW1]
  have := World.alloc_heap_new (w.alloc (.deferred (some []))) (.loop (rec .ready))
  rwa [World.size_alloc] at this
 have hD1 : W1.heap[w.heap.size]? = some (.deferred (some [])) := by
  rw [← hW1]
  exact (Below.heap_alloc _ _ _ (by simp)).trans (World.alloc_heap_new w _)
 have hst : ∀ st, (rec st).state = st := fun st => by rw [hrec]
 refine ⟨w.heap.size + 1, [{ target := .collected w.heap.size, args := #[] }], W1, { target := .fn (.func gf) lb, args := #[.func (.yield (w.heap.size + 1)) #[] #[]] }, W1, gf, #[.func (.yield (w.heap.size + 1)) #[] #[]] ++ lb, W1, ?_, ?_, ?_, ?_, fun _ => h1, ?_⟩
 · rw [← hW1, hrec]; exact run_enterLoop_outer _ _ _ _ _
 · simp only [resolve, hg]
   simp [go_sem]
 · intro f' _; trivial
 · simp [invoke, go_sem, eg]
 have two : ∀ {A B : World} {o : Obj} {k : Nat}, A.heap[k]? = some o → Below A.heap.size A B → B.heap[k]? = some o := fun h hb => (hb.block _ (Array.getElem?_eq_some_iff.1 h).1).trans h
 refine (hseq (w.heap.size + 1) (fun i W => I i W ∧ W.heap[w.heap.size + 1]? = some (.loop (rec .ready)) ∧ W.heap[w.heap.size]? = some (.deferred (some []))) W1 (below_later hw hal)
  (fun i A B h hb => ⟨hI i A B h.1 hb, two h.2.1 hb, two h.2.2 hb⟩)
  (fun b hb i A x y h hc => ⟨hI3 b hb i A x y h.1 hc, (KeepsOthers.setCell A _ _).same _ _ h.2.1 rfl, (KeepsOthers.setCell A _ _).same _ _ h.2.2 rfl⟩) ?_ ⟨hI 0 w W1 h0 hal, hL1, hD1⟩).mono ?_
 · rintro i x W0 W hi ⟨hI0, _, _⟩ hW0 ⟨hIi, hl, hd⟩ hB hok
   have hy : (Instr.yield (w.heap.size + 1) #[x]).run P W = .ok (.round (w.heap.size + 1) fn (a.tmps.setIfInBounds p x) assign body) W := by
    have h := run_yield (P := P) (args := #[x]) hl (by rw [hrec]; rfl)
    rw [hrec] at h
    simpa using h
   refine ⟨fn, _, assign, body, hy, roundIn_of_wpIn hfn ?_⟩
   refine wpIn_mono (hassign (w.heap.size + 1) i x W0 W hi hI0 hW0 hIi hB hok) ?_
   rintro e b W2 he
   cases e with
   | normal =>
     obtain ⟨hk, hb2, hm⟩ := he
     have hl2 := hk.same _ _ hl rfl
     have hd2 := hk.same _ _ hd rfl
     refine ⟨_, run_beginRound hl2 (hst _), ?_⟩
     have hsz : w.heap.size + 1 < W2.heap.size := (Array.getElem?_eq_some_iff.1 hl2).1
     have hn0 : w0.heap.size ≤ w.heap.size + 1 := Nat.le_succ_of_le hw.size
     have hbp := below_put (W := W2) (.loop { rec .ready with state := .busy }) hn0
     have hl3 : (W2.putObj (w.heap.size + 1) (.loop { rec .ready with state := .busy })).heap[w.heap.size + 1]? = some (.loop { rec .ready with state := .busy }) := World.putObj_heap_same hsz
     have hd3 : (W2.putObj (w.heap.size + 1) (.loop { rec .ready with state := .busy })).heap[w.heap.size]? = some (.deferred (some [])) := (World.putObj_heap_other (by omega)).trans hd2
     refine wpIn_mono (hbody _ i x b _ hi ((hB.trans (hb2.mono hn)).trans (hbp.mono hn)) ((hB.trans (hb2.mono hn)).trans (hbp.mono hn)).size (hM2 i x b W2 _ _ _ hm hl2 rfl (Nat.le_succ _))) ?_
     rintro e2 a3 W3 ⟨rfl, hk3, hb3, hi3⟩
     have hl4 := hk3.same _ _ hl3 rfl
     have hd4 := hk3.same _ _ hd3 rfl
     have hr := run_endRound (P := P) none hl4
     refine ⟨_, _, hr, rfl, ⟨hI2 _ W3 _ _ _ hi3 hl4 rfl (Nat.le_succ _), ?_, (World.putObj_heap_other (by omega)).trans hd4⟩, ((hb2.trans hbp).trans hb3).trans (below_put _ hn0)⟩
     rw [World.putObj_heap_same (Array.getElem?_eq_some_iff.1 hl4).1, hrec]
     rfl
   | _ => exact he.elim
 · rintro e W2 ⟨⟨v, rfl⟩, ⟨hi, hl, hd⟩, hB⟩
   have hn0 : w0.heap.size ≤ w.heap.size + 1 := Nat.le_succ_of_le hw.size
   exact ⟨none, _, by have := run_endLoop (P := P) hl (by rw [hst]; simp); rw [hrec] at this; exact this, hdone _ _ (Nat.le_refl _) (hI2 _ _ _ _ _ hi hl rfl (Nat.le_succ _)) (hB.trans ((below_put _ hn0).mono hn)) ((World.putObj_heap_other (by omega)).trans hd)⟩
end Go.Proofs.YtlkoenpdmlbhlaaGreat
set_option linter.unusedVariables false
set_option linter.unusedSimpArgs false
namespace Go.Proofs.YtlkoenpdmlbhlaaGreat
open Go.RowKit Go.Shelf
attribute [local go_sem] Oper.semAt_some
theorem cell_turn {W : World} {l : Nat} {o : Obj} (o' : Obj) {x : Addr} {v : Value} (h : W.cell? x = some v) (hl : W.heap[l]? = some o) (ho : o.isCells = false) : (W.putObj l o').cell? x = some v :=
 cell_kept h (grownBy_putObj' W l o') (fun r e => by cases e; exact ⟨o, hl, ho⟩)
theorem frozen_turn {W : World} {l : Nat} {o : Obj} (o' : Obj) {x : Addr} {v : Value} (h : W.cell? x = some v) (hl : W.heap[l]? = some o) (ho : o.isCells = false) : (W.putObj l o').frozen? x = W.frozen? x :=
 frozen_kept h (grownBy_putObj' W l o') (fun r e => by cases e; exact ⟨o, hl, ho⟩)
theorem NatAt.turn {W : World} {l : Nat} {o : Obj} (o' : Obj) {a : Option Addr} {n c : Nat} {L : List Nat} (h : NatAt W a n c L) (hl : W.heap[l]? = some o) (ho : o.isCells = false) : NatAt (W.putObj l o') a n c L :=
 ⟨h.len, h.le, h.cle, h.dig, h.cell.imp id fun ⟨b, k, e, hc⟩ => ⟨b, k, e, fun i hi => cell_turn o' (hc i hi) hl ho⟩, h.nilc⟩
theorem OwnAt.turn {W : World} {l B : Nat} {o : Obj} (o' : Obj) {a : Option Addr} {n c : Nat} {L : List Nat} (h : OwnAt W B a n c L) (hl : W.heap[l]? = some o) (ho : o.isCells = false) : OwnAt (W.putObj l o') B a n c L := by
 refine ⟨h.toNatAt.turn o' hl ho, ?_⟩
 rcases h.own with h0 | ⟨b, k, rfl, hB, hf⟩
 · exact .inl h0
 · rcases h.cell with h0 | ⟨b2, k2, e, hc⟩
   · exact .inl h0
   · injection e with e
     injection e with e1 e2
     subst e1
     subst e2
     exact .inr ⟨b, k, rfl, hB, fun i hi => (frozen_turn o' (hc i hi) hl ho).trans (hf i hi)⟩
theorem BoxAt.turn {W : World} {l b k : Nat} {o : Obj} (o' : Obj) (h : BoxAt W b k) (hl : W.heap[l]? = some o) (ho : o.isCells = false) : BoxAt (W.putObj l o') b k :=
 ⟨fun i hi => by obtain ⟨v, hv, hu⟩ := h.c i hi; exact ⟨v, cell_turn o' hv hl ho, hu⟩, fun i hi => by obtain ⟨v, hv, hu⟩ := h.c i hi; exact (frozen_turn o' hv hl ho).trans (h.f i hi)⟩
def RatBox (w : World) (B b : Nat) (q : Rat) : Prop :=
 ∃ au nu cu ad nd cd, w.cell? ⟨b, 0, none⟩ = some (.bool (neg q.num)) ∧ w.cell? ⟨b, 1, none⟩ = some (.slice au nu cu) ∧ w.cell? ⟨b, 2, none⟩ = some (.slice ad nd cd) ∧ BoxAt w b 3 ∧ b < w.heap.size ∧ OwnAt w B au nu cu (digs q.num.natAbs) ∧ OwnAt w B ad nd cd (digs q.den)
theorem RatBox.past {w w' : World} {B b : Nat} {q : Rat} (h : RatBox w B b q) (hb : Below w.heap.size w w') : RatBox w' B b q := by
 obtain ⟨au, nu, cu, ad, nd, cd, h0, h1, h2, hx, hl, hu, hd⟩ := h
 exact ⟨au, nu, cu, ad, nd, cd, (hb.cell (p := ⟨b, 0, none⟩) hl).trans h0, (hb.cell (p := ⟨b, 1, none⟩) hl).trans h1, (hb.cell (p := ⟨b, 2, none⟩) hl).trans h2, hx.past hb hl, Nat.lt_of_lt_of_le hl hb.size, hu.past hb, hd.past hb⟩
theorem RatBox.turn {W : World} {l B b : Nat} {o : Obj} (o' : Obj) {q : Rat} (h : RatBox W B b q) (hl : W.heap[l]? = some o) (ho : o.isCells = false) : RatBox (W.putObj l o') B b q := by
 obtain ⟨au, nu, cu, ad, nd, cd, h0, h1, h2, hx, hlt, hu, hd⟩ := h
 exact ⟨au, nu, cu, ad, nd, cd, cell_turn o' h0 hl ho, cell_turn o' h1 hl ho, cell_turn o' h2 hl ho, hx.turn o' hl ho, by simpa using hlt, hu.turn o' hl ho, hd.turn o' hl ho⟩
def RatOk (q : Nat → Rat) (i : Nat) (x : Value) (_ : Nat) (w : World) : Prop :=
 ∃ a1 n1 c1 a2 n2 c2, x = .agg #[.bool (neg (q i).num), .slice a1 n1 c1, .slice a2 n2 c2] ∧ NatAt w a1 n1 c1 (digs (q i).num.natAbs) ∧ NatAt w a2 n2 c2 (digs (q i).den)
def RatNew (q : Nat → Rat) (i : Nat) (x : Value) (B : Nat) (w : World) : Prop :=
 ∃ a1 n1 c1 a2 n2 c2, x = .agg #[.bool (neg (q i).num), .slice a1 n1 c1, .slice a2 n2 c2] ∧ OwnAt w B a1 n1 c1 (digs (q i).num.natAbs) ∧ OwnAt w B a2 n2 c2 (digs (q i).den)
theorem RatNew.ok {q : Nat → Rat} {i : Nat} {x : Value} {B : Nat} {w : World} : RatNew q i x B w → RatOk q i x B w := fun ⟨a1, n1, c1, a2, n2, c2, e, h1, h2⟩ => ⟨a1, n1, c1, a2, n2, c2, e, h1.toNatAt, h2.toNatAt⟩
def sumQ (p : Rat) (q : Nat → Rat) : Nat → Rat
 | 0 => p
 | i + 1 => sumQ p q i + q i
end Go.Proofs.YtlkoenpdmlbhlaaGreat
set_option linter.unusedVariables false
set_option linter.unusedSimpArgs false
namespace Go.Proofs.YtlkoenpdmlbhlaaGreat
open Go.RowKit Go.Shelf
attribute [local go_sem] Oper.semAt_some
def FoldI (B bTo bBy bR : Nat) (p : Rat) (q : Nat → Rat) (i : Nat) (W : World) : Prop :=
 RatBox W B bTo (sumQ p q i) ∧ W.cell? ⟨bBy, 0, none⟩ = some (.func (.func 56) #[] #[]) ∧ bBy < W.heap.size ∧ BoxAt W bR 3 ∧ bR < W.heap.size
theorem FoldI.past {B bTo bBy bR : Nat} {p : Rat} {q : Nat → Rat} {i : Nat} {W W' : World} (h : FoldI B bTo bBy bR p q i W) (hb : Below W.heap.size W W') : FoldI B bTo bBy bR p q i W' :=
 ⟨h.1.past hb, (hb.cell (p := ⟨bBy, 0, none⟩) h.2.2.1).trans h.2.1, Nat.lt_of_lt_of_le h.2.2.1 hb.size, h.2.2.2.1.past hb h.2.2.2.2, Nat.lt_of_lt_of_le h.2.2.2.2 hb.size⟩
theorem FoldI.off {B bTo bBy bR b : Nat} {p : Rat} {q : Nat → Rat} {i : Nat} {W : World} {x y : Int} (h : FoldI B bTo bBy bR p q i W) (hb : b < bTo ∧ b < bBy) (hc : W.cell? ⟨b, 0, none⟩ = some (.int .i64 x)) : FoldI B bTo bBy bR p q i (W.setCell ⟨b, 0, none⟩ (.int .i64 y)) := by
 obtain ⟨⟨au, nu, cu, ad, nd, cd, h0, h1, h2, hx, hl, hu, hd⟩, hby, hbl, hR, hRl⟩ := h
 have ne : ∀ {b2 : Nat} (o : Nat), b < b2 → (W.setCell ⟨b, 0, none⟩ (.int .i64 y)).cell? ⟨b2, o, none⟩ = W.cell? ⟨b2, o, none⟩ := fun o hlt => World.cell?_setCell_other _ _ _ _ (fun e => by injection e with h2; omega)
 exact ⟨⟨au, nu, cu, ad, nd, cd, (ne 0 hb.1).trans h0, (ne 1 hb.1).trans h1, (ne 2 hb.1).trans h2, hx.set _ _ (notU_i64 y), by simpa using hl, hu.offBox hc (notU_i64 x) _, hd.offBox hc (notU_i64 x) _⟩, (ne 0 hb.2).trans hby, by simpa using hbl, hR.set _ _ (notU_i64 y), by simpa using hRl⟩
theorem FoldI.turn {B bTo bBy bR : Nat} {p : Rat} {q : Nat → Rat} {i : Nat} {W : World} (h : FoldI B bTo bBy bR p q i W) {l : Nat} {o : Obj} (o' : Obj) (hl : W.heap[l]? = some o) (ho : o.isCells = false) : FoldI B bTo bBy bR p q i (W.putObj l o') :=
 ⟨h.1.turn o' hl ho, cell_turn o' h.2.1 hl ho, by simpa using h.2.2.1, h.2.2.2.1.turn o' hl ho, by simpa using h.2.2.2.2⟩
def FoldM (gf : Nat) (lb : Array Value) (p0 : Value) (B bTo bBy bR : Nat) (p : Rat) (q : Nat → Rat) (i : Nat) (x : Value) (b : Act) (W : World) : Prop :=
 ∃ bx a1 n1 c1 a2 n2 c2, b = { tmps := #[.func (.func gf) #[] lb, p0, .func (.func 56) #[] #[], undef, .pointer (some ⟨bTo, 0, none⟩), .pointer (some ⟨bBy, 0, none⟩), .pointer (some ⟨bR, 0, none⟩), .pointer (some ⟨bx, 0, none⟩), .func (.func gf) #[] lb, x, undef, undef, undef, undef, undef], defers := [] } ∧
  W.cell? ⟨bx, 0, none⟩ = some (.bool (neg (q i).num)) ∧ W.cell? ⟨bx, 1, none⟩ = some (.slice a1 n1 c1) ∧ W.cell? ⟨bx, 2, none⟩ = some (.slice a2 n2 c2) ∧ NatAt W a1 n1 c1 (digs (q i).num.natAbs) ∧ NatAt W a2 n2 c2 (digs (q i).den) ∧ FoldI B bTo bBy bR p q i W
theorem FoldM.turn {gf : Nat} {lb : Array Value} {p0 : Value} {B bTo bBy bR : Nat} {p : Rat} {q : Nat → Rat} {i : Nat} {x : Value} {b : Act} {W : World} (h : FoldM gf lb p0 B bTo bBy bR p q i x b W) {l : Nat} {o : Obj} (o' : Obj) (hl : W.heap[l]? = some o) (ho : o.isCells = false) : FoldM gf lb p0 B bTo bBy bR p q i x b (W.putObj l o') := by
 obtain ⟨bx, a1, n1, c1, a2, n2, c2, e, h0, h1, h2, g1, g2, hi⟩ := h
 exact ⟨bx, a1, n1, c1, a2, n2, c2, e, cell_turn o' h0 hl ho, cell_turn o' h1 hl ho, cell_turn o' h2 hl ho, g1.turn o' hl ho, g2.turn o' hl ho, hi.turn o' hl ho⟩
set_option maxRecDepth 100000 in
set_option maxHeartbeats 8000000 in
theorem fold_any (B gf : Nat) (lb : Array Value) (N : Nat) (p : Rat) (q : Nat → Rat) (a1 : Option Addr) (n1 c1 : Nat) (a2 : Option Addr) (n2 c2 : Nat) (w : World) (g1 : OwnAt w B a1 n1 c1 (digs p.num.natAbs)) (g2 : OwnAt w B a2 n2 c2 (digs p.den)) (hBw : B ≤ w.heap.size)
 (n0 : Nat) (bj : Option Nat) (hn0 : n0 ≤ w.heap.size) (hbj : ∀ b, bj = some b → b < w.heap.size) (hseq : Hands 2 Tryz.prog gf lb w n0 bj N (RatOk q)) (eg : ∀ args w, (callFunc gf args).run Tryz.prog w = .ok (.enter gf args) w) (hq : ∀ i, i < N → rlen (q i) ≤ 1000000) (hs : ∀ i, i ≤ N → rlen (sumQ p q i) ≤ 1000000) :
 Calls Tryz.prog 53 #[.func (.func gf) #[] lb, .agg #[.bool (neg p.num), .slice a1 n1 c1, .slice a2 n2 c2], .func (.func 56) #[] #[]] w fun e w' => ∃ a3 n3 c3 a4 n4 c4, e = .returned (.agg #[.bool (neg (sumQ p q N).num), .slice a3 n3 c3, .slice a4 n4 c4]) ∧ OwnAt w' B a3 n3 c3 (digs (sumQ p q N).num.natAbs) ∧ OwnAt w' B a4 n4 c4 (digs (sumQ p q N).den) ∧ Below n0 w w' := by
 refine (callsIn_wide (n := 3)).1 ?_
 refine callsIn_of_wp_marks Tryz.func53 rfl trivial ?_ rfl
 simp only [Tryz.ntmps53, List.size_toArray, List.length_cons, List.length_nil, Nat.reduceAdd, Nat.reduceSub, Array.replicate_succ, Array.replicate_zero, List.push_toArray, List.append_toArray, List.nil_append, List.cons_append]
 gi_wp2
 obtain ⟨w1, hW1, hz1, hb1, q1, f1⟩ := box1g w w.heap.size rfl #[.bool (neg p.num), .slice a1 n1 c1, .slice a2 n2 c2] 27
 rw [hW1]
 obtain ⟨w2, hW2, hz2, hb2, q2, f2⟩ := box1g w1 (w.heap.size + 1) (by omega) #[.func (.func 56) #[] #[]] 79
 rw [hW2]
 obtain ⟨w3, hW3, hz3, hb3, q3, f3⟩ := box1g w2 (w.heap.size + 1 + 1) (by omega) #[.bool false, .slice none 0 0, .slice none 0 0] 27
 rw [hW3]
 have hb12 := below_later hb1 hb2
 have hB := below_later hb12 hb3
 have hb23 : Below w1.heap.size w1 w3 := below_later hb2 hb3
 have x1 : BoxAt w1 w.heap.size 3 := BoxAt.of q1 f1 rfl (by simp [notU_bool, notU_slice])
 have x3 : BoxAt w3 (w.heap.size + 1 + 1) 3 := BoxAt.of q3 f3 rfl (by simp [notU_bool, notU_slice])
 have r1 : RatBox w1 B w.heap.size (sumQ p q 0) := ⟨_, _, _, _, _, _, q1 0, q1 1, q1 2, x1, by omega, g1.past hb1, g2.past hb1⟩
 have hI0 : FoldI B w.heap.size (w.heap.size + 1) (w.heap.size + 1 + 1) p q 0 w3 := ⟨r1.past hb23, (hb3.cell (p := ⟨w.heap.size + 1, 0, none⟩) (show w.heap.size + 1 < w2.heap.size by omega)).trans (q2 0), by omega, x3, by omega⟩
 clear q1 q2 q3 f1 f2 f3 x1 x3 r1 hb12 hb23 hW1 hW2 hW3 hb1 hb2 hb3
 refine wpIn_rounds (w0 := w) (by decide) rfl eg hn0 hseq hB (FoldI B w.heap.size (w.heap.size + 1) (w.heap.size + 1 + 1) p q) (FoldM gf lb (.agg #[.bool (neg p.num), .slice a1 n1 c1, .slice a2 n2 c2]) B w.heap.size (w.heap.size + 1) (w.heap.size + 1 + 1) p q)
  (fun i W W' h hb => h.past hb) (fun b hb i W x y h hc => h.off ⟨hbj b hb, Nat.lt_succ_of_lt (hbj b hb)⟩ hc) (fun i W l o o' h hl ho _ => h.turn o' hl ho) (fun i x b W l o o' h hl ho _ => h.turn o' hl ho) hI0 ?_ ?_ ?_
 · rintro l i x W0 W hi hI0 hW0 hI hBW ⟨a3, n3, c3, a4, n4, c4, rfl, h3, h4⟩
   have hal : Below W.heap.size W (W.alloc (.cells #[.bool (neg (q i).num), .slice a3 n3 c3, .slice a4 n4 c4] 27)) := (Below.refl _ _).alloc (Nat.le_refl _) _
   have y0 : (W.alloc (.cells #[.bool (neg (q i).num), .slice a3 n3 c3, .slice a4 n4 c4] 27)).cell? ⟨W.heap.size, 0, none⟩ = some (.bool (neg (q i).num)) := by rw [World.cell?_alloc_at _ _ _ _ rfl]; rfl
   have y1 : (W.alloc (.cells #[.bool (neg (q i).num), .slice a3 n3 c3, .slice a4 n4 c4] 27)).cell? ⟨W.heap.size, 1, none⟩ = some (.slice a3 n3 c3) := by rw [World.cell?_alloc_at _ _ _ _ rfl]; rfl
   have y2 : (W.alloc (.cells #[.bool (neg (q i).num), .slice a3 n3 c3, .slice a4 n4 c4] 27)).cell? ⟨W.heap.size, 2, none⟩ = some (.slice a4 n4 c4) := by rw [World.cell?_alloc_at _ _ _ _ rfl]; rfl
   have hM : FoldM gf lb (.agg #[.bool (neg p.num), .slice a1 n1 c1, .slice a2 n2 c2]) B w.heap.size (w.heap.size + 1) (w.heap.size + 1 + 1) p q i (.agg #[.bool (neg (q i).num), .slice a3 n3 c3, .slice a4 n4 c4]) _ _ := ⟨W.heap.size, a3, n3, c3, a4, n4, c4, rfl, y0, y1, y2, h3.past hal, h4.past hal, hI.past hal⟩
   have hall := And.intro (KeepsOthers.alloc W (.cells #[.bool (neg (q i).num), .slice a3 n3 c3, .slice a4 n4 c4] 27)) (And.intro (hal.mono hBW.size) hM)
   clear y0 y1 y2 hM
   gi_wp2
   exact hall
 · rintro l i x b W hi hBW0 hWs ⟨bx, a3, n3, c3, a4, n4, c4, rfl, h0, h1, h2, h3, h4, hI⟩
   obtain ⟨⟨au, nu, cu, ad, nd, cd, t0, t1, t2, hx, hlt, hu, hd⟩, hby, hbyl, hxR, hRl⟩ := hI
   have hS := hs i (by omega)
   have hQ := hq i hi
   have hSS := hs (i + 1) (by omega)
   have hsum : sumQ p q (i + 1) = sumQ p q i + q i := rfl
   obtain ⟨S, hSe⟩ : ∃ S, sumQ p q i = S := ⟨_, rfl⟩
   obtain ⟨X, hXe⟩ : ∃ X, q i = X := ⟨_, rfl⟩
   obtain ⟨Z, hZe⟩ : ∃ Z, sumQ p q (i + 1) = Z := ⟨_, rfl⟩
   rw [hSe] at hS t0 hu hd hsum
   rw [hXe] at hQ h0 h3 h4 hsum
   rw [hZe] at hsum
   have HPL := Lib.hid (plus_any S X _ _ _ _ _ _ _ _ _ _ _ _ W hu.toNatAt hd.toNatAt h3 h4 (by omega) (by omega))
   have HZ := Lib.hid hZe
   have HSUM := Lib.hid hsum.symm
   clear hS hQ hSS hsum hSe hXe hZe
   gi_wp2_with (refine ⟨trivial, ?_⟩; gi_at_call 56; refine (CallsIn.inRound l (callsIn_wide.2 HPL.out)).mono ?_; rintro e W2 ⟨a5, n5, c5, a6, n6, c6, rfl, u5, u6, hb⟩; rw [HSUM.out] at u5 u6 ⊢; have t0 := (hb.cell (p := ⟨w.heap.size, 0, none⟩) hlt).trans t0; have t1 := (hb.cell (p := ⟨w.heap.size, 1, none⟩) hlt).trans t1; have t2 := (hb.cell (p := ⟨w.heap.size, 2, none⟩) hlt).trans t2; have hx := hx.past hb hlt; have hlt2 := Nat.lt_of_lt_of_le hlt hb.size; have zf0 := hx.f 0 (by decide); have zf1 := hx.f 1 (by decide); have zf2 := hx.f 2 (by decide))
   obtain ⟨W3, hW3, hO, qN0, qN1, qN2, xN⟩ := store3 hx (.bool (neg Z.num)) (.slice a5 n5 c5) (.slice a6 n6 c6) (Go.Proofs.YtlkoenpdmlbhlaaGreat.nu rfl) (Go.Proofs.YtlkoenpdmlbhlaaGreat.nu rfl) (Go.Proofs.YtlkoenpdmlbhlaaGreat.nu rfl)
   have hkW2 : KeepsOthers W W2 := ⟨hb.size, fun k o h _ => (hb.block k (Array.getElem?_eq_some_iff.1 h).1).trans h⟩
   have hk3 : KeepsOthers W2 W3 := by rw [← hW3]; exact ((KeepsOthers.setCell _ _ _).trans (KeepsOthers.setCell _ _ _)).trans (KeepsOthers.setCell _ _ _)
   have hBl : B ≤ W.heap.size := Nat.le_trans hBw hWs
   try rw [hW3]
   exact ⟨hkW2.trans hk3, hO.below (Nat.le_refl _) (hb.mono hWs), ⟨a5, n5, c5, a6, n6, c6, by rw [HZ.out]; exact qN0, qN1, qN2, xN, by rw [hO.size]; exact hlt2, by rw [HZ.out]; exact hO.own (u5.mono hBl), by rw [HZ.out]; exact hO.own (u6.mono hBl)⟩, (hO.cell (b2 := w.heap.size + 1) (k := 0) (by omega)).trans ((hb.cell (p := ⟨w.heap.size + 1, 0, none⟩) hbyl).trans hby), by rw [hO.size]; exact Nat.lt_of_lt_of_le hbyl hb.size, hO.box (hxR.past hb hRl), by rw [hO.size]; exact Nat.lt_of_lt_of_le hRl hb.size⟩
 · intro D W hD hI hBW hdef
   obtain ⟨⟨au, nu, cu, ad, nd, cd, t0, t1, t2, hx, hlt, hu, hd⟩, hby, hbyl, hxR, hRl⟩ := hI
   obtain ⟨v0, v1, v2, z0, z1, z2, z3, z4, z5, _, _, _⟩ := hxR.three
   gi_wp2
   obtain ⟨W3, hW3, hO, qN0, qN1, qN2, xN⟩ := store3 hxR (.bool (neg (sumQ p q N).num)) (.slice au nu cu) (.slice ad nd cd) (Go.Proofs.YtlkoenpdmlbhlaaGreat.nu rfl) (Go.Proofs.YtlkoenpdmlbhlaaGreat.nu rfl) (Go.Proofs.YtlkoenpdmlbhlaaGreat.nu rfl)
   have hk3 : KeepsOthers W W3 := by rw [← hW3]; exact ((KeepsOthers.setCell _ _ _).trans (KeepsOthers.setCell _ _ _)).trans (KeepsOthers.setCell _ _ _)
   have hdef3 := hk3.same _ _ hdef rfl
   try rw [hW3]
   have r0 := cell_turn (.deferred none) qN0 hdef3 rfl
   have r1 := cell_turn (.deferred none) qN1 hdef3 rfl
   have r2 := cell_turn (.deferred none) qN2 hdef3 rfl
   have hB3 := (hO.below (by omega) hBW).trans (below_put (.deferred none) (show n0 ≤ D by omega))
   have u3 := (hO.own hu).turn (.deferred none) hdef3 rfl
   have u4 := (hO.own hd).turn (.deferred none) hdef3 rfl
   refine ⟨by simp, .inl ⟨_, _, rfl, run_takeDeferred hdef3, ?_⟩⟩
   refine ⟨.agg #[.bool (neg (sumQ p q N).num), .slice au nu cu, .slice ad nd cd], ?_, ?_⟩
   · simp [results, Tryz.f53, go_sem, r0, r1, r2]
   · exact ⟨_, _, _, _, _, _, rfl, u3, u4, hB3⟩
end Go.Proofs.YtlkoenpdmlbhlaaGreat
