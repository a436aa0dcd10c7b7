/- a range over a function whose rounds are handed memory: rounds told by their number. No program. -/
import Derived.Test.YtlkoenpdmlbhlaaA1
import Derived.RangeFuncNested
import Derived.RangeFuncBound
import Derived.RangeFuncCalls
import Derived.RangeFuncLeaves
import Derived.Shelf.Abstract
import Derived.Shelf.RegionOpen
import Derived.WalkKit
import Derived.OwnWalkIn
import Derived.TacticsInMore
import Derived.LoopNIn
import Derived.LoopIn
set_option linter.unusedVariables false
set_option linter.unusedSimpArgs false
namespace Go.Proofs.Ytlkoenpdmlbhlaa
open Go.RowKit Go.Shelf

/-- what holds of worlds and lives through a turn of a block that is no cells -/
def Turns (B : Nat) (X : World → Prop) : Prop := ∀ (W : World) (l : Nat) (o o' : Obj), X W → W.heap[l]? = some o → o.isCells = false → B ≤ l → X (W.putObj l o')
/-- what an iterator owes that hands on N values, each with what Ok tells of it -/
def Hands (n : Nat) (P : Program) (gf : Nat) (lb : Array Value) (w0 : World) (n0 : Nat) (bj : Option Nat) (N : Nat) (Ok : Nat → Value → Nat → World → Prop) : Prop :=
  ∀ (l : Nat) (J : Nat → World → Prop) (W : World), Below w0.heap.size w0 W → (∀ i W W', J i W → Below W.heap.size W W' → J i W') →
    (∀ b, bj = some b → ∀ i W x y, J i W → W.cell? ⟨b, 0, none⟩ = some (.int .i64 x) → J i (W.setCell ⟨b, 0, none⟩ (.int .i64 y))) →
    (∀ i x W0 W, i < N → J i W0 → Below W0.heap.size W0 W → J i W → Below n0 w0 W → Ok i x W0.heap.size W → YieldAt Fence.wide (n - 1) P l #[x] W fun e W' => e = .returned (.bool true) ∧ J (i + 1) W' ∧ Below w0.heap.size W W') →
    J 0 W → CallsIn Fence.wide n P gf (#[.func (.yield l) #[] #[]] ++ lb) W fun e W' => (∃ v, e = .returned v) ∧ J N W' ∧ Below n0 w0 W'
theorem Hands.weak {n : Nat} {P : Program} {gf : Nat} {lb : Array Value} {w0 : World} {n0 : Nat} {bj : Option Nat} {N : Nat} {Ok Ok' : Nat → Value → Nat → World → Prop} (h : Hands n P gf lb w0 n0 bj N Ok) (hk : ∀ i x B W, i < N → Ok i x B W → Ok' i x B W) : Hands n P gf lb w0 n0 bj N Ok' :=
  fun l J W h1 h2 h3 h4 h5 => h l J W h1 h2 h3 (fun i x W0 W hi a b c d e => h4 i x W0 W hi a b c d (hk i x _ W hi e)) h5
theorem below_put {B l : Nat} {W : World} (o : Obj) (h : B ≤ l) : Below B W (W.putObj l o) :=
  ⟨rfl, rfl, rfl, by simp, fun k hk => World.putObj_heap_other (by omega)⟩
theorem wpIn_rounds {P : Program} {n : Nat} {g : Operand} {p : Tmp} {assign body : Code} {Q : Exit → Act → World → Prop} {a : Act} {w w0 : World} (h1 : 1 ≤ n)
    {gf : Nat} {lb : Array Value} (hg : a.eval g = .func (.func gf) #[] lb) (eg : ∀ args w, (callFunc gf args).run P w = .ok (.enter gf args) w)
    {N : Nat} {Ok : Nat → Value → Nat → World → Prop} {n0 : Nat} {bj : Option Nat} (hn : n0 ≤ w0.heap.size) (hseq : Hands (n - 1) P gf lb w0 n0 bj N Ok) (hw : Below w0.heap.size w0 w)
    (I : Nat → World → Prop) (Mid : Nat → Value → Act → World → Prop) (hI : ∀ i W W', I i W → Below W.heap.size W W' → I i W') (hI3 : ∀ b, bj = some b → ∀ i W x y, I i W → W.cell? ⟨b, 0, none⟩ = some (.int .i64 x) → I i (W.setCell ⟨b, 0, none⟩ (.int .i64 y))) (hI2 : ∀ i, Turns w.heap.size (I i)) (hM2 : ∀ i x b, Turns w.heap.size (Mid i x b)) (h0 : I 0 w)
    (hassign : ∀ (l i : Nat) (x : Value) (W0 W : World), i < N → I i W0 → Below W0.heap.size W0 W → I i W → Below n0 w0 W → Ok i x W0.heap.size W →
      assign.wpIn (Fence.wide.inRound l) (n - 1 - 1) P (Exit.then (fun b W1 => KeepsOthers W W1 ∧ Below w0.heap.size W W1 ∧ Mid i x b W1) (fun _ _ _ => False)) { tmps := a.tmps.setIfInBounds p x, defers := [] } W)
    (hbody : ∀ (l i : Nat) (x : Value) (b : Act) (W : World), i < N → Below n0 w0 W → w0.heap.size ≤ W.heap.size → Mid i x b W →
      body.wpIn (Fence.wide.inRound l) (n - 1 - 1) P (fun e _ W' => e = .normal ∧ KeepsOthers W W' ∧ Below w0.heap.size W W' ∧ I (i + 1) W') b W)
    (hdone : ∀ (D : Nat) (W : World), w.heap.size ≤ D → I N W → Below n0 w0 W → W.heap[D]? = some (.deferred (some [])) → Q .normal { a with defers := { target := .collected D, args := #[] } :: a.defers } W) :
    (Code.rangeFunc g #[p] assign body).wpIn Fence.wide n P Q a w := by
  refine wpIn_rangeFunc ?_
  intro fn hfn
  obtain ⟨rec, hrec⟩ : ∃ rec : LoopState → Loop, rec = fun st => { state := st, pending := none, fn, tmps := a.tmps, params := #[p], assign, body, defers := w.heap.size } := ⟨_, rfl⟩
  obtain ⟨W1, hW1⟩ : ∃ W1, (w.alloc (.deferred (some []))).alloc (.loop (rec .ready)) = W1 := ⟨_, rfl⟩
  have hal : Below w.heap.size w W1 := by rw [← hW1]; exact ((Below.refl _ w).alloc (Nat.le_refl _) _).alloc (by simp) _
  have hL1 : W1.heap[w.heap.size + 1]? = some (.loop (rec .ready)) := by
    rw [← hW1]
    have := World.alloc_heap_new (w.alloc (.deferred (some []))) (.loop (rec .ready))
    rwa [World.size_alloc] at this
  have hD1 : W1.heap[w.heap.size]? = some (.deferred (some [])) := by
    rw [← hW1]
    exact (Below.heap_alloc _ _ _ (by simp)).trans (World.alloc_heap_new w _)
  have hst : ∀ st, (rec st).state = st := fun st => by rw [hrec]
  refine ⟨w.heap.size + 1, [{ target := .collected w.heap.size, args := #[] }], W1, { target := .fn (.func gf) lb, args := #[.func (.yield (w.heap.size + 1)) #[] #[]] }, W1, gf, #[.func (.yield (w.heap.size + 1)) #[] #[]] ++ lb, W1, ?_, ?_, ?_, ?_, fun _ => h1, ?_⟩
  · rw [← hW1, hrec]; exact run_enterLoop_outer _ _ _ _ _
  · simp only [resolve, hg]
    simp [go_sem]
  · intro f' _; trivial
  · simp [invoke, go_sem, eg]
  have two : ∀ {A B : World} {o : Obj} {k : Nat}, A.heap[k]? = some o → Below A.heap.size A B → B.heap[k]? = some o := fun h hb => (hb.block _ (Array.getElem?_eq_some_iff.1 h).1).trans h
  refine (hseq (w.heap.size + 1) (fun i W => I i W ∧ W.heap[w.heap.size + 1]? = some (.loop (rec .ready)) ∧ W.heap[w.heap.size]? = some (.deferred (some []))) W1 (below_later hw hal)
    (fun i A B h hb => ⟨hI i A B h.1 hb, two h.2.1 hb, two h.2.2 hb⟩)
    (fun b hb i A x y h hc => ⟨hI3 b hb i A x y h.1 hc, (KeepsOthers.setCell A _ _).same _ _ h.2.1 rfl, (KeepsOthers.setCell A _ _).same _ _ h.2.2 rfl⟩) ?_ ⟨hI 0 w W1 h0 hal, hL1, hD1⟩).mono ?_
  · rintro i x W0 W hi ⟨hI0, _, _⟩ hW0 ⟨hIi, hl, hd⟩ hB hok
    have hy : (Instr.yield (w.heap.size + 1) #[x]).run P W = .ok (.round (w.heap.size + 1) fn (a.tmps.setIfInBounds p x) assign body) W := by
      have h := run_yield (P := P) (args := #[x]) hl (by rw [hrec]; rfl)
      rw [hrec] at h
      simpa using h
    refine ⟨fn, _, assign, body, hy, roundIn_of_wpIn hfn ?_⟩
    refine wpIn_mono (hassign (w.heap.size + 1) i x W0 W hi hI0 hW0 hIi hB hok) ?_
    rintro e b W2 he
    cases e with
    | normal =>
      obtain ⟨hk, hb2, hm⟩ := he
      have hl2 := hk.same _ _ hl rfl
      have hd2 := hk.same _ _ hd rfl
      refine ⟨_, run_beginRound hl2 (hst _), ?_⟩
      have hsz : w.heap.size + 1 < W2.heap.size := (Array.getElem?_eq_some_iff.1 hl2).1
      have hn0 : w0.heap.size ≤ w.heap.size + 1 := Nat.le_succ_of_le hw.size
      have hbp := below_put (W := W2) (.loop { rec .ready with state := .busy }) hn0
      have hl3 : (W2.putObj (w.heap.size + 1) (.loop { rec .ready with state := .busy })).heap[w.heap.size + 1]? = some (.loop { rec .ready with state := .busy }) := World.putObj_heap_same hsz
      have hd3 : (W2.putObj (w.heap.size + 1) (.loop { rec .ready with state := .busy })).heap[w.heap.size]? = some (.deferred (some [])) := (World.putObj_heap_other (by omega)).trans hd2
      refine wpIn_mono (hbody _ i x b _ hi ((hB.trans (hb2.mono hn)).trans (hbp.mono hn)) ((hB.trans (hb2.mono hn)).trans (hbp.mono hn)).size (hM2 i x b W2 _ _ _ hm hl2 rfl (Nat.le_succ _))) ?_
      rintro e2 a3 W3 ⟨rfl, hk3, hb3, hi3⟩
      have hl4 := hk3.same _ _ hl3 rfl
      have hd4 := hk3.same _ _ hd3 rfl
      have hr := run_endRound (P := P) none hl4
      refine ⟨_, _, hr, rfl, ⟨hI2 _ W3 _ _ _ hi3 hl4 rfl (Nat.le_succ _), ?_, (World.putObj_heap_other (by omega)).trans hd4⟩, ((hb2.trans hbp).trans hb3).trans (below_put _ hn0)⟩
      rw [World.putObj_heap_same (Array.getElem?_eq_some_iff.1 hl4).1, hrec]
      rfl
    | _ => exact he.elim
  · rintro e W2 ⟨⟨v, rfl⟩, ⟨hi, hl, hd⟩, hB⟩
    have hn0 : w0.heap.size ≤ w.heap.size + 1 := Nat.le_succ_of_le hw.size
    exact ⟨none, _, by have := run_endLoop (P := P) hl (by rw [hst]; simp); rw [hrec] at this; exact this, hdone _ _ (Nat.le_refl _) (hI2 _ _ _ _ _ hi hl rfl (Nat.le_succ _)) (hB.trans ((below_put _ hn0).mono hn)) ((World.putObj_heap_other (by omega)).trans hd)⟩

end Go.Proofs.Ytlkoenpdmlbhlaa
