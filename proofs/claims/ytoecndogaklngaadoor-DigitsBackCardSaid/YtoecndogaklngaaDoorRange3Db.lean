import Derived.RangeFuncNested
import Derived.RangeFuncBound
import Derived.RangeFuncCalls
import Derived.RangeFuncLeaves
import Derived.Shelf.Abstract
import Derived.Shelf.RegionOpen
import Derived.WalkKit
import Derived.OwnWalkIn
import Derived.TacticsInMore
import Derived.LoopNIn
import Derived.LoopIn
import Derived.Test.YtoecndogaklngaaDoorS0Db
import Derived.Test.YtoecndogaklngaaDoorNumDb
set_option linter.unusedVariables false
set_option linter.unusedSimpArgs false
namespace Go.Proofs.YtoecndogaklngaaDoor
open Go.RowKit Go.Shelf
def HandsF (n : Nat) (P : Program) (gf : Nat) (lb : Array Value) (N : Nat) (Ok : Nat → Array Value → World → Prop) (Fix : World → Prop) : Prop :=
 ∀ (l : Nat) (J : Nat → World → Prop) (W : World), (∀ i W W', J i W → Below W.heap.size W W' → J i W') → Fix W →
  (∀ i x W, i < N → J i W → Fix W → Ok i x W → YieldAt Fence.wide (n - 1) P l x W fun e W' => e = .returned (.bool true) ∧ J (i + 1) W' ∧ Fix W') →
  J 0 W → CallsIn Fence.wide n P gf (#[.func (.yield l) #[] #[]] ++ lb) W fun e W' => (∃ v, e = .returned v) ∧ J N W' ∧ Fix W'
theorem wpIn_roundsF {P : Program} {n : Nat} {g : Operand} {p : Array Tmp} {assign body : Code} {Q : Exit → Act → World → Prop} {a : Act} {w : World} (h1 : 1 ≤ n)
 {gf : Nat} {lb : Array Value} (hg : a.eval g = .func (.func gf) #[] lb) (eg : ∀ args w, (callFunc gf args).run P w = .ok (.enter gf args) w)
 {N : Nat} {Ok : Nat → Array Value → World → Prop} {Fix : World → Prop} (hps : ∀ i x W, Ok i x W → x.size = p.size) (hseq : HandsF (n - 1) P gf lb N Ok Fix)
 (hF : ∀ W W', Fix W → Below W.heap.size W W' → Fix W') (hF2 : Turns w.heap.size Fix) (hF0 : Fix w)
 (I : Nat → World → Prop) (Mid : Nat → Array Value → Act → World → Prop) (hI : ∀ i W W', I i W → Below W.heap.size W W' → I i W') (hI2 : ∀ i, Turns w.heap.size (I i)) (hM2 : ∀ i x b, Turns w.heap.size (Mid i x b)) (h0 : I 0 w)
 (hassign : ∀ (l i : Nat) (x : Array Value) (W : World), i < N → I i W → Fix W → Ok i x W →
   assign.wpIn (Fence.wide.inRound l) (n - 1 - 1) P (Exit.then (fun b W1 => KeepsOthers W W1 ∧ Fix W1 ∧ Mid i x b W1) (fun _ _ _ => False)) { tmps := (p.zip x).foldl (fun t (k, v) => t.setIfInBounds k v) a.tmps, defers := [] } W)
 (hbody : ∀ (l i : Nat) (x : Array Value) (b : Act) (W : World), i < N → Fix W → Mid i x b W →
   body.wpIn (Fence.wide.inRound l) (n - 1 - 1) P (fun e _ W' => e = .normal ∧ KeepsOthers W W' ∧ Fix W' ∧ I (i + 1) W') b W)
 (hdone : ∀ (D : Nat) (W : World), w.heap.size ≤ D → I N W → Fix W → W.heap[D]? = some (.deferred (some [])) → Q .normal { a with defers := { target := .collected D, args := #[] } :: a.defers } W) :
 (Code.rangeFunc g p assign body).wpIn Fence.wide n P Q a w := by
 refine wpIn_rangeFunc ?_
 intro fn hfn
 obtain ⟨rec, hrec⟩ : ∃ rec : LoopState → Loop, rec = fun st => { state := st, pending := none, fn, tmps := a.tmps, params := p, assign, body, defers := w.heap.size } := ⟨_, rfl⟩
 obtain ⟨W1, hW1⟩ : ∃ W1, (w.alloc (.deferred (some []))).alloc (.loop (rec .ready)) = W1 := ⟨_, rfl⟩
 have hal : Below w.heap.size w W1 := by rw [← hW1]; exact ((Below.refl _ w).alloc (Nat.le_refl _) _).alloc (by simp) _
 have hL1 : W1.heap[w.heap.size + 1]? = some (.loop (rec .ready)) := by
  rw [← hW1]
  have := World.alloc_heap_new (w.alloc (.deferred (some []))) (.loop (rec .ready))
  rwa [World.size_alloc] at this
 have hD1 : W1.heap[w.heap.size]? = some (.deferred (some [])) := by
  rw [← hW1]
  exact (Below.heap_alloc _ _ _ (by simp)).trans (World.alloc_heap_new w _)
 have hst : ∀ st, (rec st).state = st := fun st => by rw [hrec]
 refine ⟨w.heap.size + 1, [{ target := .collected w.heap.size, args := #[] }], W1, { target := .fn (.func gf) lb, args := #[.func (.yield (w.heap.size + 1)) #[] #[]] }, W1, gf, #[.func (.yield (w.heap.size + 1)) #[] #[]] ++ lb, W1, ?_, ?_, ?_, ?_, fun _ => h1, ?_⟩
 · rw [← hW1, hrec]; exact run_enterLoop_outer _ _ _ _ _
 · simp only [resolve, hg]
   simp [go_sem]
 · intro f' _; trivial
 · simp [invoke, go_sem, eg]
 have two : ∀ {A B : World} {o : Obj} {k : Nat}, A.heap[k]? = some o → Below A.heap.size A B → B.heap[k]? = some o := fun h hb => (hb.block _ (Array.getElem?_eq_some_iff.1 h).1).trans h
 refine (hseq (w.heap.size + 1) (fun i W => I i W ∧ W.heap[w.heap.size + 1]? = some (.loop (rec .ready)) ∧ W.heap[w.heap.size]? = some (.deferred (some []))) W1
  (fun i A B h hb => ⟨hI i A B h.1 hb, two h.2.1 hb, two h.2.2 hb⟩) (hF _ _ hF0 hal) ?_ ⟨hI 0 w W1 h0 hal, hL1, hD1⟩).mono ?_
 · rintro i x W hi ⟨hIi, hl, hd⟩ hfix hok
   have hy : (Instr.yield (w.heap.size + 1) x).run P W = .ok (.round (w.heap.size + 1) fn ((p.zip x).foldl (fun t (k, v) => t.setIfInBounds k v) a.tmps) assign body) W := by
    have h := run_yield (P := P) (args := x) hl (by rw [hrec]; exact hps _ _ _ hok)
    rw [hrec] at h
    exact h
   refine ⟨fn, _, assign, body, hy, roundIn_of_wpIn hfn ?_⟩
   refine wpIn_mono (hassign (w.heap.size + 1) i x W hi hIi hfix hok) ?_
   rintro e b W2 he
   cases e with
   | normal =>
     obtain ⟨hk, hf2, hm⟩ := he
     have hl2 := hk.same _ _ hl rfl
     have hd2 := hk.same _ _ hd rfl
     refine ⟨_, run_beginRound hl2 (hst _), ?_⟩
     have hsz : w.heap.size + 1 < W2.heap.size := (Array.getElem?_eq_some_iff.1 hl2).1
     have hl3 : (W2.putObj (w.heap.size + 1) (.loop { rec .ready with state := .busy })).heap[w.heap.size + 1]? = some (.loop { rec .ready with state := .busy }) := World.putObj_heap_same hsz
     have hd3 : (W2.putObj (w.heap.size + 1) (.loop { rec .ready with state := .busy })).heap[w.heap.size]? = some (.deferred (some [])) := (World.putObj_heap_other (by omega)).trans hd2
     refine wpIn_mono (hbody _ i x b _ hi (hF2 W2 _ _ _ hf2 hl2 rfl (Nat.le_succ _)) (hM2 i x b W2 _ _ _ hm hl2 rfl (Nat.le_succ _))) ?_
     rintro e2 a3 W3 ⟨rfl, hk3, hf3, hi3⟩
     have hl4 := hk3.same _ _ hl3 rfl
     have hd4 := hk3.same _ _ hd3 rfl
     have hr := run_endRound (P := P) none hl4
     refine ⟨_, _, hr, rfl, ⟨hI2 _ W3 _ _ _ hi3 hl4 rfl (Nat.le_succ _), ?_, (World.putObj_heap_other (by omega)).trans hd4⟩, hF2 W3 _ _ _ hf3 hl4 rfl (Nat.le_succ _)⟩
     rw [World.putObj_heap_same (Array.getElem?_eq_some_iff.1 hl4).1, hrec]
     rfl
   | _ => exact he.elim
 · rintro e W2 ⟨⟨v, rfl⟩, ⟨hi, hl, hd⟩, hf⟩
   exact ⟨none, _, by have := run_endLoop (P := P) hl (by rw [hst]; simp); rw [hrec] at this; exact this, hdone _ _ (Nat.le_refl _) (hI2 _ _ _ _ _ hi hl rfl (Nat.le_succ _)) (hF2 _ _ _ _ hf hl rfl (Nat.le_succ _)) ((World.putObj_heap_other (by omega)).trans hd)⟩
end Go.Proofs.YtoecndogaklngaaDoor
