/- a number that is written over: which block turns. -/
import Derived.Test.YtdjhgalaianifaaNats2
import Derived.Test.YtdjhgalaianifaaKit1
set_option linter.unusedVariables false
set_option linter.unusedSimpArgs false
namespace Go.Proofs.Ytdjhgalaianifaa
open Go.RowKit

set_option maxRecDepth 100000 in
theorem overNat_turned (B b1 : Nat) (a : Option Addr) (n c : Nat) (w : World) (h : WritAt w B a n c) (hb1 : n = 0 ∨ ∀ x, a = some x → x.block = b1) :
    Calls Try.prog 21 #[.slice a n c] w fun e w' => e = .returned (.tuple #[]) ∧ Below B w w' ∧ Digital w w' ∧ Turned b1 w w' ∧ (n = 0 → Below w.heap.size w w') := by
  have hl := h.cle
  have hl' := h.le
  go_enter Try.func21, Try.ntmps21
  go_wp2
  by_cases hn : n = 0
  · subst hn
    refine wp_loop_rounds 1 ?_
    rw [rounds_succ]
    go_wp2
    go_end0
    exact ⟨rfl, Below.refl _ _, Digital.refl _, Turned.refl _ _, by first | exact Below.refl _ _ | exact fun _ => Below.refl _ _⟩
  rcases h.cell with h' | ⟨b, o, rfl, hB, f, hc, hf⟩
  · omega
  obtain rfl : b = b1 := by
    rcases hb1 with h' | h'
    · omega
    · exact h' _ rfl
  clear hb1
  go_loopw [2] (fun i wr => ∃ (k : Nat), k ≤ n ∧ i = .int .i64 ((k : Nat) : Int) ∧ Below B w wr ∧ Digital w wr ∧ Turned b w wr) (fun i _ => n - (intOf i).toNat)
  case atStart => exact ⟨0, Nat.zero_le _, rfl, Below.refl _ _, Digital.refl _, Turned.refl _ _⟩
  case round =>
    obtain ⟨k, hk, rfl, hb, hg, ht⟩ := hrel
    by_cases hlt : k < n
    · obtain ⟨v, c1⟩ := hg.1 _ _ (hc k hlt)
      have f1 : wr.frozen? ⟨b, o + k, none⟩ = false := by rw [hg.2.1]; exact hf k hlt
      clear hc hf
      go_wp2
      go_roundw
      case rel => exact ⟨k + 1, by omega, by go_num, hb.setCell (p := ⟨b, o + k, none⟩) hB _, Touched.set hg _ _ c1, ht.set _⟩
      case measure => simp [intOf]; omega
    · clear hc hf
      go_wp2
      go_end0
      exact ⟨rfl, hb, hg, ht, fun h0 => absurd h0 hn⟩

/-- the block of a slice, if it has one -/
def blockOf (a : Option Addr) : Nat := match a with
  | some x => x.block
  | none => 0
theorem blockOf_is {a : Option Addr} {n : Nat} : n = 0 ∨ ∀ x, a = some x → x.block = blockOf a := .inr fun x hx => by rw [hx]; rfl
theorem Nats.other {w w' : World} {B g cap n b : Nat} {f : Nat → List Nat} (h : Nats w B g cap n f) (ht : Turned b w w') (hb : b < B) : Nats w' B g cap n f := by
  obtain ⟨vs, h1, h2⟩ := h.ex
  have hg := (h1.lt g rfl).1
  refine ⟨vs, h1.kept ht (.inr (by simp only [Value.ownBlock, ne_eq, Option.some.injEq]; omega)), fun i hi => ?_⟩
  obtain ⟨a, m, c, e, ho, hn⟩ := h2 i hi
  exact ⟨a, m, c, e, ho.other ht (ho.apart hb), hn⟩

/-- from index x on a row reads as it should; what is before it may have been written over; the digits lie in blocks from B to U -/
structure Rest (w : World) (B U g n x : Nat) (f : Nat → List Nat) : Prop where
  at_ : ∀ t, t < n → ∃ a m c, w.cell? ⟨g, t, none⟩ = some (.slice a m c) ∧ (m = 0 ∨ ∀ y, a = some y → B ≤ y.block ∧ y.block < U) ∧ (x ≤ t → OwnAt w B a m c (f t))
theorem Nats.rest {w : World} {B g cap n : Nat} {f : Nat → List Nat} (h : Nats w B g cap n f) : Rest w B w.heap.size g n 0 f := ⟨fun t ht => by
  obtain ⟨a, m, c, hc, ho, hn⟩ := h.get ht
  refine ⟨a, m, c, hc, ?_, fun _ => ho⟩
  rcases ho.own with z | ⟨b, o, rfl, hb, _⟩
  · exact .inl z
  · rcases ho.ltBlock with z | hn
    · exact .inl z
    · exact .inr fun y hy => by cases hy; exact ⟨hb, hn _ rfl⟩⟩
theorem Rest.past {w w' : World} {B U g n x : Nat} {f : Nat → List Nat} (h : Rest w B U g n x f) (hb : Below w.heap.size w w') : Rest w' B U g n x f := ⟨fun t ht => by
  obtain ⟨a, m, c, hc, hn, ho⟩ := h.at_ t ht
  exact ⟨a, m, c, (hb.cell (p := ⟨g, t, none⟩) (World.block_lt_of_cell? w _ hc)).trans hc, hn, fun hx => (ho hx).past hb⟩⟩
theorem ApartAt.past {w w' : World} {B U g n x : Nat} {f : Nat → List Nat} (h : ApartAt w g n) (hr : Rest w B U g n x f) (hb : Below w.heap.size w w') : ApartAt w' g n := h.same fun s hs => by
  obtain ⟨a, m, c, hc, _⟩ := hr.at_ s hs
  exact hb.cell (p := ⟨g, s, none⟩) (World.block_lt_of_cell? w _ hc)
/-- the number at x is written over -/
theorem Rest.over {w w' : World} {B U g n x : Nat} {f : Nat → List Nat} (h : Rest w B U g n x f) (hap : ApartAt w g n) (hx : x < n) {a : Option Addr} {m c : Nat} (hc : w.cell? ⟨g, x, none⟩ = some (.slice a m c)) (hox : OwnAt w B a m c (f x)) (hd : Digital w w') (ht : Turned (blockOf a) w w') (hs : m = 0 → Below w.heap.size w w') :
    Rest w' B U g n (x + 1) f ∧ ApartAt w' g n := by
  have hcell : ∀ t, t < n → w'.cell? ⟨g, t, none⟩ = w.cell? ⟨g, t, none⟩ := fun t htn => by
    obtain ⟨a', m', c', hc', _⟩ := h.at_ t htn
    rw [hc']; exact hd.2.2 _ _ hc' (fun x e => by cases e)
  refine ⟨⟨fun t htn => ?_⟩, hap.same hcell⟩
  obtain ⟨a', m', c', hc', hn', ho'⟩ := h.at_ t htn
  refine ⟨a', m', c', by rw [hcell t htn]; exact hc', hn', fun hxt => ?_⟩
  have ho := ho' (by omega)
  rcases hox.own with hm | ⟨b, o, rfl, hge, _⟩
  · exact ho.past (hs hm)
  · rcases hap x t hx htn (by omega) _ m c a' m' c' hc hc' with k | k | k
    · exact ho.past (hs k)
    · exact ho.other ht (.inl k)
    · exact ho.other ht (.inr fun z hz e => k _ z rfl hz e.symm)
theorem Nats.afterOver {w w' : World} {B g cap n m b : Nat} {f : Nat → List Nat} (h : Nats w B g cap n f) (ht : Turned b w w') (hs : m = 0 → Below w.heap.size w w') (hu : m = 0 ∨ b < B) : Nats w' B g cap n f := by
  rcases hu with h0 | hu
  · exact h.past (hs h0)
  · exact h.other ht hu
theorem OwnAt.afterOver {w w' : World} {B b m : Nat} {a : Option Addr} {n c : Nat} {l : List Nat} (h : OwnAt w B a n c l) (ht : Turned b w w') (hs : m = 0 → Below w.heap.size w w') (hu : m = 0 ∨ b < B) : OwnAt w' B a n c l := by
  rcases hu with h0 | hu
  · exact h.past (hs h0)
  · exact h.other ht (h.apart hu)
theorem OwnAt.beforeOver {w w' : World} {B b m U : Nat} {a : Option Addr} {n c : Nat} {l : List Nat} (h : OwnAt w B a n c l) (ht : Turned b w w') (hs : m = 0 → Below w.heap.size w w') (hu : m = 0 ∨ U ≤ b) (hl : n = 0 ∨ ∀ x, a = some x → x.block < U) : OwnAt w' B a n c l := by
  rcases hu with h0 | hu
  · exact h.past (hs h0)
  · exact h.other ht (hl.imp id fun hl x hx e => by have := hl x hx; omega)
theorem OwnAt.blockLt {w : World} {B : Nat} {a : Option Addr} {n c : Nat} {l : List Nat} (h : OwnAt w B a n c l) : n = 0 ∨ blockOf a < w.heap.size := by
  rcases h.toNatAt.parts with h0 | ⟨b, o, rfl, hlt, _⟩
  · exact .inl h0
  · exact .inr hlt
theorem OwnAt.blockGe {w : World} {B : Nat} {a : Option Addr} {n c : Nat} {l : List Nat} (h : OwnAt w B a n c l) : n = 0 ∨ B ≤ blockOf a := by
  rcases h.own with h0 | ⟨b, o, rfl, hge, _⟩
  · exact .inl h0
  · exact .inr hge

end Go.Proofs.Ytdjhgalaianifaa
