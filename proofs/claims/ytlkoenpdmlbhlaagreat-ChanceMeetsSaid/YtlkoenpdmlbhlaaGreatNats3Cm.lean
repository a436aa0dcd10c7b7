import Derived.OneCell
import Derived.Test.YtlkoenpdmlbhlaaGreatS0Cm
import Derived.Test.YtlkoenpdmlbhlaaGreatNatsCm
import Derived.Test.YtlkoenpdmlbhlaaGreatA9Cm
import Derived.Test.YtlkoenpdmlbhlaaGreatA6Cm
import Derived.Test.YtlkoenpdmlbhlaaGreatRats2Cm
import Derived.Test.YtlkoenpdmlbhlaaGreatLaw05bCm
set_option linter.unusedVariables false
set_option linter.unusedSimpArgs false
namespace Go.Proofs.YtlkoenpdmlbhlaaGreat
open Go.RowKit
set_option maxRecDepth 100000 in
theorem overNat_turned (B b1 : Nat) (a : Option Addr) (n c : Nat) (w : World) (h : WritAt w B a n c) (hb1 : n = 0 ∨ ∀ x, a = some x → x.block = b1) :
 Calls Tryz.prog 64 #[.slice a n c] w fun e w' => e = .returned (.tuple #[]) ∧ Below B w w' ∧ Digital w w' ∧ Turned b1 w w' ∧ (n = 0 → Below w.heap.size w w') := by
 have hl := h.cle
 have hl' := h.le
 go_enter Tryz.func64, Tryz.ntmps64
 go_wp2
 by_cases hn : n = 0
 · subst hn
   refine wp_loop_rounds 1 ?_
   rw [rounds_succ]
   go_wp2
   go_end0
   exact ⟨rfl, Below.refl _ _, Digital.refl _, Turned.refl _ _, by first | exact Below.refl _ _ | exact fun _ => Below.refl _ _⟩
 rcases h.cell with h' | ⟨b, o, rfl, hB, f, hc, hf⟩
 · omega
 obtain rfl : b = b1 := by
  rcases hb1 with h' | h'
  · omega
  · exact h' _ rfl
 clear hb1
 go_loopw [2] (fun i wr => ∃ (k : Nat), k ≤ n ∧ i = .int .i64 ((k : Nat) : Int) ∧ Below B w wr ∧ Digital w wr ∧ Turned b w wr) (fun i _ => n - (intOf i).toNat)
 case atStart => exact ⟨0, Nat.zero_le _, rfl, Below.refl _ _, Digital.refl _, Turned.refl _ _⟩
 case round =>
  obtain ⟨k, hk, rfl, hb, hg, ht⟩ := hrel
  by_cases hlt : k < n
  · obtain ⟨v, c1⟩ := hg.1 _ _ (hc k hlt)
    have f1 : wr.frozen? ⟨b, o + k, none⟩ = false := by rw [hg.2.1]; exact hf k hlt
    clear hc hf
    go_wp2
    go_roundw
    case rel => exact ⟨k + 1, by omega, by go_num, hb.setCell (p := ⟨b, o + k, none⟩) hB _, Touched.set hg _ _ c1, ht.set _⟩
    case measure => simp [intOf]; omega
  · clear hc hf
    go_wp2
    go_end0
    exact ⟨rfl, hb, hg, ht, fun h0 => absurd h0 hn⟩
def blockOf (a : Option Addr) : Nat := match a with
 | some x => x.block
 | none => 0
theorem blockOf_is {a : Option Addr} {n : Nat} : n = 0 ∨ ∀ x, a = some x → x.block = blockOf a := .inr fun x hx => by rw [hx]; rfl
end Go.Proofs.YtlkoenpdmlbhlaaGreat
set_option linter.unusedVariables false
set_option linter.unusedSimpArgs false
namespace Go.Proofs.YtlkoenpdmlbhlaaGreat
open Go.RowKit
structure Within (L U : Nat) (w w' : World) : Prop where
 os : w'.os = w.os
 tape : w'.tape = w.tape
 output : w'.output = w.output
 size : w.heap.size ≤ w'.heap.size
 block : ∀ k, k < w.heap.size → (k < L ∨ U ≤ k) → w'.heap[k]? = w.heap[k]?
variable {L U : Nat} {w w' w2 : World}
theorem Within.refl (L U : Nat) (w : World) : Within L U w w := ⟨rfl, rfl, rfl, Nat.le_refl _, fun _ _ _ => rfl⟩
theorem Within.trans (h : Within L U w w') (k : Within L U w' w2) : Within L U w w2 :=
 ⟨k.os.trans h.os, k.tape.trans h.tape, k.output.trans h.output, Nat.le_trans h.size k.size, fun i hi hn => (k.block i (Nat.lt_of_lt_of_le hi h.size) hn).trans (h.block i hi hn)⟩
theorem Within.ofBelow (h : Below w.heap.size w w') : Within L U w w' := ⟨h.os, h.tape, h.output, h.size, fun k hk _ => h.block k hk⟩
theorem Within.ofTurned {b : Nat} (h : Turned b w w') (hL : L ≤ b) (hU : b < U) : Within L U w w' := ⟨h.os, h.tape, h.output, h.size, fun k hk hn => h.block k hk (fun e => by cases e; omega)⟩
theorem Within.wide {L2 U2 : Nat} (h : Within L U w w') (hL : L2 ≤ L) (hU : U ≤ U2) : Within L2 U2 w w' := ⟨h.os, h.tape, h.output, h.size, fun k hk hn => h.block k hk (by omega)⟩
theorem Within.below (h : Within L U w w') (hL : L ≤ w.heap.size) : Below L w w' := ⟨h.os, h.tape, h.output, h.size, fun k hk => h.block k (Nat.lt_of_lt_of_le hk hL) (.inl hk)⟩
theorem Within.cell (h : Within L U w w') {b o : Nat} {v : Value} (hb : b < L ∨ U ≤ b) (q : w.cell? ⟨b, o, none⟩ = some v) : w'.cell? ⟨b, o, none⟩ = some v :=
 (World.cell?_of_block (w := w) (h.block b (World.block_lt_of_cell? w _ q) hb)).trans q
theorem Within.frozen (h : Within L U w w') {b o : Nat} (hl : b < w.heap.size) (hb : b < L ∨ U ≤ b) : w'.frozen? ⟨b, o, none⟩ = w.frozen? ⟨b, o, none⟩ :=
 World.frozen?_of_block (w := w) (h.block b hl hb)
theorem NatAt.within {a : Option Addr} {n c : Nat} {l : List Nat} (g : NatAt w a n c l) (h : Within L U w w') (hb : n = 0 ∨ ∀ x, a = some x → x.block < L ∨ U ≤ x.block) : NatAt w' a n c l := by
 rcases g.parts with h0 | ⟨b1, o1, rfl, hlt, hc⟩
 · exact ⟨g.len, g.le, g.cle, g.dig, .inl h0, g.nilc⟩
 · rcases hb with h0 | hne
   · exact ⟨g.len, g.le, g.cle, g.dig, .inl h0, g.nilc⟩
   exact ⟨g.len, g.le, g.cle, g.dig, .inr ⟨b1, o1, rfl, fun i hi => h.cell (hne _ rfl) (hc i hi)⟩, g.nilc⟩
theorem OwnAt.within {B : Nat} {a : Option Addr} {n c : Nat} {l : List Nat} (g : OwnAt w B a n c l) (h : Within L U w w') (hb : n = 0 ∨ ∀ x, a = some x → x.block < L ∨ U ≤ x.block) : OwnAt w' B a n c l := by
 refine ⟨g.toNatAt.within h hb, ?_⟩
 rcases g.own with h0 | ⟨b1, o1, he, hle, hf⟩
 · exact .inl h0
 · rcases g.toNatAt.parts with h0 | ⟨b', o', he', hlt, _⟩
   · exact .inl h0
   · rcases hb with h0 | hne
     · exact .inl h0
     · subst he
       cases he'
       exact .inr ⟨b1, o1, rfl, hle, fun i hi => (h.frozen hlt (hne _ rfl)).trans (hf i hi)⟩
theorem OwnAt.after {B : Nat} {a : Option Addr} {n c : Nat} {l : List Nat} (g : OwnAt w B a n c l) (h : Within L U w w') (hB : U ≤ B) : OwnAt w' B a n c l :=
 g.within h (by
  rcases g.own with h0 | ⟨b1, o1, rfl, hle, _⟩
  · exact .inl h0
  · exact .inr fun x hx => by cases hx; exact .inr (Nat.le_trans hB hle))
theorem IntsAt.within {a : Option Addr} {n c : Nat} {zs : List Int} (g : IntsAt w a n c zs) (h : Within L U w w') (hb : n = 0 ∨ ∀ x, a = some x → x.block < L ∨ U ≤ x.block) : IntsAt w' a n c zs := by
 refine ⟨g.len, g.le, g.cle, ?_, g.nilc, g.wf⟩
 rcases g.cell with h0 | ⟨b, o, rfl, hl, hc⟩
 · exact .inl h0
 · rcases hb with h0 | hne
   · exact .inl h0
   · exact .inr ⟨b, o, rfl, Nat.lt_of_lt_of_le hl h.size, fun i hi => h.cell (hne _ rfl) (hc i hi)⟩
theorem overNat_within (L U : Nat) (a : Option Addr) (n c : Nat) (w : World) (h : WritAt w L a n c) (hU : n = 0 ∨ ∀ x, a = some x → x.block < U) :
 Calls Tryz.prog 64 #[.slice a n c] w fun e w' => e = .returned (.tuple #[]) ∧ Digital w w' ∧ Within L U w w' := by
 refine (overNat_turned L (blockOf a) a n c w h blockOf_is).mono ?_
 rintro e w' ⟨rfl, hb, hd, ht, hs⟩
 refine ⟨rfl, hd, ?_⟩
 rcases h.cell with h0 | ⟨b, o, rfl, hB, _⟩
 · exact .ofBelow (hs h0)
 · rcases hU with h0 | hU
   · exact .ofBelow (hs h0)
   · exact .ofTurned ht hB (hU _ rfl)
theorem InAt.own {a : Option Addr} {n c : Nat} {l : List Nat} (h : InAt w L U a n c l) : OwnAt w L a n c l := h.1
theorem InAt.lt {a : Option Addr} {n c : Nat} {l : List Nat} (h : InAt w L U a n c l) : n = 0 ∨ ∀ x, a = some x → x.block < U := h.2
theorem InAt.both {a : Option Addr} {n c : Nat} {l : List Nat} (h : OwnAt w L a n c l) (hU : n = 0 ∨ ∀ x, a = some x → x.block < U) : InAt w L U a n c l := ⟨h, hU⟩
theorem InAt.writ {a : Option Addr} {n c : Nat} {l : List Nat} (h : InAt w L U a n c l) : WritAt w L a n c := h.1.writ
set_option maxRecDepth 100000 in
set_option maxHeartbeats 4000000 in
theorem overRatio_within (L U : Nat) (b : Bool) (a : Option Addr) (n c : Nat) (l : List Nat) (a2 : Option Addr) (n2 c2 : Nat) (l2 : List Nat) (w : World) (h1 : InAt w L U a n c l) (h2 : InAt w L U a2 n2 c2 l2) :
 Calls Tryz.prog 24 #[.agg #[.bool b, .slice a n c, .slice a2 n2 c2]] w fun e w' => e = .returned (.tuple #[]) ∧ Within L U w w' := by
 have u1 := h1.2
 have u2 := h2.2
 have h1 := h1.writ
 have h2 := h2.writ
 go_enter Tryz.func24, Tryz.ntmps24
 have hB := Below.refl w.heap.size w
 go_wp2_with fail
 obtain ⟨w1, hW, hz0, hb, q, f⟩ := box1g w (w.heap.size) (by omega) #[.bool b, .slice a n c, .slice a2 n2 c2] 27
 rw [hW]
 clear hW
 have h1 := h1.past hb
 have h2 := h2.past hb
 have hB := below_later hB hb
 clear hb
 have lx : w.heap.size < w1.heap.size := by omega
 have qx0 := q 0; have qx1 := q 1; have qx2 := q 2
 simp only [lgA, lgZ, lgS] at qx0 qx1 qx2
 clear q f
 clear hz0
 have hZ : Within L U w w1 := .ofBelow hB
 with_reducible refine (overNat_within L U _ _ _ _ h1 u1).mono ?_
 rintro e w2 ⟨rfl, hg1, hb1⟩
 have h2 := h2.keep hg1
 have qx0 := hg1.2.2 _ _ qx0 (fun x e => by cases e)
 have qx1 := hg1.2.2 _ _ qx1 (fun x e => by cases e)
 have qx2 := hg1.2.2 _ _ qx2 (fun x e => by cases e)
 have hZ := hZ.trans hb1
 clear hb1 hg1
 go_wp2_with fail
 with_reducible refine (overNat_within L U _ _ _ _ h2 u2).mono ?_
 rintro e w3 ⟨rfl, hg2, hb2⟩
 have hZ := hZ.trans hb2
 clear hb2 hg2
 go_wp2
 go_end0
 exact ⟨rfl, hZ⟩
end Go.Proofs.YtlkoenpdmlbhlaaGreat
