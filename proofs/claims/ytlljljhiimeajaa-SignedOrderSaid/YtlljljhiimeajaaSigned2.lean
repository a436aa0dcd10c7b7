/- signed, second part: along, against, Add, Sub, Mul, Cmp. -/
import Derived.Test.YtlljljhiimeajaaSigned1
import Derived.Test.YtlljljhiimeajaaLimbs6
import Derived.Test.YtlljljhiimeajaaTimes4
import Derived.Deep.RegionHeld3
import Derived.Deep.RegionWith
set_option linter.unusedVariables false
set_option linter.unusedSimpArgs false
namespace Go.Proofs.Ytlljljhiimeajaa
open Go.RowKit

theorem OwnAt.ret2 {w w1 w3 : World} {R : Nat} {a : Option Addr} {n c : Nat} {l : List Nat} (h : OwnAt w3 w1.heap.size a n c l) (hR : R < w1.heap.size) (hw : w.heap.size ≤ w1.heap.size) (x y : Value) :
    OwnAt ((w3.setCell ⟨R, 0, none⟩ x).setCell ⟨R, 1, none⟩ y) w.heap.size a n c l := ((h.setOff hR _).setOff hR _).mono hw

set_option maxRecDepth 100000 in
theorem along_any (b : Bool) (a : Option Addr) (n c : Nat) (l : List Nat) (b2 : Bool) (a2 : Option Addr) (n2 c2 : Nat) (l2 : List Nat) (w : World) (h : NatAt w a n c l) (h2 : NatAt w a2 n2 c2 l2) (hs : n ≤ 274877906944) (hs2 : n2 ≤ 274877906944) :
    Calls Try.prog 80 #[.agg #[.bool b, .slice a n c], .agg #[.bool b2, .slice a2 n2 c2]] w (RetInt w (sg b (val l + val l2))) := by
  have hlen : (digs (val l + val l2)).length ≤ 1099511627776 := by have := h.short; have := h2.short; have := digs_len_add (val l) (val l2); omega
  have HL := Lib.hid hlen
  clear hlen
  go_enter Try.func80, Try.ntmps80
  go_wp2_with fail
  obtain ⟨W, hW, hz, hBW, q0, q1, q2, q3⟩ := boxes3 w #[.bool b, .slice a n c] #[.bool b2, .slice a2 n2 c2] #[.bool false, .slice none 0 0] 42 42 42
  rw [hW]
  have HLT : Hid (w.heap.size + 1 + 1 < W.heap.size) := Lib.hid (by omega)
  have Q0 := Lib.hid q0
  have L0 : Hid (w.heap.size < w.heap.size + 1 + 1) := Lib.hid (by omega)
  have Q1 := Lib.hid q1
  have L1 : Hid (w.heap.size + 1 < w.heap.size + 1 + 1) := Lib.hid (by omega)
  have LR : Hid (w.heap.size ≤ w.heap.size + 1 + 1) := Lib.hid (by omega)
  have RM := Lib.hid (Room.of q2 q3)
  have HB := Lib.hid hBW
  clear hW hz hBW q0 q1 q2 q3
  go_region_held3 (fun w' => (w'.cell? ⟨w.heap.size, 0, none⟩ = some (.bool b) ∧ w'.cell? ⟨w.heap.size, 1, none⟩ = some (.slice a n c) ∧ w'.cell? ⟨w.heap.size + 1, 0, none⟩ = some (.bool b2) ∧ w'.cell? ⟨w.heap.size + 1, 1, none⟩ = some (.slice a2 n2 c2)) ∧ (Room w' (w.heap.size + 1 + 1) 2 ∧ Below w.heap.size w w' ∧ Below (w.heap.size + 1 + 1) W w'))
    (first
      | exact ⟨⟨((Below.refl (w.heap.size + 1 + 1) W).drew.cell (p := ⟨w.heap.size, 0, none⟩) L0.out).trans (Q0.out 0), ((Below.refl (w.heap.size + 1 + 1) W).drew.cell (p := ⟨w.heap.size, 1, none⟩) L0.out).trans (Q0.out 1), ((Below.refl (w.heap.size + 1 + 1) W).drew.cell (p := ⟨w.heap.size + 1, 0, none⟩) L1.out).trans (Q1.out 0), ((Below.refl (w.heap.size + 1 + 1) W).drew.cell (p := ⟨w.heap.size + 1, 1, none⟩) L1.out).trans (Q1.out 1)⟩, RM.out.drew, HB.out.drew, (Below.refl _ _).drew⟩
      | (rename _ ∧ (Room _ _ _ ∧ Below w.heap.size w _ ∧ Below _ W _) => hS
         first
           | exact ⟨⟨((hS.2.2.2.trans (hb2.mono (Nat.le_of_lt (Nat.lt_of_lt_of_le HLT.out hS.2.2.2.size)))).cell (p := ⟨w.heap.size, 0, none⟩) L0.out).trans (Q0.out 0), ((hS.2.2.2.trans (hb2.mono (Nat.le_of_lt (Nat.lt_of_lt_of_le HLT.out hS.2.2.2.size)))).cell (p := ⟨w.heap.size, 1, none⟩) L0.out).trans (Q0.out 1), ((hS.2.2.2.trans (hb2.mono (Nat.le_of_lt (Nat.lt_of_lt_of_le HLT.out hS.2.2.2.size)))).cell (p := ⟨w.heap.size + 1, 0, none⟩) L1.out).trans (Q1.out 0), ((hS.2.2.2.trans (hb2.mono (Nat.le_of_lt (Nat.lt_of_lt_of_le HLT.out hS.2.2.2.size)))).cell (p := ⟨w.heap.size + 1, 1, none⟩) L1.out).trans (Q1.out 1)⟩, hS.2.1.past hb2 (Nat.lt_of_lt_of_le HLT.out hS.2.2.2.size), below_later hS.2.2.1 hb2, (hS.2.2.2.trans (hb2.mono (Nat.le_of_lt (Nat.lt_of_lt_of_le HLT.out hS.2.2.2.size))))⟩
           | exact ⟨⟨((hS.2.2.2.trans (hb1.mono (Nat.le_of_lt (Nat.lt_of_lt_of_le HLT.out hS.2.2.2.size)))).cell (p := ⟨w.heap.size, 0, none⟩) L0.out).trans (Q0.out 0), ((hS.2.2.2.trans (hb1.mono (Nat.le_of_lt (Nat.lt_of_lt_of_le HLT.out hS.2.2.2.size)))).cell (p := ⟨w.heap.size, 1, none⟩) L0.out).trans (Q0.out 1), ((hS.2.2.2.trans (hb1.mono (Nat.le_of_lt (Nat.lt_of_lt_of_le HLT.out hS.2.2.2.size)))).cell (p := ⟨w.heap.size + 1, 0, none⟩) L1.out).trans (Q1.out 0), ((hS.2.2.2.trans (hb1.mono (Nat.le_of_lt (Nat.lt_of_lt_of_le HLT.out hS.2.2.2.size)))).cell (p := ⟨w.heap.size + 1, 1, none⟩) L1.out).trans (Q1.out 1)⟩, hS.2.1.past hb1 (Nat.lt_of_lt_of_le HLT.out hS.2.2.2.size), below_later hS.2.2.1 hb1, (hS.2.2.2.trans (hb1.mono (Nat.le_of_lt (Nat.lt_of_lt_of_le HLT.out hS.2.2.2.size))))⟩
           | exact ⟨⟨((hS.2.2.2.alloc (Nat.le_of_lt (Nat.lt_of_lt_of_le HLT.out hS.2.2.2.size)) _).cell (p := ⟨w.heap.size, 0, none⟩) L0.out).trans (Q0.out 0), ((hS.2.2.2.alloc (Nat.le_of_lt (Nat.lt_of_lt_of_le HLT.out hS.2.2.2.size)) _).cell (p := ⟨w.heap.size, 1, none⟩) L0.out).trans (Q0.out 1), ((hS.2.2.2.alloc (Nat.le_of_lt (Nat.lt_of_lt_of_le HLT.out hS.2.2.2.size)) _).cell (p := ⟨w.heap.size + 1, 0, none⟩) L1.out).trans (Q1.out 0), ((hS.2.2.2.alloc (Nat.le_of_lt (Nat.lt_of_lt_of_le HLT.out hS.2.2.2.size)) _).cell (p := ⟨w.heap.size + 1, 1, none⟩) L1.out).trans (Q1.out 1)⟩, hS.2.1.past ((Below.refl _ _).alloc (Nat.le_refl _) _) (Nat.lt_of_lt_of_le HLT.out hS.2.2.2.size), below_alloc hS.2.2.1 _, (hS.2.2.2.alloc (Nat.le_of_lt (Nat.lt_of_lt_of_le HLT.out hS.2.2.2.size)) _)⟩
           | exact ⟨⟨(((hS.2.2.2.setCell (p := ⟨w.heap.size + 1 + 1, 0, none⟩) (Nat.le_refl _) _).setCell (p := ⟨w.heap.size + 1 + 1, 1, none⟩) (Nat.le_refl _) _).cell (p := ⟨w.heap.size, 0, none⟩) L0.out).trans (Q0.out 0), (((hS.2.2.2.setCell (p := ⟨w.heap.size + 1 + 1, 0, none⟩) (Nat.le_refl _) _).setCell (p := ⟨w.heap.size + 1 + 1, 1, none⟩) (Nat.le_refl _) _).cell (p := ⟨w.heap.size, 1, none⟩) L0.out).trans (Q0.out 1), (((hS.2.2.2.setCell (p := ⟨w.heap.size + 1 + 1, 0, none⟩) (Nat.le_refl _) _).setCell (p := ⟨w.heap.size + 1 + 1, 1, none⟩) (Nat.le_refl _) _).cell (p := ⟨w.heap.size + 1, 0, none⟩) L1.out).trans (Q1.out 0), (((hS.2.2.2.setCell (p := ⟨w.heap.size + 1 + 1, 0, none⟩) (Nat.le_refl _) _).setCell (p := ⟨w.heap.size + 1 + 1, 1, none⟩) (Nat.le_refl _) _).cell (p := ⟨w.heap.size + 1, 1, none⟩) L1.out).trans (Q1.out 1)⟩, ((hS.2.1.set _ _).set _ _), ((hS.2.2.1.setCell (p := ⟨w.heap.size + 1 + 1, 0, none⟩) LR.out _).setCell (p := ⟨w.heap.size + 1 + 1, 1, none⟩) LR.out _), ((hS.2.2.2.setCell (p := ⟨w.heap.size + 1 + 1, 0, none⟩) (Nat.le_refl _) _).setCell (p := ⟨w.heap.size + 1 + 1, 1, none⟩) (Nat.le_refl _) _)⟩)
      | assumption)
    (first
      | (go_at_call 31; rename _ ∧ (Room _ _ _ ∧ Below w.heap.size w _ ∧ Below _ W _) => hS
         go_fit (add_any _ _ _ l _ _ _ l2 _ (h.past hS.2.2.1) (h2.past hS.2.2.1) (by omega) (by omega))
         rintro e w1 ⟨a1, n1, c1, rfl, h1, hb1⟩)
      | (go_at_call 36; rename _ ∧ (Room _ _ _ ∧ Below w.heap.size w _ ∧ Below _ W _) => hS
         go_fit (make_any _ _ _ _ (digs (val l + val l2)) _ h1.toNatAt (h1.len ▸ HL.out))
         rintro e w3 ⟨a3, n3, c3, rfl, h3, hb2⟩
         rw [val_digs] at h3 ⊢
         have lt3 := Nat.lt_of_lt_of_le HLT.out hS.2.2.2.size
         have le3 := hS.2.2.1.size
         have rm3 := hS.2.1.past hb2 lt3
         obtain ⟨v0, v1, m0, m1, m2, m3⟩ := rm3.two
         have own3 := h3.ret2 lt3 le3 (.bool (neg (sg b (val l + val l2)))) (.slice a3 n3 c3)))
  all_goals
    rename _ ∧ (Room _ _ _ ∧ Below w.heap.size w _ ∧ Below _ W _) => hH
    have hs := retIntOf (z := sg b (val l + val l2)) ⟨own3, hH.2.2.1⟩ rfl _ rfl
    clear hH
    go_wp2
    refine bodyPost_ret (v := .agg #[.bool (neg (sg b (val l + val l2))), .slice a3 n3 c3]) ?_ rfl hs
    simp [results, Try.f80, go_sem, m0, m1]
set_option maxRecDepth 100000 in
theorem smul_any (b : Bool) (a : Option Addr) (n c : Nat) (l : List Nat) (b2 : Bool) (a2 : Option Addr) (n2 c2 : Nat) (l2 : List Nat) (w : World) (h : NatAt w a n c l) (h2 : NatAt w a2 n2 c2 l2) (hs : n ≤ 68719476736) (hs2 : n2 ≤ 68719476736) :
    Calls Try.prog 49 #[.agg #[.bool b, .slice a n c], .agg #[.bool b2, .slice a2 n2 c2]] w (RetInt w (sg b (val l) * sg b2 (val l2))) := by
  have hlen : (digs (val l * val l2)).length ≤ 1099511627776 := by have := h.short; have := h2.short; have := digs_len_prod (val l) (val l2); omega
  have HL := Lib.hid hlen
  clear hlen
  have he : sg b (val l) * sg b2 (val l2) = sg (!(b == b2)) (val l * val l2) := by cases b <;> cases b2 <;> simp [sg, Int.neg_mul, Int.mul_neg, Int.neg_neg, Int.natCast_mul]
  rw [he]
  clear he
  go_enter Try.func49, Try.ntmps49
  go_wp2_with fail
  obtain ⟨W, hW, hz, hBW, q0, q1, q2, q3⟩ := boxes3 w #[.bool b, .slice a n c] #[.bool b2, .slice a2 n2 c2] #[.bool false, .slice none 0 0] 42 42 42
  rw [hW]
  have HLT : Hid (w.heap.size + 1 + 1 < W.heap.size) := Lib.hid (by omega)
  have Q0 := Lib.hid q0
  have L0 : Hid (w.heap.size < w.heap.size + 1 + 1) := Lib.hid (by omega)
  have Q1 := Lib.hid q1
  have L1 : Hid (w.heap.size + 1 < w.heap.size + 1 + 1) := Lib.hid (by omega)
  have LR : Hid (w.heap.size ≤ w.heap.size + 1 + 1) := Lib.hid (by omega)
  have RM := Lib.hid (Room.of q2 q3)
  have HB := Lib.hid hBW
  clear hW hz hBW q0 q1 q2 q3
  go_region_held3 (fun w' => (w'.cell? ⟨w.heap.size, 0, none⟩ = some (.bool b) ∧ w'.cell? ⟨w.heap.size, 1, none⟩ = some (.slice a n c) ∧ w'.cell? ⟨w.heap.size + 1, 0, none⟩ = some (.bool b2) ∧ w'.cell? ⟨w.heap.size + 1, 1, none⟩ = some (.slice a2 n2 c2)) ∧ (Room w' (w.heap.size + 1 + 1) 2 ∧ Below w.heap.size w w' ∧ Below (w.heap.size + 1 + 1) W w'))
    (first
      | exact ⟨⟨((Below.refl (w.heap.size + 1 + 1) W).drew.cell (p := ⟨w.heap.size, 0, none⟩) L0.out).trans (Q0.out 0), ((Below.refl (w.heap.size + 1 + 1) W).drew.cell (p := ⟨w.heap.size, 1, none⟩) L0.out).trans (Q0.out 1), ((Below.refl (w.heap.size + 1 + 1) W).drew.cell (p := ⟨w.heap.size + 1, 0, none⟩) L1.out).trans (Q1.out 0), ((Below.refl (w.heap.size + 1 + 1) W).drew.cell (p := ⟨w.heap.size + 1, 1, none⟩) L1.out).trans (Q1.out 1)⟩, RM.out.drew, HB.out.drew, (Below.refl _ _).drew⟩
      | (rename _ ∧ (Room _ _ _ ∧ Below w.heap.size w _ ∧ Below _ W _) => hS
         first
           | exact ⟨⟨((hS.2.2.2.trans (hb2.mono (Nat.le_of_lt (Nat.lt_of_lt_of_le HLT.out hS.2.2.2.size)))).cell (p := ⟨w.heap.size, 0, none⟩) L0.out).trans (Q0.out 0), ((hS.2.2.2.trans (hb2.mono (Nat.le_of_lt (Nat.lt_of_lt_of_le HLT.out hS.2.2.2.size)))).cell (p := ⟨w.heap.size, 1, none⟩) L0.out).trans (Q0.out 1), ((hS.2.2.2.trans (hb2.mono (Nat.le_of_lt (Nat.lt_of_lt_of_le HLT.out hS.2.2.2.size)))).cell (p := ⟨w.heap.size + 1, 0, none⟩) L1.out).trans (Q1.out 0), ((hS.2.2.2.trans (hb2.mono (Nat.le_of_lt (Nat.lt_of_lt_of_le HLT.out hS.2.2.2.size)))).cell (p := ⟨w.heap.size + 1, 1, none⟩) L1.out).trans (Q1.out 1)⟩, hS.2.1.past hb2 (Nat.lt_of_lt_of_le HLT.out hS.2.2.2.size), below_later hS.2.2.1 hb2, (hS.2.2.2.trans (hb2.mono (Nat.le_of_lt (Nat.lt_of_lt_of_le HLT.out hS.2.2.2.size))))⟩
           | exact ⟨⟨((hS.2.2.2.trans (hb1.mono (Nat.le_of_lt (Nat.lt_of_lt_of_le HLT.out hS.2.2.2.size)))).cell (p := ⟨w.heap.size, 0, none⟩) L0.out).trans (Q0.out 0), ((hS.2.2.2.trans (hb1.mono (Nat.le_of_lt (Nat.lt_of_lt_of_le HLT.out hS.2.2.2.size)))).cell (p := ⟨w.heap.size, 1, none⟩) L0.out).trans (Q0.out 1), ((hS.2.2.2.trans (hb1.mono (Nat.le_of_lt (Nat.lt_of_lt_of_le HLT.out hS.2.2.2.size)))).cell (p := ⟨w.heap.size + 1, 0, none⟩) L1.out).trans (Q1.out 0), ((hS.2.2.2.trans (hb1.mono (Nat.le_of_lt (Nat.lt_of_lt_of_le HLT.out hS.2.2.2.size)))).cell (p := ⟨w.heap.size + 1, 1, none⟩) L1.out).trans (Q1.out 1)⟩, hS.2.1.past hb1 (Nat.lt_of_lt_of_le HLT.out hS.2.2.2.size), below_later hS.2.2.1 hb1, (hS.2.2.2.trans (hb1.mono (Nat.le_of_lt (Nat.lt_of_lt_of_le HLT.out hS.2.2.2.size))))⟩
           | exact ⟨⟨((hS.2.2.2.alloc (Nat.le_of_lt (Nat.lt_of_lt_of_le HLT.out hS.2.2.2.size)) _).cell (p := ⟨w.heap.size, 0, none⟩) L0.out).trans (Q0.out 0), ((hS.2.2.2.alloc (Nat.le_of_lt (Nat.lt_of_lt_of_le HLT.out hS.2.2.2.size)) _).cell (p := ⟨w.heap.size, 1, none⟩) L0.out).trans (Q0.out 1), ((hS.2.2.2.alloc (Nat.le_of_lt (Nat.lt_of_lt_of_le HLT.out hS.2.2.2.size)) _).cell (p := ⟨w.heap.size + 1, 0, none⟩) L1.out).trans (Q1.out 0), ((hS.2.2.2.alloc (Nat.le_of_lt (Nat.lt_of_lt_of_le HLT.out hS.2.2.2.size)) _).cell (p := ⟨w.heap.size + 1, 1, none⟩) L1.out).trans (Q1.out 1)⟩, hS.2.1.past ((Below.refl _ _).alloc (Nat.le_refl _) _) (Nat.lt_of_lt_of_le HLT.out hS.2.2.2.size), below_alloc hS.2.2.1 _, (hS.2.2.2.alloc (Nat.le_of_lt (Nat.lt_of_lt_of_le HLT.out hS.2.2.2.size)) _)⟩
           | exact ⟨⟨(((hS.2.2.2.setCell (p := ⟨w.heap.size + 1 + 1, 0, none⟩) (Nat.le_refl _) _).setCell (p := ⟨w.heap.size + 1 + 1, 1, none⟩) (Nat.le_refl _) _).cell (p := ⟨w.heap.size, 0, none⟩) L0.out).trans (Q0.out 0), (((hS.2.2.2.setCell (p := ⟨w.heap.size + 1 + 1, 0, none⟩) (Nat.le_refl _) _).setCell (p := ⟨w.heap.size + 1 + 1, 1, none⟩) (Nat.le_refl _) _).cell (p := ⟨w.heap.size, 1, none⟩) L0.out).trans (Q0.out 1), (((hS.2.2.2.setCell (p := ⟨w.heap.size + 1 + 1, 0, none⟩) (Nat.le_refl _) _).setCell (p := ⟨w.heap.size + 1 + 1, 1, none⟩) (Nat.le_refl _) _).cell (p := ⟨w.heap.size + 1, 0, none⟩) L1.out).trans (Q1.out 0), (((hS.2.2.2.setCell (p := ⟨w.heap.size + 1 + 1, 0, none⟩) (Nat.le_refl _) _).setCell (p := ⟨w.heap.size + 1 + 1, 1, none⟩) (Nat.le_refl _) _).cell (p := ⟨w.heap.size + 1, 1, none⟩) L1.out).trans (Q1.out 1)⟩, ((hS.2.1.set _ _).set _ _), ((hS.2.2.1.setCell (p := ⟨w.heap.size + 1 + 1, 0, none⟩) LR.out _).setCell (p := ⟨w.heap.size + 1 + 1, 1, none⟩) LR.out _), ((hS.2.2.2.setCell (p := ⟨w.heap.size + 1 + 1, 0, none⟩) (Nat.le_refl _) _).setCell (p := ⟨w.heap.size + 1 + 1, 1, none⟩) (Nat.le_refl _) _)⟩)
      | assumption)
    (first
      | (go_at_call 20; rename _ ∧ (Room _ _ _ ∧ Below w.heap.size w _ ∧ Below _ W _) => hS
         go_fit (tmul_any _ _ _ l _ _ _ l2 _ (h.past hS.2.2.1) (h2.past hS.2.2.1) (by omega) (by omega))
         rintro e w1 ⟨a1, n1, c1, rfl, h1, hb1⟩)
      | (go_at_call 36; rename _ ∧ (Room _ _ _ ∧ Below w.heap.size w _ ∧ Below _ W _) => hS
         go_fit (make_any _ _ _ _ (digs (val l * val l2)) _ h1.toNatAt (h1.len ▸ HL.out))
         rintro e w3 ⟨a3, n3, c3, rfl, h3, hb2⟩
         rw [val_digs] at h3 ⊢
         have lt3 := Nat.lt_of_lt_of_le HLT.out hS.2.2.2.size
         have le3 := hS.2.2.1.size
         have rm3 := hS.2.1.past hb2 lt3
         obtain ⟨v0, v1, m0, m1, m2, m3⟩ := rm3.two
         have own3 := h3.ret2 lt3 le3 (.bool (neg (sg (!(b == b2)) (val l * val l2)))) (.slice a3 n3 c3)))
  all_goals
    rename _ ∧ (Room _ _ _ ∧ Below w.heap.size w _ ∧ Below _ W _) => hH
    have hs := retIntOf (z := sg (!(b == b2)) (val l * val l2)) ⟨own3, hH.2.2.1⟩ rfl _ rfl
    clear hH
    go_wp2
    refine bodyPost_ret (v := .agg #[.bool (neg (sg (!(b == b2)) (val l * val l2))), .slice a3 n3 c3]) ?_ rfl hs
    simp [results, Try.f49, go_sem, m0, m1]
set_option maxRecDepth 100000 in
theorem against_yes (b : Bool) (a : Option Addr) (n c : Nat) (l : List Nat) (b2 : Bool) (a2 : Option Addr) (n2 c2 : Nat) (l2 : List Nat) (w : World) (h : NatAt w a n c l) (h2 : NatAt w a2 n2 c2 l2) (hs : n ≤ 549755813888) (hs2 : n2 ≤ 549755813888) (hv : val l2 ≤ val l) :
    Calls Try.prog 81 #[.agg #[.bool b, .slice a n c], .agg #[.bool b2, .slice a2 n2 c2]] w (RetInt w (sg b (val l - val l2))) := by
  have hlen : (digs (val l - val l2)).length ≤ 1099511627776 := Nat.le_trans (digs_len_mono (Nat.sub_le _ _)) (by have := h.short; have := h2.short; omega)
  have HL := Lib.hid hlen
  clear hlen
  go_enter Try.func81, Try.ntmps81
  go_wp2_with fail
  obtain ⟨W, hW, hz, hBW, q0, q1, q2, q3⟩ := boxes3 w #[.bool b, .slice a n c] #[.bool b2, .slice a2 n2 c2] #[.bool false, .slice none 0 0] 42 42 42
  rw [hW]
  have HLT : Hid (w.heap.size + 1 + 1 < W.heap.size) := Lib.hid (by omega)
  have Q0 := Lib.hid q0
  have L0 : Hid (w.heap.size < w.heap.size + 1 + 1) := Lib.hid (by omega)
  have Q1 := Lib.hid q1
  have L1 : Hid (w.heap.size + 1 < w.heap.size + 1 + 1) := Lib.hid (by omega)
  have LR : Hid (w.heap.size ≤ w.heap.size + 1 + 1) := Lib.hid (by omega)
  have RM := Lib.hid (Room.of q2 q3)
  have HB := Lib.hid hBW
  clear hW hz hBW q0 q1 q2 q3
  have hlt := HLT.out
  have q0 := Q0.out
  have q1 := Q1.out
  have rm := RM.out
  have k := h.past HB.out
  have k2 := h2.past HB.out
  have hBW := HB.out
  with_reducible refine (sub_yes _ _ _ l _ _ _ l2 _ k k2 (by omega) hv).mono ?_
  rintro e w2 ⟨a1, n1, c1, rfl, h1, hb2⟩
  have q0 := cellsPast hb2 (Nat.lt_trans L0.out hlt) q0
  have q1 := cellsPast hb2 (Nat.lt_trans L1.out hlt) q1
  have rm := rm.past hb2 hlt
  have hlt := Nat.lt_of_lt_of_le hlt hb2.size
  have hBW := below_later hBW hb2
  clear hb2 k k2
  have HV := Lib.hid hv
  clear hv
  go_wp2_with fail
  with_reducible refine (make_any _ _ _ _ _ _ h1.toNatAt (h1.len ▸ HL.out)).mono ?_
  rintro e w3 ⟨a3, n3, c3, rfl, h3, hb3⟩
  rw [val_digs] at h3 ⊢
  have own3 := h3.ret2 hlt hBW.size (.bool (neg (sg b (val l - val l2)))) (.slice a3 n3 c3)
  have rm := rm.past hb3 hlt
  obtain ⟨v0, v1, m0, m1, m2, m3⟩ := rm.two
  have hB3 := below_later hBW hb3
  have hs := retIntOf (z := sg b (val l - val l2)) ⟨own3, (hB3.setCell (p := ⟨w.heap.size + 1 + 1, 0, none⟩) LR.out _).setCell (p := ⟨w.heap.size + 1 + 1, 1, none⟩) LR.out _⟩ rfl _ rfl
  clear own3 rm hB3 hb3 hBW hlt q0 q1 h1 h3
  go_wp2
  refine bodyPost_ret (v := .agg #[.bool (neg (sg b (val l - val l2))), .slice a3 n3 c3]) ?_ rfl hs
  simp [results, Try.f81, go_sem, m0, m1]
set_option maxRecDepth 100000 in
theorem against_no (b : Bool) (a : Option Addr) (n c : Nat) (l : List Nat) (b2 : Bool) (a2 : Option Addr) (n2 c2 : Nat) (l2 : List Nat) (w : World) (h : NatAt w a n c l) (h2 : NatAt w a2 n2 c2 l2) (hs : n ≤ 549755813888) (hs2 : n2 ≤ 549755813888) (hv : val l < val l2) :
    Calls Try.prog 81 #[.agg #[.bool b, .slice a n c], .agg #[.bool b2, .slice a2 n2 c2]] w (RetInt w (sg b2 (val l2 - val l))) := by
  have hlen : (digs (val l2 - val l)).length ≤ 1099511627776 := Nat.le_trans (digs_len_mono (Nat.sub_le _ _)) (by have := h.short; have := h2.short; omega)
  have HL := Lib.hid hlen
  clear hlen
  go_enter Try.func81, Try.ntmps81
  go_wp2_with fail
  obtain ⟨W, hW, hz, hBW, q0, q1, q2, q3⟩ := boxes3 w #[.bool b, .slice a n c] #[.bool b2, .slice a2 n2 c2] #[.bool false, .slice none 0 0] 42 42 42
  rw [hW]
  have HLT : Hid (w.heap.size + 1 + 1 < W.heap.size) := Lib.hid (by omega)
  have Q0 := Lib.hid q0
  have L0 : Hid (w.heap.size < w.heap.size + 1 + 1) := Lib.hid (by omega)
  have Q1 := Lib.hid q1
  have L1 : Hid (w.heap.size + 1 < w.heap.size + 1 + 1) := Lib.hid (by omega)
  have LR : Hid (w.heap.size ≤ w.heap.size + 1 + 1) := Lib.hid (by omega)
  have RM := Lib.hid (Room.of q2 q3)
  have HB := Lib.hid hBW
  clear hW hz hBW q0 q1 q2 q3
  have hlt := HLT.out
  have q0 := Q0.out
  have q1 := Q1.out
  have rm := RM.out
  have k := h.past HB.out
  have k2 := h2.past HB.out
  with_reducible refine (sub_no _ _ _ l _ _ _ l2 _ k k2 hv).mono ?_
  rintro e w1 ⟨rfl, hb1⟩
  have q0 := cellsPast hb1 (Nat.lt_trans L0.out hlt) q0
  have q1 := cellsPast hb1 (Nat.lt_trans L1.out hlt) q1
  have rm := rm.past hb1 hlt
  have hlt := Nat.lt_of_lt_of_le hlt hb1.size
  have k := k.past hb1
  have k2 := k2.past hb1
  have hBW := below_later HB.out hb1
  clear hb1
  go_wp2_with fail
  with_reducible refine (sub_yes _ _ _ l2 _ _ _ l _ k2 k (by omega) (Nat.le_of_lt hv)).mono ?_
  rintro e w2 ⟨a1, n1, c1, rfl, h1, hb2⟩
  have q0 := cellsPast hb2 (Nat.lt_trans L0.out hlt) q0
  have q1 := cellsPast hb2 (Nat.lt_trans L1.out hlt) q1
  have rm := rm.past hb2 hlt
  have hlt := Nat.lt_of_lt_of_le hlt hb2.size
  have hBW := below_later hBW hb2
  clear hb2 k k2
  have HV := Lib.hid hv
  clear hv
  go_wp2_with fail
  with_reducible refine (make_any _ _ _ _ _ _ h1.toNatAt (h1.len ▸ HL.out)).mono ?_
  rintro e w3 ⟨a3, n3, c3, rfl, h3, hb3⟩
  rw [val_digs] at h3 ⊢
  have own3 := h3.ret2 hlt hBW.size (.bool (neg (sg b2 (val l2 - val l)))) (.slice a3 n3 c3)
  have rm := rm.past hb3 hlt
  obtain ⟨v0, v1, m0, m1, m2, m3⟩ := rm.two
  have hB3 := below_later hBW hb3
  have hs := retIntOf (z := sg b2 (val l2 - val l)) ⟨own3, (hB3.setCell (p := ⟨w.heap.size + 1 + 1, 0, none⟩) LR.out _).setCell (p := ⟨w.heap.size + 1 + 1, 1, none⟩) LR.out _⟩ rfl _ rfl
  clear own3 rm hB3 hb3 hBW hlt q0 q1 h1 h3
  go_wp2
  refine bodyPost_ret (v := .agg #[.bool (neg (sg b2 (val l2 - val l))), .slice a3 n3 c3]) ?_ rfl hs
  simp [results, Try.f81, go_sem, m0, m1]
theorem against_sum (b : Bool) (a : Option Addr) (n c : Nat) (l : List Nat) (b2 : Bool) (a2 : Option Addr) (n2 c2 : Nat) (l2 : List Nat) (w : World) (h : NatAt w a n c l) (h2 : NatAt w a2 n2 c2 l2) (hs : n ≤ 274877906944) (hs2 : n2 ≤ 274877906944) (hb : b2 = !b) :
    Calls Try.prog 81 #[.agg #[.bool b, .slice a n c], .agg #[.bool b2, .slice a2 n2 c2]] w (RetInt w (sg b (val l) + sg b2 (val l2))) := by
  by_cases hv : val l2 ≤ val l
  · have e : sg b (val l) + sg b2 (val l2) = sg b (val l - val l2) := by subst hb; cases b <;> simp [sg] <;> omega
    rw [e]
    exact against_yes b a n c l b2 a2 n2 c2 l2 w h h2 (by omega) (by omega) hv
  · have e : sg b (val l) + sg b2 (val l2) = sg b2 (val l2 - val l) := by subst hb; cases b <;> simp [sg] <;> omega
    rw [e]
    exact against_no b a n c l b2 a2 n2 c2 l2 w h h2 (by omega) (by omega) (by omega)
theorem along_sum (b : Bool) (a : Option Addr) (n c : Nat) (l : List Nat) (b2 : Bool) (a2 : Option Addr) (n2 c2 : Nat) (l2 : List Nat) (w : World) (h : NatAt w a n c l) (h2 : NatAt w a2 n2 c2 l2) (hs : n ≤ 274877906944) (hs2 : n2 ≤ 274877906944) (hb : b2 = b) :
    Calls Try.prog 80 #[.agg #[.bool b, .slice a n c], .agg #[.bool b2, .slice a2 n2 c2]] w (RetInt w (sg b (val l) + sg b2 (val l2))) := by
  have e : sg b (val l) + sg b2 (val l2) = sg b (val l + val l2) := by subst hb; cases b2 <;> simp [sg] <;> omega
  rw [e]
  exact along_any b a n c l b2 a2 n2 c2 l2 w h h2 hs hs2
set_option maxHeartbeats 4000000 in
set_option maxRecDepth 100000 in
theorem sadd_any (b : Bool) (a : Option Addr) (n c : Nat) (l : List Nat) (b2 : Bool) (a2 : Option Addr) (n2 c2 : Nat) (l2 : List Nat) (w : World) (h : NatAt w a n c l) (h2 : NatAt w a2 n2 c2 l2) (hs : n ≤ 274877906944) (hs2 : n2 ≤ 274877906944) :
    Calls Try.prog 47 #[.agg #[.bool b, .slice a n c], .agg #[.bool b2, .slice a2 n2 c2]] w (RetInt w (sg b (val l) + sg b2 (val l2))) := by
  have hal := along_sum b a n c l b2 a2 n2 c2 l2
  have hag := against_sum b a n c l b2 a2 n2 c2 l2
  generalize hZ : sg b (val l) + sg b2 (val l2) = Z at *
  have hZ' := Lib.hid hZ
  have HAL := Lib.hid hal
  have HAG := Lib.hid hag
  clear hZ hal hag
  cases b <;> cases b2
  · have HX := Lib.hid (fun (w : World) (k1 : NatAt w a n c l) (k2 : NatAt w a2 n2 c2 l2) => HAL.out w k1 k2 hs hs2 rfl)
    clear HAL HAG
    have hix : ∀ w : World, (Instr.index 75 (.agg #[.func (.func 80) #[] #[], .func (.func 81) #[] #[]]) (.int .i64 0)).run Try.prog w = .ok (.func (.func 80) #[] #[]) w := fun w => by kernel_rfl
    go_enter Try.func47, Try.ntmps47
    go_wp2_with fail
    obtain ⟨W, hW, hz, hBW, q0, q1, q2, q3⟩ := boxes3 w #[.bool false, .slice a n c] #[.bool false, .slice a2 n2 c2] #[.bool false, .slice none 0 0] 42 42 42
    rw [hW]
    have HLT : Hid (w.heap.size + 1 + 1 < W.heap.size) := Lib.hid (by omega)
    have Q0 := Lib.hid q0
    have L0 : Hid (w.heap.size < w.heap.size + 1 + 1) := Lib.hid (by omega)
    have Q1 := Lib.hid q1
    have L1 : Hid (w.heap.size + 1 < w.heap.size + 1 + 1) := Lib.hid (by omega)
    have LR : Hid (w.heap.size ≤ w.heap.size + 1 + 1) := Lib.hid (by omega)
    have RM := Lib.hid (Room.of q2 q3)
    have HB := Lib.hid hBW
    clear hW hz hBW q0 q1 q2 q3
    go_wp2_with fail
    go_region_held3 (fun w' => (w'.cell? ⟨w.heap.size, 0, none⟩ = some (.bool false) ∧ w'.cell? ⟨w.heap.size, 1, none⟩ = some (.slice a n c) ∧ w'.cell? ⟨w.heap.size + 1, 0, none⟩ = some (.bool false) ∧ w'.cell? ⟨w.heap.size + 1, 1, none⟩ = some (.slice a2 n2 c2)) ∧ (Room w' (w.heap.size + 1 + 1) 2 ∧ Below w.heap.size w w' ∧ Below (w.heap.size + 1 + 1) W w'))
      (first
        | exact ⟨⟨((Below.refl (w.heap.size + 1 + 1) W).drew.cell (p := ⟨w.heap.size, 0, none⟩) L0.out).trans (Q0.out 0), ((Below.refl (w.heap.size + 1 + 1) W).drew.cell (p := ⟨w.heap.size, 1, none⟩) L0.out).trans (Q0.out 1), ((Below.refl (w.heap.size + 1 + 1) W).drew.cell (p := ⟨w.heap.size + 1, 0, none⟩) L1.out).trans (Q1.out 0), ((Below.refl (w.heap.size + 1 + 1) W).drew.cell (p := ⟨w.heap.size + 1, 1, none⟩) L1.out).trans (Q1.out 1)⟩, RM.out.drew, HB.out.drew, (Below.refl _ _).drew⟩
        | (rename _ ∧ (Room _ _ _ ∧ Below w.heap.size w _ ∧ Below _ W _) => hS
           first
             | exact ⟨⟨((hS.2.2.2.trans (hb2.mono (Nat.le_of_lt (Nat.lt_of_lt_of_le HLT.out hS.2.2.2.size)))).cell (p := ⟨w.heap.size, 0, none⟩) L0.out).trans (Q0.out 0), ((hS.2.2.2.trans (hb2.mono (Nat.le_of_lt (Nat.lt_of_lt_of_le HLT.out hS.2.2.2.size)))).cell (p := ⟨w.heap.size, 1, none⟩) L0.out).trans (Q0.out 1), ((hS.2.2.2.trans (hb2.mono (Nat.le_of_lt (Nat.lt_of_lt_of_le HLT.out hS.2.2.2.size)))).cell (p := ⟨w.heap.size + 1, 0, none⟩) L1.out).trans (Q1.out 0), ((hS.2.2.2.trans (hb2.mono (Nat.le_of_lt (Nat.lt_of_lt_of_le HLT.out hS.2.2.2.size)))).cell (p := ⟨w.heap.size + 1, 1, none⟩) L1.out).trans (Q1.out 1)⟩, hS.2.1.past hb2 (Nat.lt_of_lt_of_le HLT.out hS.2.2.2.size), below_later hS.2.2.1 hb2, (hS.2.2.2.trans (hb2.mono (Nat.le_of_lt (Nat.lt_of_lt_of_le HLT.out hS.2.2.2.size))))⟩
             | exact ⟨⟨((hS.2.2.2.alloc (Nat.le_of_lt (Nat.lt_of_lt_of_le HLT.out hS.2.2.2.size)) _).cell (p := ⟨w.heap.size, 0, none⟩) L0.out).trans (Q0.out 0), ((hS.2.2.2.alloc (Nat.le_of_lt (Nat.lt_of_lt_of_le HLT.out hS.2.2.2.size)) _).cell (p := ⟨w.heap.size, 1, none⟩) L0.out).trans (Q0.out 1), ((hS.2.2.2.alloc (Nat.le_of_lt (Nat.lt_of_lt_of_le HLT.out hS.2.2.2.size)) _).cell (p := ⟨w.heap.size + 1, 0, none⟩) L1.out).trans (Q1.out 0), ((hS.2.2.2.alloc (Nat.le_of_lt (Nat.lt_of_lt_of_le HLT.out hS.2.2.2.size)) _).cell (p := ⟨w.heap.size + 1, 1, none⟩) L1.out).trans (Q1.out 1)⟩, hS.2.1.past ((Below.refl _ _).alloc (Nat.le_refl _) _) (Nat.lt_of_lt_of_le HLT.out hS.2.2.2.size), below_alloc hS.2.2.1 _, (hS.2.2.2.alloc (Nat.le_of_lt (Nat.lt_of_lt_of_le HLT.out hS.2.2.2.size)) _)⟩
             | exact ⟨⟨(((hS.2.2.2.setCell (p := ⟨w.heap.size + 1 + 1, 0, none⟩) (Nat.le_refl _) _).setCell (p := ⟨w.heap.size + 1 + 1, 1, none⟩) (Nat.le_refl _) _).cell (p := ⟨w.heap.size, 0, none⟩) L0.out).trans (Q0.out 0), (((hS.2.2.2.setCell (p := ⟨w.heap.size + 1 + 1, 0, none⟩) (Nat.le_refl _) _).setCell (p := ⟨w.heap.size + 1 + 1, 1, none⟩) (Nat.le_refl _) _).cell (p := ⟨w.heap.size, 1, none⟩) L0.out).trans (Q0.out 1), (((hS.2.2.2.setCell (p := ⟨w.heap.size + 1 + 1, 0, none⟩) (Nat.le_refl _) _).setCell (p := ⟨w.heap.size + 1 + 1, 1, none⟩) (Nat.le_refl _) _).cell (p := ⟨w.heap.size + 1, 0, none⟩) L1.out).trans (Q1.out 0), (((hS.2.2.2.setCell (p := ⟨w.heap.size + 1 + 1, 0, none⟩) (Nat.le_refl _) _).setCell (p := ⟨w.heap.size + 1 + 1, 1, none⟩) (Nat.le_refl _) _).cell (p := ⟨w.heap.size + 1, 1, none⟩) L1.out).trans (Q1.out 1)⟩, ((hS.2.1.set _ _).set _ _), ((hS.2.2.1.setCell (p := ⟨w.heap.size + 1 + 1, 0, none⟩) LR.out _).setCell (p := ⟨w.heap.size + 1 + 1, 1, none⟩) LR.out _), ((hS.2.2.2.setCell (p := ⟨w.heap.size + 1 + 1, 0, none⟩) (Nat.le_refl _) _).setCell (p := ⟨w.heap.size + 1 + 1, 1, none⟩) (Nat.le_refl _) _)⟩)
        | assumption)
      (first
        | (go_at_call 80; rename _ ∧ (Room _ _ _ ∧ Below w.heap.size w _ ∧ Below _ W _) => hS
           go_fit (HX.out _ (h.past hS.2.2.1) (h2.past hS.2.2.1))
           rintro e w3 ⟨a3, n3, c3, rfl, h3, hb2⟩
           have lt3 := Nat.lt_of_lt_of_le HLT.out hS.2.2.2.size
           have le3 := hS.2.2.1.size
           have rm3 := hS.2.1.past hb2 lt3
           obtain ⟨v0, v1, m0, m1, m2, m3⟩ := rm3.two
           have own3 := h3.ret2 lt3 le3 (.bool (neg Z)) (.slice a3 n3 c3)))
    all_goals
      rename _ ∧ (Room _ _ _ ∧ Below w.heap.size w _ ∧ Below _ W _) => hH
      have hs := retIntOf (z := Z) ⟨own3, hH.2.2.1⟩ rfl _ rfl
      clear hH
      go_wp2
      refine bodyPost_ret (v := .agg #[.bool (neg (Z)), .slice a3 n3 c3]) ?_ rfl hs
      simp [results, Try.f47, go_sem, m0, m1]
  · have HX := Lib.hid (fun (w : World) (k1 : NatAt w a n c l) (k2 : NatAt w a2 n2 c2 l2) => HAG.out w k1 k2 hs hs2 rfl)
    clear HAL HAG
    have hix : ∀ w : World, (Instr.index 75 (.agg #[.func (.func 80) #[] #[], .func (.func 81) #[] #[]]) (.int .i64 1)).run Try.prog w = .ok (.func (.func 81) #[] #[]) w := fun w => by kernel_rfl
    go_enter Try.func47, Try.ntmps47
    go_wp2_with fail
    obtain ⟨W, hW, hz, hBW, q0, q1, q2, q3⟩ := boxes3 w #[.bool false, .slice a n c] #[.bool true, .slice a2 n2 c2] #[.bool false, .slice none 0 0] 42 42 42
    rw [hW]
    have HLT : Hid (w.heap.size + 1 + 1 < W.heap.size) := Lib.hid (by omega)
    have Q0 := Lib.hid q0
    have L0 : Hid (w.heap.size < w.heap.size + 1 + 1) := Lib.hid (by omega)
    have Q1 := Lib.hid q1
    have L1 : Hid (w.heap.size + 1 < w.heap.size + 1 + 1) := Lib.hid (by omega)
    have LR : Hid (w.heap.size ≤ w.heap.size + 1 + 1) := Lib.hid (by omega)
    have RM := Lib.hid (Room.of q2 q3)
    have HB := Lib.hid hBW
    clear hW hz hBW q0 q1 q2 q3
    go_wp2_with fail
    go_region_held3 (fun w' => (w'.cell? ⟨w.heap.size, 0, none⟩ = some (.bool false) ∧ w'.cell? ⟨w.heap.size, 1, none⟩ = some (.slice a n c) ∧ w'.cell? ⟨w.heap.size + 1, 0, none⟩ = some (.bool true) ∧ w'.cell? ⟨w.heap.size + 1, 1, none⟩ = some (.slice a2 n2 c2)) ∧ (Room w' (w.heap.size + 1 + 1) 2 ∧ Below w.heap.size w w' ∧ Below (w.heap.size + 1 + 1) W w'))
      (first
        | exact ⟨⟨((Below.refl (w.heap.size + 1 + 1) W).drew.cell (p := ⟨w.heap.size, 0, none⟩) L0.out).trans (Q0.out 0), ((Below.refl (w.heap.size + 1 + 1) W).drew.cell (p := ⟨w.heap.size, 1, none⟩) L0.out).trans (Q0.out 1), ((Below.refl (w.heap.size + 1 + 1) W).drew.cell (p := ⟨w.heap.size + 1, 0, none⟩) L1.out).trans (Q1.out 0), ((Below.refl (w.heap.size + 1 + 1) W).drew.cell (p := ⟨w.heap.size + 1, 1, none⟩) L1.out).trans (Q1.out 1)⟩, RM.out.drew, HB.out.drew, (Below.refl _ _).drew⟩
        | (rename _ ∧ (Room _ _ _ ∧ Below w.heap.size w _ ∧ Below _ W _) => hS
           first
             | exact ⟨⟨((hS.2.2.2.trans (hb2.mono (Nat.le_of_lt (Nat.lt_of_lt_of_le HLT.out hS.2.2.2.size)))).cell (p := ⟨w.heap.size, 0, none⟩) L0.out).trans (Q0.out 0), ((hS.2.2.2.trans (hb2.mono (Nat.le_of_lt (Nat.lt_of_lt_of_le HLT.out hS.2.2.2.size)))).cell (p := ⟨w.heap.size, 1, none⟩) L0.out).trans (Q0.out 1), ((hS.2.2.2.trans (hb2.mono (Nat.le_of_lt (Nat.lt_of_lt_of_le HLT.out hS.2.2.2.size)))).cell (p := ⟨w.heap.size + 1, 0, none⟩) L1.out).trans (Q1.out 0), ((hS.2.2.2.trans (hb2.mono (Nat.le_of_lt (Nat.lt_of_lt_of_le HLT.out hS.2.2.2.size)))).cell (p := ⟨w.heap.size + 1, 1, none⟩) L1.out).trans (Q1.out 1)⟩, hS.2.1.past hb2 (Nat.lt_of_lt_of_le HLT.out hS.2.2.2.size), below_later hS.2.2.1 hb2, (hS.2.2.2.trans (hb2.mono (Nat.le_of_lt (Nat.lt_of_lt_of_le HLT.out hS.2.2.2.size))))⟩
             | exact ⟨⟨((hS.2.2.2.alloc (Nat.le_of_lt (Nat.lt_of_lt_of_le HLT.out hS.2.2.2.size)) _).cell (p := ⟨w.heap.size, 0, none⟩) L0.out).trans (Q0.out 0), ((hS.2.2.2.alloc (Nat.le_of_lt (Nat.lt_of_lt_of_le HLT.out hS.2.2.2.size)) _).cell (p := ⟨w.heap.size, 1, none⟩) L0.out).trans (Q0.out 1), ((hS.2.2.2.alloc (Nat.le_of_lt (Nat.lt_of_lt_of_le HLT.out hS.2.2.2.size)) _).cell (p := ⟨w.heap.size + 1, 0, none⟩) L1.out).trans (Q1.out 0), ((hS.2.2.2.alloc (Nat.le_of_lt (Nat.lt_of_lt_of_le HLT.out hS.2.2.2.size)) _).cell (p := ⟨w.heap.size + 1, 1, none⟩) L1.out).trans (Q1.out 1)⟩, hS.2.1.past ((Below.refl _ _).alloc (Nat.le_refl _) _) (Nat.lt_of_lt_of_le HLT.out hS.2.2.2.size), below_alloc hS.2.2.1 _, (hS.2.2.2.alloc (Nat.le_of_lt (Nat.lt_of_lt_of_le HLT.out hS.2.2.2.size)) _)⟩
             | exact ⟨⟨(((hS.2.2.2.setCell (p := ⟨w.heap.size + 1 + 1, 0, none⟩) (Nat.le_refl _) _).setCell (p := ⟨w.heap.size + 1 + 1, 1, none⟩) (Nat.le_refl _) _).cell (p := ⟨w.heap.size, 0, none⟩) L0.out).trans (Q0.out 0), (((hS.2.2.2.setCell (p := ⟨w.heap.size + 1 + 1, 0, none⟩) (Nat.le_refl _) _).setCell (p := ⟨w.heap.size + 1 + 1, 1, none⟩) (Nat.le_refl _) _).cell (p := ⟨w.heap.size, 1, none⟩) L0.out).trans (Q0.out 1), (((hS.2.2.2.setCell (p := ⟨w.heap.size + 1 + 1, 0, none⟩) (Nat.le_refl _) _).setCell (p := ⟨w.heap.size + 1 + 1, 1, none⟩) (Nat.le_refl _) _).cell (p := ⟨w.heap.size + 1, 0, none⟩) L1.out).trans (Q1.out 0), (((hS.2.2.2.setCell (p := ⟨w.heap.size + 1 + 1, 0, none⟩) (Nat.le_refl _) _).setCell (p := ⟨w.heap.size + 1 + 1, 1, none⟩) (Nat.le_refl _) _).cell (p := ⟨w.heap.size + 1, 1, none⟩) L1.out).trans (Q1.out 1)⟩, ((hS.2.1.set _ _).set _ _), ((hS.2.2.1.setCell (p := ⟨w.heap.size + 1 + 1, 0, none⟩) LR.out _).setCell (p := ⟨w.heap.size + 1 + 1, 1, none⟩) LR.out _), ((hS.2.2.2.setCell (p := ⟨w.heap.size + 1 + 1, 0, none⟩) (Nat.le_refl _) _).setCell (p := ⟨w.heap.size + 1 + 1, 1, none⟩) (Nat.le_refl _) _)⟩)
        | assumption)
      (first
        | (go_at_call 81; rename _ ∧ (Room _ _ _ ∧ Below w.heap.size w _ ∧ Below _ W _) => hS
           go_fit (HX.out _ (h.past hS.2.2.1) (h2.past hS.2.2.1))
           rintro e w3 ⟨a3, n3, c3, rfl, h3, hb2⟩
           have lt3 := Nat.lt_of_lt_of_le HLT.out hS.2.2.2.size
           have le3 := hS.2.2.1.size
           have rm3 := hS.2.1.past hb2 lt3
           obtain ⟨v0, v1, m0, m1, m2, m3⟩ := rm3.two
           have own3 := h3.ret2 lt3 le3 (.bool (neg Z)) (.slice a3 n3 c3)))
    all_goals
      rename _ ∧ (Room _ _ _ ∧ Below w.heap.size w _ ∧ Below _ W _) => hH
      have hs := retIntOf (z := Z) ⟨own3, hH.2.2.1⟩ rfl _ rfl
      clear hH
      go_wp2
      refine bodyPost_ret (v := .agg #[.bool (neg (Z)), .slice a3 n3 c3]) ?_ rfl hs
      simp [results, Try.f47, go_sem, m0, m1]
  · have HX := Lib.hid (fun (w : World) (k1 : NatAt w a n c l) (k2 : NatAt w a2 n2 c2 l2) => HAG.out w k1 k2 hs hs2 rfl)
    clear HAL HAG
    have hix : ∀ w : World, (Instr.index 75 (.agg #[.func (.func 80) #[] #[], .func (.func 81) #[] #[]]) (.int .i64 1)).run Try.prog w = .ok (.func (.func 81) #[] #[]) w := fun w => by kernel_rfl
    go_enter Try.func47, Try.ntmps47
    go_wp2_with fail
    obtain ⟨W, hW, hz, hBW, q0, q1, q2, q3⟩ := boxes3 w #[.bool true, .slice a n c] #[.bool false, .slice a2 n2 c2] #[.bool false, .slice none 0 0] 42 42 42
    rw [hW]
    have HLT : Hid (w.heap.size + 1 + 1 < W.heap.size) := Lib.hid (by omega)
    have Q0 := Lib.hid q0
    have L0 : Hid (w.heap.size < w.heap.size + 1 + 1) := Lib.hid (by omega)
    have Q1 := Lib.hid q1
    have L1 : Hid (w.heap.size + 1 < w.heap.size + 1 + 1) := Lib.hid (by omega)
    have LR : Hid (w.heap.size ≤ w.heap.size + 1 + 1) := Lib.hid (by omega)
    have RM := Lib.hid (Room.of q2 q3)
    have HB := Lib.hid hBW
    clear hW hz hBW q0 q1 q2 q3
    go_wp2_with fail
    go_region_held3 (fun w' => (w'.cell? ⟨w.heap.size, 0, none⟩ = some (.bool true) ∧ w'.cell? ⟨w.heap.size, 1, none⟩ = some (.slice a n c) ∧ w'.cell? ⟨w.heap.size + 1, 0, none⟩ = some (.bool false) ∧ w'.cell? ⟨w.heap.size + 1, 1, none⟩ = some (.slice a2 n2 c2)) ∧ (Room w' (w.heap.size + 1 + 1) 2 ∧ Below w.heap.size w w' ∧ Below (w.heap.size + 1 + 1) W w'))
      (first
        | exact ⟨⟨((Below.refl (w.heap.size + 1 + 1) W).drew.cell (p := ⟨w.heap.size, 0, none⟩) L0.out).trans (Q0.out 0), ((Below.refl (w.heap.size + 1 + 1) W).drew.cell (p := ⟨w.heap.size, 1, none⟩) L0.out).trans (Q0.out 1), ((Below.refl (w.heap.size + 1 + 1) W).drew.cell (p := ⟨w.heap.size + 1, 0, none⟩) L1.out).trans (Q1.out 0), ((Below.refl (w.heap.size + 1 + 1) W).drew.cell (p := ⟨w.heap.size + 1, 1, none⟩) L1.out).trans (Q1.out 1)⟩, RM.out.drew, HB.out.drew, (Below.refl _ _).drew⟩
        | (rename _ ∧ (Room _ _ _ ∧ Below w.heap.size w _ ∧ Below _ W _) => hS
           first
             | exact ⟨⟨((hS.2.2.2.trans (hb2.mono (Nat.le_of_lt (Nat.lt_of_lt_of_le HLT.out hS.2.2.2.size)))).cell (p := ⟨w.heap.size, 0, none⟩) L0.out).trans (Q0.out 0), ((hS.2.2.2.trans (hb2.mono (Nat.le_of_lt (Nat.lt_of_lt_of_le HLT.out hS.2.2.2.size)))).cell (p := ⟨w.heap.size, 1, none⟩) L0.out).trans (Q0.out 1), ((hS.2.2.2.trans (hb2.mono (Nat.le_of_lt (Nat.lt_of_lt_of_le HLT.out hS.2.2.2.size)))).cell (p := ⟨w.heap.size + 1, 0, none⟩) L1.out).trans (Q1.out 0), ((hS.2.2.2.trans (hb2.mono (Nat.le_of_lt (Nat.lt_of_lt_of_le HLT.out hS.2.2.2.size)))).cell (p := ⟨w.heap.size + 1, 1, none⟩) L1.out).trans (Q1.out 1)⟩, hS.2.1.past hb2 (Nat.lt_of_lt_of_le HLT.out hS.2.2.2.size), below_later hS.2.2.1 hb2, (hS.2.2.2.trans (hb2.mono (Nat.le_of_lt (Nat.lt_of_lt_of_le HLT.out hS.2.2.2.size))))⟩
             | exact ⟨⟨((hS.2.2.2.alloc (Nat.le_of_lt (Nat.lt_of_lt_of_le HLT.out hS.2.2.2.size)) _).cell (p := ⟨w.heap.size, 0, none⟩) L0.out).trans (Q0.out 0), ((hS.2.2.2.alloc (Nat.le_of_lt (Nat.lt_of_lt_of_le HLT.out hS.2.2.2.size)) _).cell (p := ⟨w.heap.size, 1, none⟩) L0.out).trans (Q0.out 1), ((hS.2.2.2.alloc (Nat.le_of_lt (Nat.lt_of_lt_of_le HLT.out hS.2.2.2.size)) _).cell (p := ⟨w.heap.size + 1, 0, none⟩) L1.out).trans (Q1.out 0), ((hS.2.2.2.alloc (Nat.le_of_lt (Nat.lt_of_lt_of_le HLT.out hS.2.2.2.size)) _).cell (p := ⟨w.heap.size + 1, 1, none⟩) L1.out).trans (Q1.out 1)⟩, hS.2.1.past ((Below.refl _ _).alloc (Nat.le_refl _) _) (Nat.lt_of_lt_of_le HLT.out hS.2.2.2.size), below_alloc hS.2.2.1 _, (hS.2.2.2.alloc (Nat.le_of_lt (Nat.lt_of_lt_of_le HLT.out hS.2.2.2.size)) _)⟩
             | exact ⟨⟨(((hS.2.2.2.setCell (p := ⟨w.heap.size + 1 + 1, 0, none⟩) (Nat.le_refl _) _).setCell (p := ⟨w.heap.size + 1 + 1, 1, none⟩) (Nat.le_refl _) _).cell (p := ⟨w.heap.size, 0, none⟩) L0.out).trans (Q0.out 0), (((hS.2.2.2.setCell (p := ⟨w.heap.size + 1 + 1, 0, none⟩) (Nat.le_refl _) _).setCell (p := ⟨w.heap.size + 1 + 1, 1, none⟩) (Nat.le_refl _) _).cell (p := ⟨w.heap.size, 1, none⟩) L0.out).trans (Q0.out 1), (((hS.2.2.2.setCell (p := ⟨w.heap.size + 1 + 1, 0, none⟩) (Nat.le_refl _) _).setCell (p := ⟨w.heap.size + 1 + 1, 1, none⟩) (Nat.le_refl _) _).cell (p := ⟨w.heap.size + 1, 0, none⟩) L1.out).trans (Q1.out 0), (((hS.2.2.2.setCell (p := ⟨w.heap.size + 1 + 1, 0, none⟩) (Nat.le_refl _) _).setCell (p := ⟨w.heap.size + 1 + 1, 1, none⟩) (Nat.le_refl _) _).cell (p := ⟨w.heap.size + 1, 1, none⟩) L1.out).trans (Q1.out 1)⟩, ((hS.2.1.set _ _).set _ _), ((hS.2.2.1.setCell (p := ⟨w.heap.size + 1 + 1, 0, none⟩) LR.out _).setCell (p := ⟨w.heap.size + 1 + 1, 1, none⟩) LR.out _), ((hS.2.2.2.setCell (p := ⟨w.heap.size + 1 + 1, 0, none⟩) (Nat.le_refl _) _).setCell (p := ⟨w.heap.size + 1 + 1, 1, none⟩) (Nat.le_refl _) _)⟩)
        | assumption)
      (first
        | (go_at_call 81; rename _ ∧ (Room _ _ _ ∧ Below w.heap.size w _ ∧ Below _ W _) => hS
           go_fit (HX.out _ (h.past hS.2.2.1) (h2.past hS.2.2.1))
           rintro e w3 ⟨a3, n3, c3, rfl, h3, hb2⟩
           have lt3 := Nat.lt_of_lt_of_le HLT.out hS.2.2.2.size
           have le3 := hS.2.2.1.size
           have rm3 := hS.2.1.past hb2 lt3
           obtain ⟨v0, v1, m0, m1, m2, m3⟩ := rm3.two
           have own3 := h3.ret2 lt3 le3 (.bool (neg Z)) (.slice a3 n3 c3)))
    all_goals
      rename _ ∧ (Room _ _ _ ∧ Below w.heap.size w _ ∧ Below _ W _) => hH
      have hs := retIntOf (z := Z) ⟨own3, hH.2.2.1⟩ rfl _ rfl
      clear hH
      go_wp2
      refine bodyPost_ret (v := .agg #[.bool (neg (Z)), .slice a3 n3 c3]) ?_ rfl hs
      simp [results, Try.f47, go_sem, m0, m1]
  · have HX := Lib.hid (fun (w : World) (k1 : NatAt w a n c l) (k2 : NatAt w a2 n2 c2 l2) => HAL.out w k1 k2 hs hs2 rfl)
    clear HAL HAG
    have hix : ∀ w : World, (Instr.index 75 (.agg #[.func (.func 80) #[] #[], .func (.func 81) #[] #[]]) (.int .i64 0)).run Try.prog w = .ok (.func (.func 80) #[] #[]) w := fun w => by kernel_rfl
    go_enter Try.func47, Try.ntmps47
    go_wp2_with fail
    obtain ⟨W, hW, hz, hBW, q0, q1, q2, q3⟩ := boxes3 w #[.bool true, .slice a n c] #[.bool true, .slice a2 n2 c2] #[.bool false, .slice none 0 0] 42 42 42
    rw [hW]
    have HLT : Hid (w.heap.size + 1 + 1 < W.heap.size) := Lib.hid (by omega)
    have Q0 := Lib.hid q0
    have L0 : Hid (w.heap.size < w.heap.size + 1 + 1) := Lib.hid (by omega)
    have Q1 := Lib.hid q1
    have L1 : Hid (w.heap.size + 1 < w.heap.size + 1 + 1) := Lib.hid (by omega)
    have LR : Hid (w.heap.size ≤ w.heap.size + 1 + 1) := Lib.hid (by omega)
    have RM := Lib.hid (Room.of q2 q3)
    have HB := Lib.hid hBW
    clear hW hz hBW q0 q1 q2 q3
    go_wp2_with fail
    go_region_held3 (fun w' => (w'.cell? ⟨w.heap.size, 0, none⟩ = some (.bool true) ∧ w'.cell? ⟨w.heap.size, 1, none⟩ = some (.slice a n c) ∧ w'.cell? ⟨w.heap.size + 1, 0, none⟩ = some (.bool true) ∧ w'.cell? ⟨w.heap.size + 1, 1, none⟩ = some (.slice a2 n2 c2)) ∧ (Room w' (w.heap.size + 1 + 1) 2 ∧ Below w.heap.size w w' ∧ Below (w.heap.size + 1 + 1) W w'))
      (first
        | exact ⟨⟨((Below.refl (w.heap.size + 1 + 1) W).drew.cell (p := ⟨w.heap.size, 0, none⟩) L0.out).trans (Q0.out 0), ((Below.refl (w.heap.size + 1 + 1) W).drew.cell (p := ⟨w.heap.size, 1, none⟩) L0.out).trans (Q0.out 1), ((Below.refl (w.heap.size + 1 + 1) W).drew.cell (p := ⟨w.heap.size + 1, 0, none⟩) L1.out).trans (Q1.out 0), ((Below.refl (w.heap.size + 1 + 1) W).drew.cell (p := ⟨w.heap.size + 1, 1, none⟩) L1.out).trans (Q1.out 1)⟩, RM.out.drew, HB.out.drew, (Below.refl _ _).drew⟩
        | (rename _ ∧ (Room _ _ _ ∧ Below w.heap.size w _ ∧ Below _ W _) => hS
           first
             | exact ⟨⟨((hS.2.2.2.trans (hb2.mono (Nat.le_of_lt (Nat.lt_of_lt_of_le HLT.out hS.2.2.2.size)))).cell (p := ⟨w.heap.size, 0, none⟩) L0.out).trans (Q0.out 0), ((hS.2.2.2.trans (hb2.mono (Nat.le_of_lt (Nat.lt_of_lt_of_le HLT.out hS.2.2.2.size)))).cell (p := ⟨w.heap.size, 1, none⟩) L0.out).trans (Q0.out 1), ((hS.2.2.2.trans (hb2.mono (Nat.le_of_lt (Nat.lt_of_lt_of_le HLT.out hS.2.2.2.size)))).cell (p := ⟨w.heap.size + 1, 0, none⟩) L1.out).trans (Q1.out 0), ((hS.2.2.2.trans (hb2.mono (Nat.le_of_lt (Nat.lt_of_lt_of_le HLT.out hS.2.2.2.size)))).cell (p := ⟨w.heap.size + 1, 1, none⟩) L1.out).trans (Q1.out 1)⟩, hS.2.1.past hb2 (Nat.lt_of_lt_of_le HLT.out hS.2.2.2.size), below_later hS.2.2.1 hb2, (hS.2.2.2.trans (hb2.mono (Nat.le_of_lt (Nat.lt_of_lt_of_le HLT.out hS.2.2.2.size))))⟩
             | exact ⟨⟨((hS.2.2.2.alloc (Nat.le_of_lt (Nat.lt_of_lt_of_le HLT.out hS.2.2.2.size)) _).cell (p := ⟨w.heap.size, 0, none⟩) L0.out).trans (Q0.out 0), ((hS.2.2.2.alloc (Nat.le_of_lt (Nat.lt_of_lt_of_le HLT.out hS.2.2.2.size)) _).cell (p := ⟨w.heap.size, 1, none⟩) L0.out).trans (Q0.out 1), ((hS.2.2.2.alloc (Nat.le_of_lt (Nat.lt_of_lt_of_le HLT.out hS.2.2.2.size)) _).cell (p := ⟨w.heap.size + 1, 0, none⟩) L1.out).trans (Q1.out 0), ((hS.2.2.2.alloc (Nat.le_of_lt (Nat.lt_of_lt_of_le HLT.out hS.2.2.2.size)) _).cell (p := ⟨w.heap.size + 1, 1, none⟩) L1.out).trans (Q1.out 1)⟩, hS.2.1.past ((Below.refl _ _).alloc (Nat.le_refl _) _) (Nat.lt_of_lt_of_le HLT.out hS.2.2.2.size), below_alloc hS.2.2.1 _, (hS.2.2.2.alloc (Nat.le_of_lt (Nat.lt_of_lt_of_le HLT.out hS.2.2.2.size)) _)⟩
             | exact ⟨⟨(((hS.2.2.2.setCell (p := ⟨w.heap.size + 1 + 1, 0, none⟩) (Nat.le_refl _) _).setCell (p := ⟨w.heap.size + 1 + 1, 1, none⟩) (Nat.le_refl _) _).cell (p := ⟨w.heap.size, 0, none⟩) L0.out).trans (Q0.out 0), (((hS.2.2.2.setCell (p := ⟨w.heap.size + 1 + 1, 0, none⟩) (Nat.le_refl _) _).setCell (p := ⟨w.heap.size + 1 + 1, 1, none⟩) (Nat.le_refl _) _).cell (p := ⟨w.heap.size, 1, none⟩) L0.out).trans (Q0.out 1), (((hS.2.2.2.setCell (p := ⟨w.heap.size + 1 + 1, 0, none⟩) (Nat.le_refl _) _).setCell (p := ⟨w.heap.size + 1 + 1, 1, none⟩) (Nat.le_refl _) _).cell (p := ⟨w.heap.size + 1, 0, none⟩) L1.out).trans (Q1.out 0), (((hS.2.2.2.setCell (p := ⟨w.heap.size + 1 + 1, 0, none⟩) (Nat.le_refl _) _).setCell (p := ⟨w.heap.size + 1 + 1, 1, none⟩) (Nat.le_refl _) _).cell (p := ⟨w.heap.size + 1, 1, none⟩) L1.out).trans (Q1.out 1)⟩, ((hS.2.1.set _ _).set _ _), ((hS.2.2.1.setCell (p := ⟨w.heap.size + 1 + 1, 0, none⟩) LR.out _).setCell (p := ⟨w.heap.size + 1 + 1, 1, none⟩) LR.out _), ((hS.2.2.2.setCell (p := ⟨w.heap.size + 1 + 1, 0, none⟩) (Nat.le_refl _) _).setCell (p := ⟨w.heap.size + 1 + 1, 1, none⟩) (Nat.le_refl _) _)⟩)
        | assumption)
      (first
        | (go_at_call 80; rename _ ∧ (Room _ _ _ ∧ Below w.heap.size w _ ∧ Below _ W _) => hS
           go_fit (HX.out _ (h.past hS.2.2.1) (h2.past hS.2.2.1))
           rintro e w3 ⟨a3, n3, c3, rfl, h3, hb2⟩
           have lt3 := Nat.lt_of_lt_of_le HLT.out hS.2.2.2.size
           have le3 := hS.2.2.1.size
           have rm3 := hS.2.1.past hb2 lt3
           obtain ⟨v0, v1, m0, m1, m2, m3⟩ := rm3.two
           have own3 := h3.ret2 lt3 le3 (.bool (neg Z)) (.slice a3 n3 c3)))
    all_goals
      rename _ ∧ (Room _ _ _ ∧ Below w.heap.size w _ ∧ Below _ W _) => hH
      have hs := retIntOf (z := Z) ⟨own3, hH.2.2.1⟩ rfl _ rfl
      clear hH
      go_wp2
      refine bodyPost_ret (v := .agg #[.bool (neg (Z)), .slice a3 n3 c3]) ?_ rfl hs
      simp [results, Try.f47, go_sem, m0, m1]
set_option maxRecDepth 100000 in
theorem ssub_any (b : Bool) (a : Option Addr) (n c : Nat) (l : List Nat) (b2 : Bool) (a2 : Option Addr) (n2 c2 : Nat) (l2 : List Nat) (w : World) (h : NatAt w a n c l) (h2 : NatAt w a2 n2 c2 l2) (hs : n ≤ 274877906944) (hs2 : n2 ≤ 274877906944) :
    Calls Try.prog 48 #[.agg #[.bool b, .slice a n c], .agg #[.bool b2, .slice a2 n2 c2]] w (RetInt w (sg b (val l) - sg b2 (val l2))) := by
  have hlen : (digs (-sg b2 (val l2)).natAbs).length ≤ 274877906944 := by rw [Int.natAbs_neg, natAbs_sg]; have := h2.short; omega
  have HL := Lib.hid hlen
  clear hlen
  have he : sg b (val l) + sg (neg (-sg b2 (val l2))) (val (digs (-sg b2 (val l2)).natAbs)) = sg b (val l) - sg b2 (val l2) := by rw [sg_canon]; omega
  have HE := Lib.hid he
  clear he
  go_enter Try.func48, Try.ntmps48
  go_wp2_with fail
  obtain ⟨W, hW, hz, hBW, q0, q1, q2, q3⟩ := boxes3 w #[.bool b, .slice a n c] #[.bool b2, .slice a2 n2 c2] #[.bool false, .slice none 0 0] 42 42 42
  rw [hW]
  have HLT : Hid (w.heap.size + 1 + 1 < W.heap.size) := Lib.hid (by omega)
  have Q0 := Lib.hid q0
  have L0 : Hid (w.heap.size < w.heap.size + 1 + 1) := Lib.hid (by omega)
  have Q1 := Lib.hid q1
  have L1 : Hid (w.heap.size + 1 < w.heap.size + 1 + 1) := Lib.hid (by omega)
  have LR : Hid (w.heap.size ≤ w.heap.size + 1 + 1) := Lib.hid (by omega)
  have RM := Lib.hid (Room.of q2 q3)
  have HB := Lib.hid hBW
  clear hW hz hBW q0 q1 q2 q3
  go_region_held3 (fun w' => (w'.cell? ⟨w.heap.size, 0, none⟩ = some (.bool b) ∧ w'.cell? ⟨w.heap.size, 1, none⟩ = some (.slice a n c) ∧ w'.cell? ⟨w.heap.size + 1, 0, none⟩ = some (.bool b2) ∧ w'.cell? ⟨w.heap.size + 1, 1, none⟩ = some (.slice a2 n2 c2)) ∧ (Room w' (w.heap.size + 1 + 1) 2 ∧ Below w.heap.size w w' ∧ Below (w.heap.size + 1 + 1) W w'))
    (first
      | exact ⟨⟨((Below.refl (w.heap.size + 1 + 1) W).drew.cell (p := ⟨w.heap.size, 0, none⟩) L0.out).trans (Q0.out 0), ((Below.refl (w.heap.size + 1 + 1) W).drew.cell (p := ⟨w.heap.size, 1, none⟩) L0.out).trans (Q0.out 1), ((Below.refl (w.heap.size + 1 + 1) W).drew.cell (p := ⟨w.heap.size + 1, 0, none⟩) L1.out).trans (Q1.out 0), ((Below.refl (w.heap.size + 1 + 1) W).drew.cell (p := ⟨w.heap.size + 1, 1, none⟩) L1.out).trans (Q1.out 1)⟩, RM.out.drew, HB.out.drew, (Below.refl _ _).drew⟩
      | (rename _ ∧ (Room _ _ _ ∧ Below w.heap.size w _ ∧ Below _ W _) => hS
         first
           | exact ⟨⟨((hS.2.2.2.trans (hb2.mono (Nat.le_of_lt (Nat.lt_of_lt_of_le HLT.out hS.2.2.2.size)))).cell (p := ⟨w.heap.size, 0, none⟩) L0.out).trans (Q0.out 0), ((hS.2.2.2.trans (hb2.mono (Nat.le_of_lt (Nat.lt_of_lt_of_le HLT.out hS.2.2.2.size)))).cell (p := ⟨w.heap.size, 1, none⟩) L0.out).trans (Q0.out 1), ((hS.2.2.2.trans (hb2.mono (Nat.le_of_lt (Nat.lt_of_lt_of_le HLT.out hS.2.2.2.size)))).cell (p := ⟨w.heap.size + 1, 0, none⟩) L1.out).trans (Q1.out 0), ((hS.2.2.2.trans (hb2.mono (Nat.le_of_lt (Nat.lt_of_lt_of_le HLT.out hS.2.2.2.size)))).cell (p := ⟨w.heap.size + 1, 1, none⟩) L1.out).trans (Q1.out 1)⟩, hS.2.1.past hb2 (Nat.lt_of_lt_of_le HLT.out hS.2.2.2.size), below_later hS.2.2.1 hb2, (hS.2.2.2.trans (hb2.mono (Nat.le_of_lt (Nat.lt_of_lt_of_le HLT.out hS.2.2.2.size))))⟩
           | exact ⟨⟨((hS.2.2.2.trans (hb1.mono (Nat.le_of_lt (Nat.lt_of_lt_of_le HLT.out hS.2.2.2.size)))).cell (p := ⟨w.heap.size, 0, none⟩) L0.out).trans (Q0.out 0), ((hS.2.2.2.trans (hb1.mono (Nat.le_of_lt (Nat.lt_of_lt_of_le HLT.out hS.2.2.2.size)))).cell (p := ⟨w.heap.size, 1, none⟩) L0.out).trans (Q0.out 1), ((hS.2.2.2.trans (hb1.mono (Nat.le_of_lt (Nat.lt_of_lt_of_le HLT.out hS.2.2.2.size)))).cell (p := ⟨w.heap.size + 1, 0, none⟩) L1.out).trans (Q1.out 0), ((hS.2.2.2.trans (hb1.mono (Nat.le_of_lt (Nat.lt_of_lt_of_le HLT.out hS.2.2.2.size)))).cell (p := ⟨w.heap.size + 1, 1, none⟩) L1.out).trans (Q1.out 1)⟩, hS.2.1.past hb1 (Nat.lt_of_lt_of_le HLT.out hS.2.2.2.size), below_later hS.2.2.1 hb1, (hS.2.2.2.trans (hb1.mono (Nat.le_of_lt (Nat.lt_of_lt_of_le HLT.out hS.2.2.2.size))))⟩
           | exact ⟨⟨((hS.2.2.2.alloc (Nat.le_of_lt (Nat.lt_of_lt_of_le HLT.out hS.2.2.2.size)) _).cell (p := ⟨w.heap.size, 0, none⟩) L0.out).trans (Q0.out 0), ((hS.2.2.2.alloc (Nat.le_of_lt (Nat.lt_of_lt_of_le HLT.out hS.2.2.2.size)) _).cell (p := ⟨w.heap.size, 1, none⟩) L0.out).trans (Q0.out 1), ((hS.2.2.2.alloc (Nat.le_of_lt (Nat.lt_of_lt_of_le HLT.out hS.2.2.2.size)) _).cell (p := ⟨w.heap.size + 1, 0, none⟩) L1.out).trans (Q1.out 0), ((hS.2.2.2.alloc (Nat.le_of_lt (Nat.lt_of_lt_of_le HLT.out hS.2.2.2.size)) _).cell (p := ⟨w.heap.size + 1, 1, none⟩) L1.out).trans (Q1.out 1)⟩, hS.2.1.past ((Below.refl _ _).alloc (Nat.le_refl _) _) (Nat.lt_of_lt_of_le HLT.out hS.2.2.2.size), below_alloc hS.2.2.1 _, (hS.2.2.2.alloc (Nat.le_of_lt (Nat.lt_of_lt_of_le HLT.out hS.2.2.2.size)) _)⟩
           | exact ⟨⟨(((hS.2.2.2.setCell (p := ⟨w.heap.size + 1 + 1, 0, none⟩) (Nat.le_refl _) _).setCell (p := ⟨w.heap.size + 1 + 1, 1, none⟩) (Nat.le_refl _) _).cell (p := ⟨w.heap.size, 0, none⟩) L0.out).trans (Q0.out 0), (((hS.2.2.2.setCell (p := ⟨w.heap.size + 1 + 1, 0, none⟩) (Nat.le_refl _) _).setCell (p := ⟨w.heap.size + 1 + 1, 1, none⟩) (Nat.le_refl _) _).cell (p := ⟨w.heap.size, 1, none⟩) L0.out).trans (Q0.out 1), (((hS.2.2.2.setCell (p := ⟨w.heap.size + 1 + 1, 0, none⟩) (Nat.le_refl _) _).setCell (p := ⟨w.heap.size + 1 + 1, 1, none⟩) (Nat.le_refl _) _).cell (p := ⟨w.heap.size + 1, 0, none⟩) L1.out).trans (Q1.out 0), (((hS.2.2.2.setCell (p := ⟨w.heap.size + 1 + 1, 0, none⟩) (Nat.le_refl _) _).setCell (p := ⟨w.heap.size + 1 + 1, 1, none⟩) (Nat.le_refl _) _).cell (p := ⟨w.heap.size + 1, 1, none⟩) L1.out).trans (Q1.out 1)⟩, ((hS.2.1.set _ _).set _ _), ((hS.2.2.1.setCell (p := ⟨w.heap.size + 1 + 1, 0, none⟩) LR.out _).setCell (p := ⟨w.heap.size + 1 + 1, 1, none⟩) LR.out _), ((hS.2.2.2.setCell (p := ⟨w.heap.size + 1 + 1, 0, none⟩) (Nat.le_refl _) _).setCell (p := ⟨w.heap.size + 1 + 1, 1, none⟩) (Nat.le_refl _) _)⟩)
      | assumption)
    (first
      | (go_at_call 50; rename _ ∧ (Room _ _ _ ∧ Below w.heap.size w _ ∧ Below _ W _) => hS
         go_fit (sneg_any _ _ _ _ l2 _ (h2.past hS.2.2.1) (by omega))
         rintro e w1 ⟨a1, n1, c1, rfl, h1, hb1⟩)
      | (go_at_call 47; rename _ ∧ (Room _ _ _ ∧ Below w.heap.size w _ ∧ Below _ W _) => hS
         go_fit (sadd_any _ _ _ _ l _ _ _ _ _ _ (h.past hS.2.2.1) h1.toNatAt hs (h1.len ▸ HL.out))
         rintro e w3 ⟨a3, n3, c3, rfl, h3, hb2⟩
         rw [HE.out] at h3 ⊢
         have lt3 := Nat.lt_of_lt_of_le HLT.out hS.2.2.2.size
         have le3 := hS.2.2.1.size
         have rm3 := hS.2.1.past hb2 lt3
         obtain ⟨v0, v1, m0, m1, m2, m3⟩ := rm3.two
         have own3 := h3.ret2 lt3 le3 (.bool (neg (sg b (val l) - sg b2 (val l2)))) (.slice a3 n3 c3)))
  all_goals
    rename _ ∧ (Room _ _ _ ∧ Below w.heap.size w _ ∧ Below _ W _) => hH
    have hs := retIntOf (z := sg b (val l) - sg b2 (val l2)) ⟨own3, hH.2.2.1⟩ rfl _ rfl
    clear hH
    go_wp2
    refine bodyPost_ret (v := .agg #[.bool (neg (sg b (val l) - sg b2 (val l2))), .slice a3 n3 c3]) ?_ rfl hs
    simp [results, Try.f48, go_sem, m0, m1]
set_option maxRecDepth 100000 in
/-- two boxes that are not looked at again but to be read -/
theorem scmp_any (b : Bool) (a : Option Addr) (n c : Nat) (l : List Nat) (b2 : Bool) (a2 : Option Addr) (n2 c2 : Nat) (l2 : List Nat) (w : World) (h : NatAt w a n c l) (h2 : NatAt w a2 n2 c2 l2) (hs : n ≤ 274877906944) (hs2 : n2 ≤ 274877906944) :
    Calls Try.prog 55 #[.agg #[.bool b, .slice a n c], .agg #[.bool b2, .slice a2 n2 c2]] w (RetVal w (.int .i64 (sg b (val l) - sg b2 (val l2)).sign)) := by
  have hlen : (digs (sg b (val l) - sg b2 (val l2)).natAbs).length ≤ 1099511627776 := by
    refine Nat.le_trans (digs_len_mono (b := val l + val l2) (by have := natAbs_sg b (val l); have := natAbs_sg b2 (val l2); omega)) ?_
    have := h.short; have := h2.short; have := digs_len_add (val l) (val l2); omega
  have HL := Lib.hid hlen
  clear hlen
  go_enter Try.func55, Try.ntmps55
  go_wp2_with fail
  with_reducible refine (ssub_any _ _ _ _ l _ _ _ _ l2 _ ((h.alloc _).alloc _) ((h2.alloc _).alloc _) hs hs2).mono ?_
  rintro e w1 ⟨a1, n1, c1, rfl, h1, hb1⟩
  have hB := below_later (((Below.refl w.heap.size w).alloc (Nat.le_refl _) _).alloc (by simp) _) hb1
  clear hb1
  go_wp2_with fail
  with_reducible refine (sign_any _ _ _ _ _ _ h1.toNatAt (h1.len ▸ HL.out)).mono ?_
  rintro e w2 ⟨rfl, hb2⟩
  rw [sg_canon]
  go_wp2
  go_ret
  exact ⟨rfl, below_later hB hb2⟩

end Go.Proofs.Ytlljljhiimeajaa
