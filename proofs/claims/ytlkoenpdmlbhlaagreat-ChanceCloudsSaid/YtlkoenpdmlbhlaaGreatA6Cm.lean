import Derived.Deep.RegionHeld3
import Derived.Test.YtlkoenpdmlbhlaaGreatS0Cm
import Derived.Test.YtlkoenpdmlbhlaaGreatA4Cm
import Derived.Test.YtlkoenpdmlbhlaaGreatA5Cm
import Derived.Test.YtlkoenpdmlbhlaaGreatA2Cm
set_option linter.unusedVariables false
set_option linter.unusedSimpArgs false
namespace Go.Proofs.YtlkoenpdmlbhlaaGreat
open Go.RowKit
set_option maxRecDepth 100000 in
theorem rsmake_any (b : Bool) (a : Option Addr) (n c : Nat) (l : List Nat) (w : World) (h : NatAt w a n c l) (hs : n ≤ 1099511627776) :
 Calls Tryz.prog 97 #[.bool b, .slice a n c] w (RetInt w (sg b (val l))) := by
 cases b
 all_goals
  go_enter Tryz.func97, Tryz.ntmps97
  go_wp2_with fail
  with_reducible refine (rtrim_any _ _ _ l _ (h.alloc _) hs).mono ?_
  rintro e w1 ⟨a1, n1, c1, rfl, h1, hb⟩
  obtain ⟨hc, hf⟩ := bcell hb
  have hz : w.heap.size < w1.heap.size := by have := hb.size; simp at this; omega
  go_wp2
  refine bodyPost_ret (v := .agg #[.bool (neg (sg _ (val l))), .slice a1 n1 c1]) ?_ rfl ⟨_, _, _, rfl, ?_, ?_⟩
  · simp [results, Tryz.f97, go_sem, hc, hz]
    have hl := h1.len
    have h0 := digs_len0 (n := val l)
    rw [neg_sg]
    first
     | rfl
     | (simp only [Bool.true_and, decide_eq_decide]; omega)
  · rw [natAbs_sg]
    exact ((h1.setOff (by simp) _).setOff (by simp) _).mono (by simp)
  · have hB := below_later ((Below.refl w.heap.size w).alloc (Nat.le_refl _) _) hb
    exact ((hB.setCell (p := ⟨w.heap.size, 0, none⟩) (Nat.le_refl _) _).setCell (p := ⟨w.heap.size, 1, none⟩) (Nat.le_refl _) _)
set_option maxRecDepth 100000 in
theorem rsof_any (x : Int) (w : World) (h0 : -9223372036854775808 ≤ x) (h1 : x ≤ 9223372036854775807) :
 Calls Tryz.prog 103 #[.int .i64 x] w (RetInt w x) := by
 by_cases hx : x < 0
 · obtain ⟨v1, v2⟩ := u64_neg h0 hx
   have v3 : sg true x.natAbs = x := by rw [sg_true]; omega
   have V1 := Lib.hid v1
   have V3 := Lib.hid v3
   clear v1 v3
   go_enter Tryz.func103, Tryz.ntmps103
   go_wp2_with fail
   rw [V1.out]
   have q2 : ∀ i, (w.alloc (.cells #[.bool false, .slice none 0 0] 25)).cell? ⟨w.heap.size, i, none⟩ = #[.bool false, .slice none 0 0][i]? := fun i => World.cell?_alloc_at _ _ _ _ rfl
   have q3 : ∀ i, (w.alloc (.cells #[.bool false, .slice none 0 0] 25)).frozen? ⟨w.heap.size, i, none⟩ = false := fun i => World.frozen?_alloc_at _ _ _ _ rfl
   have hBW : Below w.heap.size w (w.alloc (.cells #[.bool false, .slice none 0 0] 25)) := (Below.refl _ _).alloc (Nat.le_refl _) _
   have hz : (w.alloc (.cells #[.bool false, .slice none 0 0] 25)).heap.size = w.heap.size + 1 := by simp
   generalize w.alloc (.cells #[.bool false, .slice none 0 0] 25) = W at *
   with_reducible refine (rof_any _ _ v2).mono ?_
   rintro e w1 ⟨a1, n1, c1, rfl, h2, hb⟩
   have hlt : w.heap.size < W.heap.size := by omega
   have hlt2 : w.heap.size < w1.heap.size := by have := hb.size; omega
   obtain ⟨q2, q3⟩ := boxPast hb hlt q2 q3
   have hb2 := below_later hBW hb
   have hn1 : n1 ≤ 1099511627776 := by
    have h3 := h2.len
    have h4 := digs_length_le (n := x.natAbs) (k := 1)
    rw [Nat.pow_one] at h4
    have := h4.2 v2
    omega
   clear hBW hz hlt
   go_wp2_with fail
   with_reducible refine (rsmake_any _ _ _ _ _ _ h2.toNatAt hn1).mono ?_
   rintro e w2 ⟨a2, n2, c2, rfl, h3, hb3⟩
   rw [val_digs] at h3 ⊢
   rw [V3.out] at h3 ⊢
   obtain ⟨q2, q3⟩ := boxPast hb3 hlt2 q2 q3
   have hs := RetInt.stored (x := .bool (neg x)) hb2 hb3 h3 (Nat.le_refl _) hlt2
   clear hb2 hb3 hb hn1 h2 h3 hlt2
   go_wp2
   refine bodyPost_ret (v := .agg #[.bool (neg x), .slice a2 n2 c2]) ?_ rfl (retIntOf hs rfl _ rfl)
   simp [results, Tryz.f103, go_sem, q2]
 · obtain ⟨y, rfl⟩ := Int.eq_ofNat_of_zero_le (show 0 ≤ x by omega)
   have v2 : y < 18446744073709551616 := by omega
   have e1 : (y : Int).natAbs = y := Int.natAbs_natCast y
   have E1 := Lib.hid e1
   clear e1
   go_enter Tryz.func103, Tryz.ntmps103
   go_wp2_with fail
   have q2 : ∀ i, (w.alloc (.cells #[.bool false, .slice none 0 0] 25)).cell? ⟨w.heap.size, i, none⟩ = #[.bool false, .slice none 0 0][i]? := fun i => World.cell?_alloc_at _ _ _ _ rfl
   have q3 : ∀ i, (w.alloc (.cells #[.bool false, .slice none 0 0] 25)).frozen? ⟨w.heap.size, i, none⟩ = false := fun i => World.frozen?_alloc_at _ _ _ _ rfl
   have hBW : Below w.heap.size w (w.alloc (.cells #[.bool false, .slice none 0 0] 25)) := (Below.refl _ _).alloc (Nat.le_refl _) _
   have hz : (w.alloc (.cells #[.bool false, .slice none 0 0] 25)).heap.size = w.heap.size + 1 := by simp
   generalize w.alloc (.cells #[.bool false, .slice none 0 0] 25) = W at *
   with_reducible refine (rof_any _ _ v2).mono ?_
   rintro e w1 ⟨a1, n1, c1, rfl, h2, hb⟩
   have hlt : w.heap.size < W.heap.size := by omega
   have hlt2 : w.heap.size < w1.heap.size := by have := hb.size; omega
   obtain ⟨q2, q3⟩ := boxPast hb hlt q2 q3
   have hb2 := below_later hBW hb
   have hn1 : n1 ≤ 1099511627776 := by
    have h3 := h2.len
    have h4 := digs_length_le (n := y) (k := 1)
    rw [Nat.pow_one] at h4
    have := h4.2 v2
    omega
   clear hBW hz hlt
   go_wp2_with fail
   with_reducible refine (rsmake_any _ _ _ _ _ _ h2.toNatAt hn1).mono ?_
   rintro e w2 ⟨a2, n2, c2, rfl, h3, hb3⟩
   rw [val_digs] at h3 ⊢
   rw [sg_false] at h3 ⊢
   obtain ⟨q2, q3⟩ := boxPast hb3 hlt2 q2 q3
   have hs := RetInt.stored (x := .bool (neg (y : Int))) hb2 hb3 h3 (Nat.le_refl _) hlt2
   clear hb2 hb3 hb hn1 h2 h3 hlt2
   go_wp2
   refine bodyPost_ret (v := .agg #[.bool (neg (y : Int)), .slice a2 n2 c2]) ?_ rfl (retIntOf hs rfl _ rfl)
   simp [results, Tryz.f103, go_sem, q2]
set_option maxHeartbeats 2000000 in
set_option maxRecDepth 100000 in
theorem rsmul_any (b : Bool) (a : Option Addr) (n c : Nat) (l : List Nat) (b2 : Bool) (a2 : Option Addr) (n2 c2 : Nat) (l2 : List Nat) (w : World) (h : NatAt w a n c l) (h2 : NatAt w a2 n2 c2 l2) (hs : n ≤ 68719476736) (hs2 : n2 ≤ 68719476736) :
 Calls Tryz.prog 128 #[.agg #[.bool b, .slice a n c], .agg #[.bool b2, .slice a2 n2 c2]] w (RetInt w (sg b (val l) * sg b2 (val l2))) := by
 have hlen : (digs (val l * val l2)).length ≤ 1099511627776 := by have := h.short; have := h2.short; have := digs_len_prod (val l) (val l2); omega
 have HL := Lib.hid hlen
 clear hlen
 have he : sg b (val l) * sg b2 (val l2) = sg (!(b == b2)) (val l * val l2) := by cases b <;> cases b2 <;> simp [sg, Int.neg_mul, Int.mul_neg, Int.neg_neg, Int.natCast_mul]
 rw [he]
 clear he
 go_enter Tryz.func128, Tryz.ntmps128
 go_wp2_with fail
 obtain ⟨W, hW, hz, hBW, q0, q1, q2, q3⟩ := boxes3 w #[.bool b, .slice a n c] #[.bool b2, .slice a2 n2 c2] #[.bool false, .slice none 0 0] 25 25 25
 rw [hW]
 have HLT : Hid (w.heap.size + 1 + 1 < W.heap.size) := Lib.hid (by omega)
 have Q0 := Lib.hid q0
 have L0 : Hid (w.heap.size < w.heap.size + 1 + 1) := Lib.hid (by omega)
 have Q1 := Lib.hid q1
 have L1 : Hid (w.heap.size + 1 < w.heap.size + 1 + 1) := Lib.hid (by omega)
 have LR : Hid (w.heap.size ≤ w.heap.size + 1 + 1) := Lib.hid (by omega)
 have RM := Lib.hid (Room.of q2 q3)
 have HB := Lib.hid hBW
 clear hW hz hBW q0 q1 q2 q3
 go_region_held3 (fun w' => (w'.cell? ⟨w.heap.size, 0, none⟩ = some (.bool b) ∧ w'.cell? ⟨w.heap.size, 1, none⟩ = some (.slice a n c) ∧ w'.cell? ⟨w.heap.size + 1, 0, none⟩ = some (.bool b2) ∧ w'.cell? ⟨w.heap.size + 1, 1, none⟩ = some (.slice a2 n2 c2)) ∧ (Room w' (w.heap.size + 1 + 1) 2 ∧ Below w.heap.size w w' ∧ Below (w.heap.size + 1 + 1) W w'))
  (first
    | exact ⟨⟨((Below.refl (w.heap.size + 1 + 1) W).drew.cell (p := ⟨w.heap.size, 0, none⟩) L0.out).trans (Q0.out 0), ((Below.refl (w.heap.size + 1 + 1) W).drew.cell (p := ⟨w.heap.size, 1, none⟩) L0.out).trans (Q0.out 1), ((Below.refl (w.heap.size + 1 + 1) W).drew.cell (p := ⟨w.heap.size + 1, 0, none⟩) L1.out).trans (Q1.out 0), ((Below.refl (w.heap.size + 1 + 1) W).drew.cell (p := ⟨w.heap.size + 1, 1, none⟩) L1.out).trans (Q1.out 1)⟩, RM.out.drew, HB.out.drew, (Below.refl _ _).drew⟩
    | (rename _ ∧ (Room _ _ _ ∧ Below w.heap.size w _ ∧ Below _ W _) => hS
       first
        | exact ⟨⟨((hS.2.2.2.trans (hb2.mono (Nat.le_of_lt (Nat.lt_of_lt_of_le HLT.out hS.2.2.2.size)))).cell (p := ⟨w.heap.size, 0, none⟩) L0.out).trans (Q0.out 0), ((hS.2.2.2.trans (hb2.mono (Nat.le_of_lt (Nat.lt_of_lt_of_le HLT.out hS.2.2.2.size)))).cell (p := ⟨w.heap.size, 1, none⟩) L0.out).trans (Q0.out 1), ((hS.2.2.2.trans (hb2.mono (Nat.le_of_lt (Nat.lt_of_lt_of_le HLT.out hS.2.2.2.size)))).cell (p := ⟨w.heap.size + 1, 0, none⟩) L1.out).trans (Q1.out 0), ((hS.2.2.2.trans (hb2.mono (Nat.le_of_lt (Nat.lt_of_lt_of_le HLT.out hS.2.2.2.size)))).cell (p := ⟨w.heap.size + 1, 1, none⟩) L1.out).trans (Q1.out 1)⟩, hS.2.1.past hb2 (Nat.lt_of_lt_of_le HLT.out hS.2.2.2.size), below_later hS.2.2.1 hb2, (hS.2.2.2.trans (hb2.mono (Nat.le_of_lt (Nat.lt_of_lt_of_le HLT.out hS.2.2.2.size))))⟩
        | exact ⟨⟨((hS.2.2.2.trans (hb1.mono (Nat.le_of_lt (Nat.lt_of_lt_of_le HLT.out hS.2.2.2.size)))).cell (p := ⟨w.heap.size, 0, none⟩) L0.out).trans (Q0.out 0), ((hS.2.2.2.trans (hb1.mono (Nat.le_of_lt (Nat.lt_of_lt_of_le HLT.out hS.2.2.2.size)))).cell (p := ⟨w.heap.size, 1, none⟩) L0.out).trans (Q0.out 1), ((hS.2.2.2.trans (hb1.mono (Nat.le_of_lt (Nat.lt_of_lt_of_le HLT.out hS.2.2.2.size)))).cell (p := ⟨w.heap.size + 1, 0, none⟩) L1.out).trans (Q1.out 0), ((hS.2.2.2.trans (hb1.mono (Nat.le_of_lt (Nat.lt_of_lt_of_le HLT.out hS.2.2.2.size)))).cell (p := ⟨w.heap.size + 1, 1, none⟩) L1.out).trans (Q1.out 1)⟩, hS.2.1.past hb1 (Nat.lt_of_lt_of_le HLT.out hS.2.2.2.size), below_later hS.2.2.1 hb1, (hS.2.2.2.trans (hb1.mono (Nat.le_of_lt (Nat.lt_of_lt_of_le HLT.out hS.2.2.2.size))))⟩
        | exact ⟨⟨((hS.2.2.2.alloc (Nat.le_of_lt (Nat.lt_of_lt_of_le HLT.out hS.2.2.2.size)) _).cell (p := ⟨w.heap.size, 0, none⟩) L0.out).trans (Q0.out 0), ((hS.2.2.2.alloc (Nat.le_of_lt (Nat.lt_of_lt_of_le HLT.out hS.2.2.2.size)) _).cell (p := ⟨w.heap.size, 1, none⟩) L0.out).trans (Q0.out 1), ((hS.2.2.2.alloc (Nat.le_of_lt (Nat.lt_of_lt_of_le HLT.out hS.2.2.2.size)) _).cell (p := ⟨w.heap.size + 1, 0, none⟩) L1.out).trans (Q1.out 0), ((hS.2.2.2.alloc (Nat.le_of_lt (Nat.lt_of_lt_of_le HLT.out hS.2.2.2.size)) _).cell (p := ⟨w.heap.size + 1, 1, none⟩) L1.out).trans (Q1.out 1)⟩, hS.2.1.past ((Below.refl _ _).alloc (Nat.le_refl _) _) (Nat.lt_of_lt_of_le HLT.out hS.2.2.2.size), below_alloc hS.2.2.1 _, (hS.2.2.2.alloc (Nat.le_of_lt (Nat.lt_of_lt_of_le HLT.out hS.2.2.2.size)) _)⟩
        | exact ⟨⟨(((hS.2.2.2.setCell (p := ⟨w.heap.size + 1 + 1, 0, none⟩) (Nat.le_refl _) _).setCell (p := ⟨w.heap.size + 1 + 1, 1, none⟩) (Nat.le_refl _) _).cell (p := ⟨w.heap.size, 0, none⟩) L0.out).trans (Q0.out 0), (((hS.2.2.2.setCell (p := ⟨w.heap.size + 1 + 1, 0, none⟩) (Nat.le_refl _) _).setCell (p := ⟨w.heap.size + 1 + 1, 1, none⟩) (Nat.le_refl _) _).cell (p := ⟨w.heap.size, 1, none⟩) L0.out).trans (Q0.out 1), (((hS.2.2.2.setCell (p := ⟨w.heap.size + 1 + 1, 0, none⟩) (Nat.le_refl _) _).setCell (p := ⟨w.heap.size + 1 + 1, 1, none⟩) (Nat.le_refl _) _).cell (p := ⟨w.heap.size + 1, 0, none⟩) L1.out).trans (Q1.out 0), (((hS.2.2.2.setCell (p := ⟨w.heap.size + 1 + 1, 0, none⟩) (Nat.le_refl _) _).setCell (p := ⟨w.heap.size + 1 + 1, 1, none⟩) (Nat.le_refl _) _).cell (p := ⟨w.heap.size + 1, 1, none⟩) L1.out).trans (Q1.out 1)⟩, ((hS.2.1.set _ _).set _ _), ((hS.2.2.1.setCell (p := ⟨w.heap.size + 1 + 1, 0, none⟩) LR.out _).setCell (p := ⟨w.heap.size + 1 + 1, 1, none⟩) LR.out _), ((hS.2.2.2.setCell (p := ⟨w.heap.size + 1 + 1, 0, none⟩) (Nat.le_refl _) _).setCell (p := ⟨w.heap.size + 1 + 1, 1, none⟩) (Nat.le_refl _) _)⟩)
    | assumption)
  (first
    | (go_at_call 109; rename _ ∧ (Room _ _ _ ∧ Below w.heap.size w _ ∧ Below _ W _) => hS
       go_fit (rmul_any _ _ _ l _ _ _ l2 _ (h.past hS.2.2.1) (h2.past hS.2.2.1) (by omega) (by omega))
       rintro e w1 ⟨a1, n1, c1, rfl, h1, hb1⟩)
    | (go_at_call 97; rename _ ∧ (Room _ _ _ ∧ Below w.heap.size w _ ∧ Below _ W _) => hS
       go_fit (rsmake_any _ _ _ _ (digs (val l * val l2)) _ h1.toNatAt (h1.len ▸ HL.out))
       rintro e w3 ⟨a3, n3, c3, rfl, h3, hb2⟩
       rw [val_digs] at h3 ⊢
       have lt3 := Nat.lt_of_lt_of_le HLT.out hS.2.2.2.size
       have le3 := hS.2.2.1.size
       have rm3 := hS.2.1.past hb2 lt3
       obtain ⟨v0, v1, m0, m1, m2, m3⟩ := rm3.two
       have own3 := h3.ret2 lt3 le3 (.bool (neg (sg (!(b == b2)) (val l * val l2)))) (.slice a3 n3 c3)))
 all_goals
  rename _ ∧ (Room _ _ _ ∧ Below w.heap.size w _ ∧ Below _ W _) => hH
  have hs := retIntOf (z := sg (!(b == b2)) (val l * val l2)) ⟨own3, hH.2.2.1⟩ rfl _ rfl
  clear hH
  go_wp2
  refine bodyPost_ret (v := .agg #[.bool (neg (sg (!(b == b2)) (val l * val l2))), .slice a3 n3 c3]) ?_ rfl hs
  simp [results, Tryz.f128, go_sem, m0, m1]
set_option maxRecDepth 100000 in
theorem rscheck_any (b : Bool) (a : Option Addr) (n c : Nat) (l : List Nat) (w : World) (h : NatAt w a n c l) :
 Calls Tryz.prog 87 #[.agg #[.bool b, .slice a n c]] w (RetVal w (.int .i64 (chkZ b l))) := by
 have hlen := h.len
 by_cases hk : chk l = 0
 · by_cases h0 : b = true ∧ n = 0
   · obtain ⟨rfl, rfl⟩ := h0
     have hl : l = [] := List.eq_nil_of_length_eq_zero hlen
     subst hl
     go_enter Tryz.func87, Tryz.ntmps87
     go_wp2_with fail
     with_reducible refine (rcheck_any _ _ _ _ _ (h.alloc _)).mono ?_
     rintro e w' ⟨rfl, rfl⟩
     rw [chk_nil]
     go_wp2
     go_ret
     exact ⟨rfl, (Below.refl _ _).alloc (Nat.le_refl _) _⟩
   · have hz : chkZ b l = 0 := by
      unfold chkZ; rw [if_neg, hk]; rintro ⟨rfl, rfl⟩; exact h0 ⟨rfl, hlen.symm⟩
     rw [hz]
     have HK := Lib.hid hk
     clear hz hk hlen
     cases b
     · clear h0
       go_enter Tryz.func87, Tryz.ntmps87
       go_wp2_with fail
       with_reducible refine (rcheck_any _ _ _ _ _ (h.alloc _)).mono ?_
       rintro e w' ⟨rfl, rfl⟩
       rw [HK.out]
       go_wp2
       go_ret
       exact ⟨rfl, (Below.refl _ _).alloc (Nat.le_refl _) _⟩
     · have hn : ((n : Int) == 0) = false := by
        have : n ≠ 0 := fun e => h0 ⟨rfl, e⟩
        simp; omega
       clear h0
       go_enter Tryz.func87, Tryz.ntmps87
       go_wp2_with fail
       with_reducible refine (rcheck_any _ _ _ _ _ (h.alloc _)).mono ?_
       rintro e w' ⟨rfl, rfl⟩
       rw [HK.out]
       go_wp2
       go_ret
       exact ⟨rfl, (Below.refl _ _).alloc (Nat.le_refl _) _⟩
 · have h6 : chk l = 6 := by unfold chk at hk ⊢; split at hk <;> simp_all
   have hz : chkZ b l = 6 := by unfold chkZ; split <;> simp_all
   rw [hz]
   have HK := Lib.hid h6
   clear hz hk hlen h6
   go_enter Tryz.func87, Tryz.ntmps87
   go_wp2_with fail
   with_reducible refine (rcheck_any _ _ _ _ _ (h.alloc _)).mono ?_
   rintro e w' ⟨rfl, rfl⟩
   rw [HK.out]
   go_wp2
   go_ret
   exact ⟨rfl, (Below.refl _ _).alloc (Nat.le_refl _) _⟩
set_option maxHeartbeats 4000000 in
set_option maxRecDepth 100000 in
theorem rsadd_same (b : Bool) (a : Option Addr) (n c : Nat) (l : List Nat) (b2 : Bool) (a2 : Option Addr) (n2 c2 : Nat) (l2 : List Nat) (w : World) (h : NatAt w a n c l) (h2 : NatAt w a2 n2 c2 l2) (hs : n ≤ 274877906944) (hs2 : n2 ≤ 274877906944) (hb : b2 = b) :
 Calls Tryz.prog 127 #[.agg #[.bool b, .slice a n c], .agg #[.bool b2, .slice a2 n2 c2]] w (RetInt w (sg b (val l) + sg b2 (val l2))) := by
 have hlen : (digs (val l + val l2)).length ≤ 1099511627776 := by have := h.short; have := h2.short; have := digs_len_add (val l) (val l2); omega
 have HL := Lib.hid hlen
 clear hlen
 have e : sg b (val l) + sg b2 (val l2) = sg b (val l + val l2) := by subst hb; cases b2 <;> simp [sg] <;> omega
 rw [e]
 clear e
 subst hb
 go_enter Tryz.func127, Tryz.ntmps127
 go_wp2_with fail
 obtain ⟨W, hW, hz, hBW, q0, q1, q2, q3⟩ := boxes3 w #[.bool b2, .slice a n c] #[.bool b2, .slice a2 n2 c2] #[.bool false, .slice none 0 0] 25 25 25
 rw [hW]
 have HLT : Hid (w.heap.size + 1 + 1 < W.heap.size) := Lib.hid (by omega)
 have Q0 := Lib.hid q0
 have L0 : Hid (w.heap.size < w.heap.size + 1 + 1) := Lib.hid (by omega)
 have Q1 := Lib.hid q1
 have L1 : Hid (w.heap.size + 1 < w.heap.size + 1 + 1) := Lib.hid (by omega)
 have LR : Hid (w.heap.size ≤ w.heap.size + 1 + 1) := Lib.hid (by omega)
 have RM := Lib.hid (Room.of q2 q3)
 have HB := Lib.hid hBW
 clear hW hz hBW q0 q1 q2 q3
 go_region_held3 (fun w' => (w'.cell? ⟨w.heap.size, 0, none⟩ = some (.bool b2) ∧ w'.cell? ⟨w.heap.size, 1, none⟩ = some (.slice a n c) ∧ w'.cell? ⟨w.heap.size + 1, 0, none⟩ = some (.bool b2) ∧ w'.cell? ⟨w.heap.size + 1, 1, none⟩ = some (.slice a2 n2 c2)) ∧ (Room w' (w.heap.size + 1 + 1) 2 ∧ Below w.heap.size w w' ∧ Below (w.heap.size + 1 + 1) W w'))
  (first
    | exact ⟨⟨((Below.refl (w.heap.size + 1 + 1) W).drew.cell (p := ⟨w.heap.size, 0, none⟩) L0.out).trans (Q0.out 0), ((Below.refl (w.heap.size + 1 + 1) W).drew.cell (p := ⟨w.heap.size, 1, none⟩) L0.out).trans (Q0.out 1), ((Below.refl (w.heap.size + 1 + 1) W).drew.cell (p := ⟨w.heap.size + 1, 0, none⟩) L1.out).trans (Q1.out 0), ((Below.refl (w.heap.size + 1 + 1) W).drew.cell (p := ⟨w.heap.size + 1, 1, none⟩) L1.out).trans (Q1.out 1)⟩, RM.out.drew, HB.out.drew, (Below.refl _ _).drew⟩
    | (rename _ ∧ (Room _ _ _ ∧ Below w.heap.size w _ ∧ Below _ W _) => hS
       first
        | exact ⟨⟨((hS.2.2.2.trans (hb2.mono (Nat.le_of_lt (Nat.lt_of_lt_of_le HLT.out hS.2.2.2.size)))).cell (p := ⟨w.heap.size, 0, none⟩) L0.out).trans (Q0.out 0), ((hS.2.2.2.trans (hb2.mono (Nat.le_of_lt (Nat.lt_of_lt_of_le HLT.out hS.2.2.2.size)))).cell (p := ⟨w.heap.size, 1, none⟩) L0.out).trans (Q0.out 1), ((hS.2.2.2.trans (hb2.mono (Nat.le_of_lt (Nat.lt_of_lt_of_le HLT.out hS.2.2.2.size)))).cell (p := ⟨w.heap.size + 1, 0, none⟩) L1.out).trans (Q1.out 0), ((hS.2.2.2.trans (hb2.mono (Nat.le_of_lt (Nat.lt_of_lt_of_le HLT.out hS.2.2.2.size)))).cell (p := ⟨w.heap.size + 1, 1, none⟩) L1.out).trans (Q1.out 1)⟩, hS.2.1.past hb2 (Nat.lt_of_lt_of_le HLT.out hS.2.2.2.size), below_later hS.2.2.1 hb2, (hS.2.2.2.trans (hb2.mono (Nat.le_of_lt (Nat.lt_of_lt_of_le HLT.out hS.2.2.2.size))))⟩
        | exact ⟨⟨((hS.2.2.2.trans (hb1.mono (Nat.le_of_lt (Nat.lt_of_lt_of_le HLT.out hS.2.2.2.size)))).cell (p := ⟨w.heap.size, 0, none⟩) L0.out).trans (Q0.out 0), ((hS.2.2.2.trans (hb1.mono (Nat.le_of_lt (Nat.lt_of_lt_of_le HLT.out hS.2.2.2.size)))).cell (p := ⟨w.heap.size, 1, none⟩) L0.out).trans (Q0.out 1), ((hS.2.2.2.trans (hb1.mono (Nat.le_of_lt (Nat.lt_of_lt_of_le HLT.out hS.2.2.2.size)))).cell (p := ⟨w.heap.size + 1, 0, none⟩) L1.out).trans (Q1.out 0), ((hS.2.2.2.trans (hb1.mono (Nat.le_of_lt (Nat.lt_of_lt_of_le HLT.out hS.2.2.2.size)))).cell (p := ⟨w.heap.size + 1, 1, none⟩) L1.out).trans (Q1.out 1)⟩, hS.2.1.past hb1 (Nat.lt_of_lt_of_le HLT.out hS.2.2.2.size), below_later hS.2.2.1 hb1, (hS.2.2.2.trans (hb1.mono (Nat.le_of_lt (Nat.lt_of_lt_of_le HLT.out hS.2.2.2.size))))⟩
        | exact ⟨⟨((hS.2.2.2.alloc (Nat.le_of_lt (Nat.lt_of_lt_of_le HLT.out hS.2.2.2.size)) _).cell (p := ⟨w.heap.size, 0, none⟩) L0.out).trans (Q0.out 0), ((hS.2.2.2.alloc (Nat.le_of_lt (Nat.lt_of_lt_of_le HLT.out hS.2.2.2.size)) _).cell (p := ⟨w.heap.size, 1, none⟩) L0.out).trans (Q0.out 1), ((hS.2.2.2.alloc (Nat.le_of_lt (Nat.lt_of_lt_of_le HLT.out hS.2.2.2.size)) _).cell (p := ⟨w.heap.size + 1, 0, none⟩) L1.out).trans (Q1.out 0), ((hS.2.2.2.alloc (Nat.le_of_lt (Nat.lt_of_lt_of_le HLT.out hS.2.2.2.size)) _).cell (p := ⟨w.heap.size + 1, 1, none⟩) L1.out).trans (Q1.out 1)⟩, hS.2.1.past ((Below.refl _ _).alloc (Nat.le_refl _) _) (Nat.lt_of_lt_of_le HLT.out hS.2.2.2.size), below_alloc hS.2.2.1 _, (hS.2.2.2.alloc (Nat.le_of_lt (Nat.lt_of_lt_of_le HLT.out hS.2.2.2.size)) _)⟩
        | exact ⟨⟨(((hS.2.2.2.setCell (p := ⟨w.heap.size + 1 + 1, 0, none⟩) (Nat.le_refl _) _).setCell (p := ⟨w.heap.size + 1 + 1, 1, none⟩) (Nat.le_refl _) _).cell (p := ⟨w.heap.size, 0, none⟩) L0.out).trans (Q0.out 0), (((hS.2.2.2.setCell (p := ⟨w.heap.size + 1 + 1, 0, none⟩) (Nat.le_refl _) _).setCell (p := ⟨w.heap.size + 1 + 1, 1, none⟩) (Nat.le_refl _) _).cell (p := ⟨w.heap.size, 1, none⟩) L0.out).trans (Q0.out 1), (((hS.2.2.2.setCell (p := ⟨w.heap.size + 1 + 1, 0, none⟩) (Nat.le_refl _) _).setCell (p := ⟨w.heap.size + 1 + 1, 1, none⟩) (Nat.le_refl _) _).cell (p := ⟨w.heap.size + 1, 0, none⟩) L1.out).trans (Q1.out 0), (((hS.2.2.2.setCell (p := ⟨w.heap.size + 1 + 1, 0, none⟩) (Nat.le_refl _) _).setCell (p := ⟨w.heap.size + 1 + 1, 1, none⟩) (Nat.le_refl _) _).cell (p := ⟨w.heap.size + 1, 1, none⟩) L1.out).trans (Q1.out 1)⟩, ((hS.2.1.set _ _).set _ _), ((hS.2.2.1.setCell (p := ⟨w.heap.size + 1 + 1, 0, none⟩) LR.out _).setCell (p := ⟨w.heap.size + 1 + 1, 1, none⟩) LR.out _), ((hS.2.2.2.setCell (p := ⟨w.heap.size + 1 + 1, 0, none⟩) (Nat.le_refl _) _).setCell (p := ⟨w.heap.size + 1 + 1, 1, none⟩) (Nat.le_refl _) _)⟩)
    | assumption)
  (first
    | (go_at_call 121; rename _ ∧ (Room _ _ _ ∧ Below w.heap.size w _ ∧ Below _ W _) => hS
       go_fit (radd_any _ _ _ l _ _ _ l2 _ (h.past hS.2.2.1) (h2.past hS.2.2.1) (by omega) (by omega))
       rintro e w1 ⟨a1, n1, c1, rfl, h1, hb1⟩)
    | (go_at_call 97; rename _ ∧ (Room _ _ _ ∧ Below w.heap.size w _ ∧ Below _ W _) => hS
       go_fit (rsmake_any _ _ _ _ (digs (val l + val l2)) _ h1.toNatAt (h1.len ▸ HL.out))
       rintro e w3 ⟨a3, n3, c3, rfl, h3, hb2⟩
       rw [val_digs] at h3 ⊢
       have lt3 := Nat.lt_of_lt_of_le HLT.out hS.2.2.2.size
       have le3 := hS.2.2.1.size
       have rm3 := hS.2.1.past hb2 lt3
       obtain ⟨v0, v1, m0, m1, m2, m3⟩ := rm3.two
       have own3 := h3.ret2 lt3 le3 (.bool (neg (sg b2 (val l + val l2)))) (.slice a3 n3 c3)))
 all_goals
  rename _ ∧ (Room _ _ _ ∧ Below w.heap.size w _ ∧ Below _ W _) => hH
  have hs := retIntOf (z := sg b2 (val l + val l2)) ⟨own3, hH.2.2.1⟩ rfl _ rfl
  clear hH
  go_wp2
  refine bodyPost_ret (v := .agg #[.bool (neg (sg b2 (val l + val l2))), .slice a3 n3 c3]) ?_ rfl hs
  simp [results, Tryz.f127, go_sem, m0, m1]
theorem boxes3f (w : World) (A B C : Array Value) (E F G : Nat) : ∃ W, ((w.alloc (.cells A E)).alloc (.cells B F)).alloc (.cells C G) = W ∧ W.heap.size = w.heap.size + 3 ∧ Below w.heap.size w W ∧
 (∀ i, W.cell? ⟨w.heap.size, i, none⟩ = A[i]?) ∧ (∀ i, W.cell? ⟨w.heap.size + 1, i, none⟩ = B[i]?) ∧ (∀ i, W.cell? ⟨w.heap.size + 1 + 1, i, none⟩ = C[i]?) ∧ (∀ i, W.frozen? ⟨w.heap.size + 1 + 1, i, none⟩ = false) ∧
 (∀ i, W.frozen? ⟨w.heap.size, i, none⟩ = false) ∧ (∀ i, W.frozen? ⟨w.heap.size + 1, i, none⟩ = false) := by
 obtain ⟨W, hW, h1, h2, h3, h4, h5, h6⟩ := boxes3 w A B C E F G
 refine ⟨W, hW, h1, h2, h3, h4, h5, h6, ?_⟩
 subst hW
 refine ⟨fun i => ?_, fun i => ?_⟩
 · rw [World.frozen?_alloc_past _ _ _ (by simp; omega), World.frozen?_alloc_past _ _ _ (by simp), World.frozen?_alloc_at _ _ _ _ rfl]
 · rw [World.frozen?_alloc_past _ _ _ (by simp), World.frozen?_alloc_at _ _ _ _ (by simp)]
set_option maxHeartbeats 4000000 in
set_option maxRecDepth 100000 in
theorem rsadd_ge (b : Bool) (a : Option Addr) (n c : Nat) (l : List Nat) (b2 : Bool) (a2 : Option Addr) (n2 c2 : Nat) (l2 : List Nat) (w : World) (h : NatAt w a n c l) (h2 : NatAt w a2 n2 c2 l2) (hs : n ≤ 274877906944) (hs2 : n2 ≤ 274877906944) (hb : b2 = !b) (hv : val l2 ≤ val l) :
 Calls Tryz.prog 127 #[.agg #[.bool b, .slice a n c], .agg #[.bool b2, .slice a2 n2 c2]] w (RetInt w (sg b (val l - val l2))) := by
 have hlen : (digs (val l - val l2)).length ≤ 1099511627776 := Nat.le_trans (digs_len_mono (Nat.sub_le _ _)) (by have := h.short; have := h2.short; omega)
 have HL := Lib.hid hlen
 clear hlen
 have hc : 0 ≤ cmpI (val l) (val l2) := by have := True.intro; unfold cmpI; split <;> (try split) <;> omega
 have HC := Lib.hid hc
 clear hc
 subst hb
 cases b
 · go_enter Tryz.func127, Tryz.ntmps127
   go_wp2_with fail
   obtain ⟨W2, hW2, hz, hBW, q0, q1, q2, q3, f0, f1⟩ := boxes3f w #[.bool false, .slice a n c] #[.bool true, .slice a2 n2 c2] #[.bool false, .slice none 0 0] 25 25 25
   rw [hW2]
   have rm := Room.of q2 q3
   have hlt : w.heap.size + 1 + 1 < W2.heap.size := by omega
   have k := h.past hBW
   have k2 := h2.past hBW
   clear hW2 hz q2 q3
   with_reducible refine (rcmp_any _ _ _ l _ _ _ l2 _ k k2).mono ?_
   rintro e w' ⟨rfl, rfl⟩
   obtain ⟨K, hK⟩ : ∃ K, cmpI (val l) (val l2) = K := ⟨_, rfl⟩
   have hK0 := HC.out
   rw [hK] at hK0 ⊢
   clear hK HC
   have HV := Lib.hid hv
   clear hv
   go_wp2_with fail
   with_reducible refine (rsub_yes _ _ _ l _ _ _ l2 _ k k2 (by omega) HV.out).mono ?_
   rintro e w2 ⟨a1, n1, c1, rfl, h1, hb2⟩
   have s0 := (hb2.cell (p := ⟨w.heap.size, 0, none⟩) (show w.heap.size < W2.heap.size by omega)).trans (q0 0)
   have rm := rm.past hb2 hlt
   have hlt := Nat.lt_of_lt_of_le hlt hb2.size
   have hBW := below_later hBW hb2
   clear hb2 k k2 q0 q1 f0 f1
   go_wp2_with fail
   with_reducible refine (rsmake_any _ _ _ _ _ _ h1.toNatAt (h1.len ▸ HL.out)).mono ?_
   rintro e w3 ⟨a3, n3, c3, rfl, h3, hb3⟩
   rw [val_digs] at h3 ⊢
   have own3 := h3.ret2 hlt hBW.size (.bool (neg (sg false (val l - val l2)))) (.slice a3 n3 c3)
   have rm := rm.past hb3 hlt
   obtain ⟨v0, v1, m0, m1, m2, m3⟩ := rm.two
   have hB3 := below_later hBW hb3
   have hs := retIntOf (z := sg false (val l - val l2)) ⟨own3, (hB3.setCell (p := ⟨w.heap.size + 1 + 1, 0, none⟩) (by simp; omega) _).setCell (p := ⟨w.heap.size + 1 + 1, 1, none⟩) (by simp; omega) _⟩ rfl _ rfl
   clear own3 rm hB3 hb3 hBW hlt s0 h1 h3
   go_wp2
   refine bodyPost_ret (v := .agg #[.bool (neg (sg false (val l - val l2))), .slice a3 n3 c3]) ?_ rfl hs
   simp [results, Tryz.f127, go_sem, m0, m1]
 · go_enter Tryz.func127, Tryz.ntmps127
   go_wp2_with fail
   obtain ⟨W2, hW2, hz, hBW, q0, q1, q2, q3, f0, f1⟩ := boxes3f w #[.bool true, .slice a n c] #[.bool false, .slice a2 n2 c2] #[.bool false, .slice none 0 0] 25 25 25
   rw [hW2]
   have rm := Room.of q2 q3
   have hlt : w.heap.size + 1 + 1 < W2.heap.size := by omega
   have k := h.past hBW
   have k2 := h2.past hBW
   clear hW2 hz q2 q3
   with_reducible refine (rcmp_any _ _ _ l _ _ _ l2 _ k k2).mono ?_
   rintro e w' ⟨rfl, rfl⟩
   obtain ⟨K, hK⟩ : ∃ K, cmpI (val l) (val l2) = K := ⟨_, rfl⟩
   have hK0 := HC.out
   rw [hK] at hK0 ⊢
   clear hK HC
   have HV := Lib.hid hv
   clear hv
   go_wp2_with fail
   with_reducible refine (rsub_yes _ _ _ l _ _ _ l2 _ k k2 (by omega) HV.out).mono ?_
   rintro e w2 ⟨a1, n1, c1, rfl, h1, hb2⟩
   have s0 := (hb2.cell (p := ⟨w.heap.size, 0, none⟩) (show w.heap.size < W2.heap.size by omega)).trans (q0 0)
   have rm := rm.past hb2 hlt
   have hlt := Nat.lt_of_lt_of_le hlt hb2.size
   have hBW := below_later hBW hb2
   clear hb2 k k2 q0 q1 f0 f1
   go_wp2_with fail
   with_reducible refine (rsmake_any _ _ _ _ _ _ h1.toNatAt (h1.len ▸ HL.out)).mono ?_
   rintro e w3 ⟨a3, n3, c3, rfl, h3, hb3⟩
   rw [val_digs] at h3 ⊢
   have own3 := h3.ret2 hlt hBW.size (.bool (neg (sg true (val l - val l2)))) (.slice a3 n3 c3)
   have rm := rm.past hb3 hlt
   obtain ⟨v0, v1, m0, m1, m2, m3⟩ := rm.two
   have hB3 := below_later hBW hb3
   have hs := retIntOf (z := sg true (val l - val l2)) ⟨own3, (hB3.setCell (p := ⟨w.heap.size + 1 + 1, 0, none⟩) (by simp; omega) _).setCell (p := ⟨w.heap.size + 1 + 1, 1, none⟩) (by simp; omega) _⟩ rfl _ rfl
   clear own3 rm hB3 hb3 hBW hlt s0 h1 h3
   go_wp2
   refine bodyPost_ret (v := .agg #[.bool (neg (sg true (val l - val l2))), .slice a3 n3 c3]) ?_ rfl hs
   simp [results, Tryz.f127, go_sem, m0, m1]
set_option maxHeartbeats 4000000 in
set_option maxRecDepth 100000 in
theorem rsadd_lt (b : Bool) (a : Option Addr) (n c : Nat) (l : List Nat) (b2 : Bool) (a2 : Option Addr) (n2 c2 : Nat) (l2 : List Nat) (w : World) (h : NatAt w a n c l) (h2 : NatAt w a2 n2 c2 l2) (hs : n ≤ 274877906944) (hs2 : n2 ≤ 274877906944) (hb : b2 = !b) (hv : val l < val l2) :
 Calls Tryz.prog 127 #[.agg #[.bool b, .slice a n c], .agg #[.bool b2, .slice a2 n2 c2]] w (RetInt w (sg b2 (val l2 - val l))) := by
 have hlen : (digs (val l2 - val l)).length ≤ 1099511627776 := Nat.le_trans (digs_len_mono (Nat.sub_le _ _)) (by have := h.short; have := h2.short; omega)
 have HL := Lib.hid hlen
 clear hlen
 have hc : cmpI (val l) (val l2) = -1 := by have := True.intro; exact cmpI_lt hv
 have HC := Lib.hid hc
 clear hc
 subst hb
 cases b
 · go_enter Tryz.func127, Tryz.ntmps127
   go_wp2_with fail
   obtain ⟨W2, hW2, hz, hBW, q0, q1, q2, q3, f0, f1⟩ := boxes3f w #[.bool false, .slice a n c] #[.bool true, .slice a2 n2 c2] #[.bool false, .slice none 0 0] 25 25 25
   rw [hW2]
   have rm := Room.of q2 q3
   have hlt : w.heap.size + 1 + 1 < W2.heap.size := by omega
   have k := h.past hBW
   have k2 := h2.past hBW
   clear hW2 hz q2 q3
   with_reducible refine (rcmp_any _ _ _ l _ _ _ l2 _ k k2).mono ?_
   rintro e w' ⟨rfl, rfl⟩
   rw [HC.out]
   clear HC
   have HV := Lib.hid (Nat.le_of_lt hv)
   clear hv
   go_wp2_with fail
   obtain ⟨W3, hW3⟩ : ∃ W3, ((((W2.setCell ⟨w.heap.size, 0, none⟩ (.bool true)).setCell ⟨w.heap.size, 1, none⟩ (.slice a2 n2 c2)).setCell ⟨w.heap.size + 1, 0, none⟩ (.bool false)).setCell ⟨w.heap.size + 1, 1, none⟩ (.slice a n c)) = W3 := ⟨_, rfl⟩
   rw [hW3]
   have hB3 : Below w.heap.size w W3 := by rw [← hW3]; exact (((hBW.setCell (p := ⟨w.heap.size, 0, none⟩) (Nat.le_refl _) _).setCell (p := ⟨w.heap.size, 1, none⟩) (Nat.le_refl _) _).setCell (p := ⟨w.heap.size + 1, 0, none⟩) (Nat.le_succ _) _).setCell (p := ⟨w.heap.size + 1, 1, none⟩) (Nat.le_succ _) _
   have s0 : W3.cell? ⟨w.heap.size, 0, none⟩ = some (.bool true) := by rw [← hW3]; simp [go_sem, q0]
   have s1 : w.heap.size + 1 + 1 < W3.heap.size := by rw [← hW3]; simpa using hlt
   have rm : Room W3 (w.heap.size + 1 + 1) 2 := by rw [← hW3]; exact (((rm.set _ _).set _ _).set _ _).set _ _
   have k := h.past hB3
   have k2 := h2.past hB3
   have hBW := hB3
   have hlt := s1
   clear hW3 hB3 q0 q1 f0 f1
   with_reducible refine (rsub_yes _ _ _ l2 _ _ _ l _ k2 k (by omega) HV.out).mono ?_
   rintro e w2 ⟨a1, n1, c1, rfl, h1, hb2⟩
   have s0 := (hb2.cell (p := ⟨w.heap.size, 0, none⟩) (show w.heap.size < W3.heap.size by omega)).trans s0
   have rm := rm.past hb2 hlt
   have hlt := Nat.lt_of_lt_of_le hlt hb2.size
   have hBW := below_later hBW hb2
   clear hb2 k k2
   go_wp2_with fail
   with_reducible refine (rsmake_any _ _ _ _ _ _ h1.toNatAt (h1.len ▸ HL.out)).mono ?_
   rintro e w3 ⟨a3, n3, c3, rfl, h3, hb3⟩
   rw [val_digs] at h3 ⊢
   have own3 := h3.ret2 hlt hBW.size (.bool (neg (sg true (val l2 - val l)))) (.slice a3 n3 c3)
   have rm := rm.past hb3 hlt
   obtain ⟨v0, v1, m0, m1, m2, m3⟩ := rm.two
   have hB3 := below_later hBW hb3
   have hs := retIntOf (z := sg true (val l2 - val l)) ⟨own3, (hB3.setCell (p := ⟨w.heap.size + 1 + 1, 0, none⟩) (by simp; omega) _).setCell (p := ⟨w.heap.size + 1 + 1, 1, none⟩) (by simp; omega) _⟩ rfl _ rfl
   clear own3 rm hB3 hb3 hBW hlt s0 h1 h3
   go_wp2
   refine bodyPost_ret (v := .agg #[.bool (neg (sg true (val l2 - val l))), .slice a3 n3 c3]) ?_ rfl hs
   simp [results, Tryz.f127, go_sem, m0, m1]
 · go_enter Tryz.func127, Tryz.ntmps127
   go_wp2_with fail
   obtain ⟨W2, hW2, hz, hBW, q0, q1, q2, q3, f0, f1⟩ := boxes3f w #[.bool true, .slice a n c] #[.bool false, .slice a2 n2 c2] #[.bool false, .slice none 0 0] 25 25 25
   rw [hW2]
   have rm := Room.of q2 q3
   have hlt : w.heap.size + 1 + 1 < W2.heap.size := by omega
   have k := h.past hBW
   have k2 := h2.past hBW
   clear hW2 hz q2 q3
   with_reducible refine (rcmp_any _ _ _ l _ _ _ l2 _ k k2).mono ?_
   rintro e w' ⟨rfl, rfl⟩
   rw [HC.out]
   clear HC
   have HV := Lib.hid (Nat.le_of_lt hv)
   clear hv
   go_wp2_with fail
   obtain ⟨W3, hW3⟩ : ∃ W3, ((((W2.setCell ⟨w.heap.size, 0, none⟩ (.bool false)).setCell ⟨w.heap.size, 1, none⟩ (.slice a2 n2 c2)).setCell ⟨w.heap.size + 1, 0, none⟩ (.bool true)).setCell ⟨w.heap.size + 1, 1, none⟩ (.slice a n c)) = W3 := ⟨_, rfl⟩
   rw [hW3]
   have hB3 : Below w.heap.size w W3 := by rw [← hW3]; exact (((hBW.setCell (p := ⟨w.heap.size, 0, none⟩) (Nat.le_refl _) _).setCell (p := ⟨w.heap.size, 1, none⟩) (Nat.le_refl _) _).setCell (p := ⟨w.heap.size + 1, 0, none⟩) (Nat.le_succ _) _).setCell (p := ⟨w.heap.size + 1, 1, none⟩) (Nat.le_succ _) _
   have s0 : W3.cell? ⟨w.heap.size, 0, none⟩ = some (.bool false) := by rw [← hW3]; simp [go_sem, q0]
   have s1 : w.heap.size + 1 + 1 < W3.heap.size := by rw [← hW3]; simpa using hlt
   have rm : Room W3 (w.heap.size + 1 + 1) 2 := by rw [← hW3]; exact (((rm.set _ _).set _ _).set _ _).set _ _
   have k := h.past hB3
   have k2 := h2.past hB3
   have hBW := hB3
   have hlt := s1
   clear hW3 hB3 q0 q1 f0 f1
   with_reducible refine (rsub_yes _ _ _ l2 _ _ _ l _ k2 k (by omega) HV.out).mono ?_
   rintro e w2 ⟨a1, n1, c1, rfl, h1, hb2⟩
   have s0 := (hb2.cell (p := ⟨w.heap.size, 0, none⟩) (show w.heap.size < W3.heap.size by omega)).trans s0
   have rm := rm.past hb2 hlt
   have hlt := Nat.lt_of_lt_of_le hlt hb2.size
   have hBW := below_later hBW hb2
   clear hb2 k k2
   go_wp2_with fail
   with_reducible refine (rsmake_any _ _ _ _ _ _ h1.toNatAt (h1.len ▸ HL.out)).mono ?_
   rintro e w3 ⟨a3, n3, c3, rfl, h3, hb3⟩
   rw [val_digs] at h3 ⊢
   have own3 := h3.ret2 hlt hBW.size (.bool (neg (sg false (val l2 - val l)))) (.slice a3 n3 c3)
   have rm := rm.past hb3 hlt
   obtain ⟨v0, v1, m0, m1, m2, m3⟩ := rm.two
   have hB3 := below_later hBW hb3
   have hs := retIntOf (z := sg false (val l2 - val l)) ⟨own3, (hB3.setCell (p := ⟨w.heap.size + 1 + 1, 0, none⟩) (by simp; omega) _).setCell (p := ⟨w.heap.size + 1 + 1, 1, none⟩) (by simp; omega) _⟩ rfl _ rfl
   clear own3 rm hB3 hb3 hBW hlt s0 h1 h3
   go_wp2
   refine bodyPost_ret (v := .agg #[.bool (neg (sg false (val l2 - val l))), .slice a3 n3 c3]) ?_ rfl hs
   simp [results, Tryz.f127, go_sem, m0, m1]
theorem rsadd_any (b : Bool) (a : Option Addr) (n c : Nat) (l : List Nat) (b2 : Bool) (a2 : Option Addr) (n2 c2 : Nat) (l2 : List Nat) (w : World) (h : NatAt w a n c l) (h2 : NatAt w a2 n2 c2 l2) (hs : n ≤ 274877906944) (hs2 : n2 ≤ 274877906944) :
 Calls Tryz.prog 127 #[.agg #[.bool b, .slice a n c], .agg #[.bool b2, .slice a2 n2 c2]] w (RetInt w (sg b (val l) + sg b2 (val l2))) := by
 by_cases hb : b2 = b
 · exact rsadd_same b a n c l b2 a2 n2 c2 l2 w h h2 hs hs2 hb
 have hb' : b2 = !b := by cases b <;> cases b2 <;> simp_all
 by_cases hv : val l2 ≤ val l
 · have e : sg b (val l) + sg b2 (val l2) = sg b (val l - val l2) := by subst hb'; cases b <;> simp [sg] <;> omega
   rw [e]
   exact rsadd_ge b a n c l b2 a2 n2 c2 l2 w h h2 hs hs2 hb' hv
 · have e : sg b (val l) + sg b2 (val l2) = sg b2 (val l2 - val l) := by subst hb'; cases b <;> simp [sg] <;> omega
   rw [e]
   exact rsadd_lt b a n c l b2 a2 n2 c2 l2 w h h2 hs hs2 hb' (by omega)
end Go.Proofs.YtlkoenpdmlbhlaaGreat
set_option linter.unusedVariables false
set_option linter.unusedSimpArgs false
namespace Go.Proofs.YtlkoenpdmlbhlaaGreat
open Go.RowKit
end Go.Proofs.YtlkoenpdmlbhlaaGreat
set_option linter.unusedVariables false
set_option linter.unusedSimpArgs false
namespace Go.Proofs.YtlkoenpdmlbhlaaGreat
open Go.RowKit
def eqL (l l2 : List Nat) : Bool := decide (l = l2)
theorem eqL_self (l : List Nat) : eqL l l = true := decide_eq_true rfl
theorem eqL_iff {l l2 : List Nat} : eqL l l2 = true ↔ l = l2 := decide_eq_true_iff
theorem eqL_false {l l2 : List Nat} : eqL l l2 = false ↔ l ≠ l2 := decide_eq_false_iff_not
theorem eq_of_D {l l2 : List Nat} (h : l.length = l2.length) (hd : ∀ j, j < l.length → D l j = D l2 j) : l = l2 := by
 refine List.ext_getElem h fun i h1 h2 => ?_
 have := hd i h1
 unfold D at this
 rw [List.getD_eq_getElem?_getD, List.getD_eq_getElem?_getD, List.getElem?_eq_getElem h1, List.getElem?_eq_getElem h2] at this
 exact this
set_option maxRecDepth 100000 in
theorem sameNat_any (a : Option Addr) (n c : Nat) (l : List Nat) (a2 : Option Addr) (n2 c2 : Nat) (l2 : List Nat) (w : World) (h : NatAt w a n c l) (h2 : NatAt w a2 n2 c2 l2) :
 Calls Tryz.prog 48 #[.slice a n c, .slice a2 n2 c2] w fun e w' => e = .returned (.bool (eqL l l2)) ∧ ∃ m, w' = w.drewN m := by
 have hl := h.cle
 have hl' := h.le
 by_cases hn : n = n2
 · subst hn
   have t0 : ((n : Int) != (n : Int)) = false := by simp
   have HL := Lib.hid h.len
   have HL2 := Lib.hid h2.len
   go_enter Tryz.func48, Tryz.ntmps48
   go_wp2
   go_loopw [5] (fun i wr => ∃ (k m : Nat), k ≤ n ∧ i = .int .i64 ((k : Nat) : Int) ∧ (∀ j, j < k → D l j = D l2 j) ∧ wr = w.drewN m) (fun i _ => n - (intOf i).toNat)
   case atStart => exact ⟨0, 0, Nat.zero_le _, rfl, fun j hj => by omega, rfl⟩
   case round =>
    obtain ⟨k, m, hk, rfl, hd, rfl⟩ := hrel
    have HD := Lib.hid hd
    clear hd
    by_cases hlt : k < n
    · have e1 := h.draws m
      have e2 := h2.draws m
      rcases e1.parts with h' | ⟨ba, oa, rfl, _, hca⟩
      · omega
      rcases e2.parts with h' | ⟨bb, ob, rfl, _, hcb⟩
      · omega
      have ca := hca k hlt
      have cb := hcb k hlt
      clear hca hcb
      by_cases he : D l k = D l2 k
      · have t1 : ((D l k : Int) != (D l2 k : Int)) = false := by rw [he]; simp
        have HE := Lib.hid he
        clear he
        go_wp2_with fail
        generalize hW : w.drewN m = W at ca cb ⊢
        have HW := Lib.hid hW
        clear hW
        go_quiet (fail)
        go_wp2
        go_roundw
        case rel => exact ⟨k + 1, m + nq, by omega, by go_num, fun j hj => by
         by_cases hjk : j = k
         · subst hjk; exact HE.out
         · exact HD.out j (by omega), by rw [← HW.out, World.drewN_drewN]⟩
        case measure => simp [intOf]; omega
      · have t1 : ((D l k : Int) != (D l2 k : Int)) = true := by rw [bne_iff_ne]; omega
        have hf : eqL l l2 = false := eqL_false.2 fun e => he (by rw [e])
        have HF := Lib.hid hf
        clear he hf
        go_wp2_with fail
        generalize hW : w.drewN m = W at ca cb ⊢
        have HW := Lib.hid hW
        clear hW
        go_quiet (fail)
        go_wp2
        go_ret
        exact ⟨ret_bool HF.out.symm, m + nq, by rw [← HW.out, World.drewN_drewN]⟩
    · obtain rfl : k = n := by omega
      have ht : eqL l l2 = true := eqL_iff.2 (eq_of_D (by rw [HL.out, HL2.out]) (fun j hj => HD.out j (by rw [HL.out] at hj; exact hj)))
      have HT := Lib.hid ht
      clear ht
      go_wp2
      go_ret
      exact ⟨ret_bool HT.out.symm, m, rfl⟩
 · have t0 : ((n : Int) != (n2 : Int)) = true := by rw [bne_iff_ne]; omega
   have hf : eqL l l2 = false := eqL_false.2 fun e => hn (by rw [← h.len, ← h2.len, e])
   have HF := Lib.hid hf
   clear hn hf
   go_enter Tryz.func48, Tryz.ntmps48
   go_wp2
   go_ret
   exact ⟨ret_bool HF.out.symm, 0, rfl⟩
theorem sameNat_below {a : Option Addr} {n c : Nat} {l : List Nat} {a2 : Option Addr} {n2 c2 : Nat} {l2 : List Nat} {w : World} (h : NatAt w a n c l) (h2 : NatAt w a2 n2 c2 l2) :
 Calls Tryz.prog 48 #[.slice a n c, .slice a2 n2 c2] w (RetVal w (.bool (eqL l l2))) :=
 (sameNat_any a n c l a2 n2 c2 l2 w h h2).mono fun e w' ⟨he, m, hm⟩ => ⟨he, by rw [hm]; exact Below.draws (Below.refl _ _) m⟩
structure WritAt (w : World) (B : Nat) (a : Option Addr) (n c : Nat) : Prop where
 le : n ≤ c
 cle : c ≤ 9223372036854775807
 cell : n = 0 ∨ ∃ b o, a = some ⟨b, o, none⟩ ∧ B ≤ b ∧ ∃ f : Nat → Int, (∀ i, i < n → w.cell? ⟨b, o + i, none⟩ = some (.int .u64 (f i))) ∧ (∀ i, i < n → w.frozen? ⟨b, o + i, none⟩ = false)
def Touched (k : IntKind) (w w' : World) : Prop := (∀ p v, w.cell? p = some (.int k v) → ∃ v', w'.cell? p = some (.int k v')) ∧ (∀ p, w'.frozen? p = w.frozen? p) ∧ ∀ p u, w.cell? p = some u → (∀ x, u ≠ .int k x) → w'.cell? p = some u
theorem Touched.refl (k : IntKind) (w : World) : Touched k w w := ⟨fun p v h => ⟨v, h⟩, fun _ => rfl, fun _ _ h _ => h⟩
theorem Touched.set {k : IntKind} {w w' : World} (h : Touched k w w') (q : Addr) (x : Int) {y : Int} (hq : w'.cell? q = some (.int k y)) : Touched k w (w'.setCell q (.int k x)) := by
 refine ⟨fun p v hp => ?_, fun p => by rw [World.frozen?_setCell]; exact h.2.1 p, fun p u hp hu => ?_⟩
 · obtain ⟨v', hv⟩ := h.1 p v hp
   by_cases e : q = p
   · subst e
     exact ⟨x, World.cell?_setCell_same _ _ _ hq⟩
   · exact ⟨v', by rw [World.cell?_setCell_other _ (a := q) (b := p) _ e]; exact hv⟩
 · have h1 := h.2.2 p u hp hu
   have e : q ≠ p := by
    intro e
    subst e
    rw [hq] at h1
    exact hu y (Option.some.inj h1).symm
   rw [World.cell?_setCell_other _ (a := q) (b := p) _ e]
   exact h1
abbrev Digital (w w' : World) : Prop := Touched .u64 w w'
theorem Digital.refl (w : World) : Digital w w := Touched.refl _ w
theorem WritAt.keep {w w' : World} {B : Nat} {a : Option Addr} {n c : Nat} (h : WritAt w B a n c) (hd : Digital w w') : WritAt w' B a n c := by
 refine ⟨h.le, h.cle, ?_⟩
 rcases h.cell with h0 | ⟨b, o, he, hB, f, hc, hf⟩
 · exact .inl h0
 · refine .inr ⟨b, o, he, hB, fun i => if hi : i < n then Classical.choose (hd.1 _ _ (hc i hi)) else 0, fun i hi => ?_, fun i hi => by rw [hd.2.1]; exact hf i hi⟩
   dsimp only
   rw [dif_pos hi]
   exact Classical.choose_spec (hd.1 _ _ (hc i hi))
theorem OwnAt.writ {w : World} {B : Nat} {a : Option Addr} {n c : Nat} {l : List Nat} (h : OwnAt w B a n c l) : WritAt w B a n c := by
 refine ⟨h.le, h.cle, ?_⟩
 rcases h.own with h0 | ⟨b, o, he, hB, hf⟩
 · exact .inl h0
 · rcases h.cell with h0 | ⟨b', o', he', hc⟩
   · exact .inl h0
   · rw [he] at he'; cases he'
     exact .inr ⟨b, o, he, hB, _, hc, hf⟩
end Go.Proofs.YtlkoenpdmlbhlaaGreat
set_option linter.unusedVariables false
set_option linter.unusedSimpArgs false
namespace Go.Proofs.YtlkoenpdmlbhlaaGreat
open Go.RowKit
theorem OwnAt.past {w w' : World} {B : Nat} {a : Option Addr} {n c : Nat} {l : List Nat} (h : OwnAt w B a n c l) (hb : Below w.heap.size w w') : OwnAt w' B a n c l := h.later hb (Nat.le_refl _)
theorem box1g (w : World) (g : Nat) (hg : g = w.heap.size) (A : Array Value) (E : Nat) : ∃ W, w.alloc (.cells A E) = W ∧ W.heap.size = w.heap.size + 1 ∧ Below w.heap.size w W ∧ (∀ i, W.cell? ⟨g, i, none⟩ = A[i]?) ∧ (∀ i, W.frozen? ⟨g, i, none⟩ = false) := by
 subst hg
 exact ⟨_, rfl, by simp, (Below.refl _ _).alloc (Nat.le_refl _) _, fun i => World.cell?_alloc_at _ _ _ _ rfl, fun i => World.frozen?_alloc_at _ _ _ _ rfl⟩
theorem litG {E : Nat} (w : World) (g : Nat) (vs : Array Value) (l : List Nat) (n : Nat) (hg : g = w.heap.size) (hv : vs.toList = dv l) (hn : l.length = n) (hm : n ≤ 1000) (hd : l.all (fun x => decide (x < 18446744073709551616)) = true) :
 OwnAt (w.alloc (.cells vs E)) w.heap.size (some ⟨g, 0, none⟩) n n l := by
 subst hg
 refine OwnAt.ofRow (E := E) (v := .slice (some ⟨w.heap.size, 0, none⟩) n n) (n := n) ?_ (fun x hx => by simpa using List.all_eq_true.1 hd x hx) |>.elim fun a h => by
  obtain ⟨c, he, ho⟩ := h
  cases he
  exact ho
 rw [← hv]
 exact World.ownsRow_lit w vs n (Nat.le_refl _) (by simp only [maxLen]; omega) (by rw [← Array.length_toList, hv, dv_length, hn, Nat.mul_one])
end Go.Proofs.YtlkoenpdmlbhlaaGreat
set_option linter.unusedVariables false
set_option linter.unusedSimpArgs false
namespace Go.Proofs.YtlkoenpdmlbhlaaGreat
open Go.RowKit
set_option maxRecDepth 100000 in
theorem sameWhole_no (b b2 : Bool) (a : Option Addr) (n c : Nat) (a2 : Option Addr) (n2 c2 : Nat) (w : World) (hb : (b == b2) = false) :
 Calls Tryz.prog 47 #[.agg #[.bool b, .slice a n c], .agg #[.bool b2, .slice a2 n2 c2]] w (RetVal w (.bool false)) := by
 go_enter Tryz.func47, Tryz.ntmps47
 go_wp2
 go_ret
 exact ⟨rfl, ((Below.refl _ _).alloc (Nat.le_refl _) _).alloc (by simp) _⟩
set_option maxRecDepth 100000 in
theorem sameWhole_eq (b : Bool) (a : Option Addr) (n c : Nat) (l : List Nat) (a2 : Option Addr) (n2 c2 : Nat) (l2 : List Nat) (w : World) (h : NatAt w a n c l) (h2 : NatAt w a2 n2 c2 l2) :
 Calls Tryz.prog 47 #[.agg #[.bool b, .slice a n c], .agg #[.bool b, .slice a2 n2 c2]] w (RetVal w (.bool (eqL l l2))) := by
 go_enter Tryz.func47, Tryz.ntmps47
 go_wp2_with fail
 with_reducible refine (sameNat_below ((h.alloc _).alloc _) ((h2.alloc _).alloc _)).mono ?_
 rintro e w1 ⟨rfl, hb⟩
 go_wp2
 go_ret
 exact ⟨rfl, below_later (((Below.refl _ _).alloc (Nat.le_refl _) _).alloc (by simp) _) hb⟩
theorem sameWhole_yes {b : Bool} {a : Option Addr} {n c : Nat} {l : List Nat} {a2 : Option Addr} {n2 c2 : Nat} {w : World} (h : NatAt w a n c l) (h2 : NatAt w a2 n2 c2 l) :
 Calls Tryz.prog 47 #[.agg #[.bool b, .slice a n c], .agg #[.bool b, .slice a2 n2 c2]] w (RetVal w (.bool true)) := by
 have := sameWhole_eq b a n c l a2 n2 c2 l w h h2
 rwa [eqL_self] at this
theorem sign_c {x : Int} {a : Option Addr} {n c : Nat} {w : World} (h : NatAt w a n c (digs x.natAbs)) (hs : n ≤ 1099511627776) :
 Calls Tryz.prog 42 #[.agg #[.bool (neg x), .slice a n c]] w (RetVal w (.int .i64 x.sign)) := by
 have := sign_any (neg x) a n c _ w h hs
 rwa [sg_canon] at this
theorem chkZ_canon (x : Int) : chkZ (neg x) (digs x.natAbs) = 0 := by
 unfold chkZ
 rw [if_neg, chk_top.2 (top_digs _)]
 rintro ⟨h1, h2⟩
 have := digs_eq_nil.1 h2
 have h3 := of_decide_eq_true h1
 omega
end Go.Proofs.YtlkoenpdmlbhlaaGreat
