import Derived.Deep.RegionWith
import Derived.BigRegion
import Derived.Test.YtoecndogaklngaaGreatDoorS0Df
import Derived.Test.YtoecndogaklngaaGreatDoorLimbs3Df
import Derived.Test.YtoecndogaklngaaGreatDoorLimbs5Df
set_option linter.unusedVariables false
set_option linter.unusedSimpArgs false
namespace Go.Proofs.YtoecndogaklngaaGreatDoor
open Go.RowKit
set_option maxHeartbeats 1000000 in
set_option maxRecDepth 100000 in
theorem sub_yes (a : Option Addr) (n c : Nat) (l : List Nat) (a2 : Option Addr) (n2 c2 : Nat) (l2 : List Nat) (w : World) (h : NatAt w a n c l) (h2 : NatAt w a2 n2 c2 l2) (hs : n ≤ 549755813888) (hv : val l2 ≤ val l) :
 Calls Tryz.prog 101 #[.slice a n c, .slice a2 n2 c2] w (RetNatOk w (val l - val l2) 0) := by
 have ht : 0 ≤ cmpI (val l) (val l2) := by
  rcases Int.lt_or_le (cmpI (val l) (val l2)) 0 with h' | h'
  · have := cmpI_neg.1 h'; omega
  · exact h'
 have HV := Lib.hid hv
 clear hv
 go_enter Tryz.func101, Tryz.ntmps101
 go_wp2_with fail
 refine (cmp_any _ _ _ l _ _ _ l2 _ h h2).mono ?_
 rintro e w0 ⟨rfl, hb0⟩
 go_wp2_with fail
 refine (room_any _ _ (by omega) (by omega)).mono ?_
 rintro e w1 ⟨a1, c1, rfl, h3, hb1⟩
 rw [Int.toNat_natCast] at h3 ⊢
 have hb := below_later hb0 hb1
 have hcle := h3.cle
 have hle := h3.le
 have h3 := h3.mono hb0.size
 by_cases hn0 : n = 0
 · subst hn0
   have hl0 : l = [] := List.eq_nil_of_length_eq_zero h.len
   have hz : val l - val l2 = 0 := by rw [hl0]; simp [val]
   have HZ := Lib.hid hz
   clear hz hl0
   go_wp2_with fail
   refine wp_loop_rounds 1 ?_
   rw [rounds_succ]
   go_wp2_with fail
   refine (trimmed_any _ _ _ _ _ h3.toNatAt).mono ?_
   rintro e w' ⟨rfl, rfl⟩
   rw [show (digs (val (List.replicate 0 0))).length = 0 from rfl]
   go_wp2_with fail
   refine (clip_any _ _ _ _ (by omega) hcle).mono ?_
   rintro e w' ⟨rfl, rfl⟩
   go_wp2
   go_ret2
   refine ⟨_, _, _, rfl, ?_, hb⟩
   rw [HZ.out]
   exact h3.recap (Nat.le_refl _) (by omega)
 rcases h3.own with h3' | ⟨b, o, rfl, hB, hf⟩
 · omega
 clear hf
 go_wp2_with fail
 go_loopw [7, 8] (fun i cy wr => ∃ (k x : Nat) (os : List Nat), k ≤ n ∧ x ≤ 1 ∧ i = .int .i64 k ∧ cy = .int .u64 x ∧ OwnAt wr w.heap.size (some ⟨b, o, none⟩) n c1 os ∧ lo os k + lo l2 k = lo l k + 18446744073709551616 ^ k * x ∧ Below w.heap.size w wr) (fun i _ _ => n - (intOf i).toNat)
 case atStart => exact ⟨0, 0, _, Nat.zero_le _, Nat.zero_le _, rfl, rfl, h3, by simp [lo_zero], hb⟩
 case round =>
  obtain ⟨k, x, os, hk, hx, rfl, rfl, h4, h5, h6⟩ := hrel
  by_cases hlt : k < n
  · have e1 := h.later h6 (Nat.le_refl _)
    have e2 := (h2.later h6 (Nat.le_refl _)).drew
    have H5 := Lib.hid h5
    clear h5
    have d1 := h.dig.at_ k
    have d2 := h2.dig.at_ k
    have hcell : ∃ v, wr.cell? ⟨b, o + k, none⟩ = some v := by
     rcases h4.cell with h' | ⟨b', o', he, hc⟩
     · omega
     · cases he; exact ⟨_, hc k hlt⟩
    obtain ⟨v, hcell⟩ := hcell
    have hfro : wr.frozen? ⟨b, o + k, none⟩ = false := by
     rcases h4.own with h' | ⟨b', o', he, _, hf⟩
     · omega
     · cases he; exact hf k hlt
    obtain ⟨d, cy, hd, hcy, hsum, hsub⟩ := sub64_call (D l k) (D l2 k) x d1 d2 hx
    have HS := Lib.hid hsum
    clear hsum
    rcases e1.parts with h' | ⟨ba, oa, rfl, _, hca⟩
    · omega
    have hca' := hca k hlt
    clear hca
    go_wp2_with fail
    have hfo : Tryz.prog.follows .mixedOrders = true := by kernel_rfl
    go_region_with (first | (go_at_call 76; refine (digit_any _ _ _ l2 _ _ e2 (by omega)).mono ?_; rintro e w' ⟨rfl, rfl⟩; rw [Int.toNat_natCast]))
    all_goals
     have h7 := h4.drew.set hlt hd
     have h8 := h6.drew.setCell (p := ⟨b, o + k, none⟩) hB (.int .u64 (d : Int))
     have h9 := sub_step H5.out (by rw [h4.len]; exact hlt) HS.out
     go_wp2
     go_roundw
     case rel => exact ⟨k + 1, cy, _, by omega, hcy, by go_num, rfl, h7, h9, h8⟩
     case measure => simp [intOf]; omega
  · obtain rfl : k = n := by omega
    have h7 := sub_end h.dig h4.dig h4.len (by rw [h.len]; exact Nat.le_refl _) HV.out h5
    have h8 := h4.digs
    rw [h7] at h8
    have h9 := h8.le
    clear h5
    go_wp2_with fail
    refine (trimmed_any _ _ _ _ _ h4.toNatAt).mono ?_
    rintro e w' ⟨rfl, rfl⟩
    rw [h7]
    go_wp2_with fail
    refine (clip_any _ _ _ _ h9 hcle).mono ?_
    rintro e w' ⟨rfl, rfl⟩
    go_wp2
    go_ret2
    exact ⟨_, _, _, rfl, h8.recap (Nat.le_refl _) h9, h6⟩
end Go.Proofs.YtoecndogaklngaaGreatDoor
set_option linter.unusedVariables false
set_option linter.unusedSimpArgs false
namespace Go.Proofs.YtoecndogaklngaaGreatDoor
open Go.RowKit
def sg (b : Bool) (v : Nat) : Int := if b then -(v : Int) else v
def neg (z : Int) : Bool := decide (z < 0)
def RetInt (w : World) (z : Int) (e : Ending) (w' : World) : Prop :=
 ∃ a n c, e = .returned (.agg #[.bool (neg z), .slice a n c]) ∧ OwnAt w' w.heap.size a n c (digs z.natAbs) ∧ Below w.heap.size w w'
theorem bcell {W w1 : World} (hb : Below W.heap.size W w1) : (∀ b o, b < W.heap.size → w1.cell? ⟨b, o, none⟩ = W.cell? ⟨b, o, none⟩) ∧ (∀ b o, b < W.heap.size → w1.frozen? ⟨b, o, none⟩ = W.frozen? ⟨b, o, none⟩) :=
 ⟨fun b o h => hb.cell (p := ⟨b, o, none⟩) h, fun b o h => hb.frozen (p := ⟨b, o, none⟩) h⟩
theorem natAbs_sg (b : Bool) (v : Nat) : (sg b v).natAbs = v := by cases b <;> simp [sg]
theorem neg_sg (b : Bool) (v : Nat) : neg (sg b v) = (b && decide (0 < v)) := by cases b <;> simp [sg, neg] <;> omega
theorem OwnAt.setOff {w : World} {B : Nat} {a : Option Addr} {n c : Nat} {l : List Nat} (h : OwnAt w B a n c l) {b o : Nat} (hb : b < B) (v : Value) : OwnAt (w.setCell ⟨b, o, none⟩ v) B a n c l := by
 refine ⟨⟨h.len, h.le, h.cle, h.dig, ?_, h.nilc⟩, ?_⟩
 · rcases h.cell with h0 | ⟨b', o', he, hc⟩
   · exact .inl h0
   · rcases h.own with h0 | ⟨b2, o2, he2, hB, hf⟩
     · exact .inl h0
     · rw [he] at he2
       cases he2
       refine .inr ⟨b', o', he, fun i hi => ?_⟩
       rw [World.cell?_setCell_other _ (a := ⟨b, o, none⟩) (b := ⟨b', o' + i, none⟩) _ (fun e => by have := congrArg Addr.block e; simp at this; omega)]
       exact hc i hi
 · rcases h.own with h0 | ⟨b2, o2, he2, hB, hf⟩
   · exact .inl h0
   · exact .inr ⟨b2, o2, he2, hB, fun i hi => by rw [World.frozen?_setCell]; exact hf i hi⟩
theorem boxes2 (w : World) (A B : Array Value) (E F : Nat) : ∃ W, (w.alloc (.cells A E)).alloc (.cells B F) = W ∧ W.heap.size = w.heap.size + 2 ∧ Below w.heap.size w W ∧
 (∀ i, W.cell? ⟨w.heap.size, i, none⟩ = A[i]?) ∧ (∀ i, W.cell? ⟨w.heap.size + 1, i, none⟩ = B[i]?) ∧ (∀ i, W.frozen? ⟨w.heap.size + 1, i, none⟩ = false) := by
 refine ⟨_, rfl, by simp, ((Below.refl _ _).alloc (Nat.le_refl _) _).alloc (by simp) _, fun i => ?_, fun i => ?_, fun i => ?_⟩
 · rw [World.cell?_alloc_past _ _ _ (by simp), World.cell?_alloc_at _ _ _ _ rfl]
 · rw [World.cell?_alloc_at _ _ _ _ (by simp)]
 · rw [World.frozen?_alloc_at _ _ _ _ (by simp)]
theorem boxPast {W w1 : World} {B : Nat} {A : Array Value} (hb : Below W.heap.size W w1) (hlt : B < W.heap.size) (q : ∀ i, W.cell? ⟨B, i, none⟩ = A[i]?) (f : ∀ i, W.frozen? ⟨B, i, none⟩ = false) :
 (∀ i, w1.cell? ⟨B, i, none⟩ = A[i]?) ∧ (∀ i, w1.frozen? ⟨B, i, none⟩ = false) :=
 ⟨fun i => (hb.cell (p := ⟨B, i, none⟩) hlt).trans (q i), fun i => (hb.frozen (p := ⟨B, i, none⟩) hlt).trans (f i)⟩
set_option maxRecDepth 100000 in
theorem make_any (b : Bool) (a : Option Addr) (n c : Nat) (l : List Nat) (w : World) (h : NatAt w a n c l) (hs : n ≤ 1099511627776) :
 Calls Tryz.prog 25 #[.bool b, .slice a n c] w (RetInt w (sg b (val l))) := by
 cases b
 all_goals
  go_enter Tryz.func25, Tryz.ntmps25
  go_wp2_with fail
  with_reducible refine (trim_any _ _ _ l _ (h.alloc _) hs).mono ?_
  rintro e w1 ⟨a1, n1, c1, rfl, h1, hb⟩
  obtain ⟨hc, hf⟩ := bcell hb
  have hz : w.heap.size < w1.heap.size := by have := hb.size; simp at this; omega
  go_wp2
  refine bodyPost_ret (v := .agg #[.bool (neg (sg _ (val l))), .slice a1 n1 c1]) ?_ rfl ⟨_, _, _, rfl, ?_, ?_⟩
  · simp [results, Tryz.f25, go_sem, hc, hz]
    have hl := h1.len
    have h0 := digs_len0 (n := val l)
    rw [neg_sg]
    first
     | rfl
     | (simp only [Bool.true_and, decide_eq_decide]; omega)
  · rw [natAbs_sg]
    exact (((h1.setOff (by simp) _).setOff (by simp) _).alloc _).mono (by simp)
  · have hB := below_later ((Below.refl w.heap.size w).alloc (Nat.le_refl _) _) hb
    exact (((hB.setCell (p := ⟨w.heap.size, 0, none⟩) (Nat.le_refl _) _).setCell (p := ⟨w.heap.size, 1, none⟩) (Nat.le_refl _) _).alloc (by simp; omega) _)
def chkZ (b : Bool) (l : List Nat) : Int := if b = true ∧ l = [] then 6 else chk l
set_option maxRecDepth 100000 in
theorem scheck_any (b : Bool) (a : Option Addr) (n c : Nat) (l : List Nat) (w : World) (h : NatAt w a n c l) :
 Calls Tryz.prog 36 #[.agg #[.bool b, .slice a n c]] w (RetVal w (.int .i64 (chkZ b l))) := by
 have hlen := h.len
 by_cases h0 : b = true ∧ n = 0
 · obtain ⟨rfl, rfl⟩ := h0
   have hl : l = [] := List.eq_nil_of_length_eq_zero hlen
   subst hl
   go_enter Tryz.func36, Tryz.ntmps36
   go_wp2_with fail
   go_ret
   exact ⟨rfl, (Below.refl _ _).alloc (Nat.le_refl _) _⟩
 · have hk : chkZ b l = chk l := by
    unfold chkZ; rw [if_neg]; rintro ⟨rfl, rfl⟩; exact h0 ⟨rfl, hlen.symm⟩
   rw [hk]
   clear hk hlen
   cases b
   · clear h0
     go_enter Tryz.func36, Tryz.ntmps36
     go_wp2_with fail
     with_reducible refine (check_any _ _ _ l _ (h.alloc _)).mono ?_
     rintro e w' ⟨rfl, rfl⟩
     go_wp2
     go_ret
     exact ⟨rfl, (Below.refl _ _).alloc (Nat.le_refl _) _⟩
   · have hn : ¬ n = 0 := fun e => h0 ⟨rfl, e⟩
     clear h0
     go_enter Tryz.func36, Tryz.ntmps36
     go_wp2_with fail
     with_reducible refine (check_any _ _ _ l _ (h.alloc _)).mono ?_
     rintro e w' ⟨rfl, rfl⟩
     go_wp2
     go_ret
     exact ⟨rfl, (Below.refl _ _).alloc (Nat.le_refl _) _⟩
end Go.Proofs.YtoecndogaklngaaGreatDoor
