import Derived.Test.YtoecndogaklngaaDoorS0Db
import Derived.Test.YtoecndogaklngaaDoorLimbs3Db
import Derived.Test.YtoecndogaklngaaDoorLimbs6Db
set_option linter.unusedVariables false
set_option linter.unusedSimpArgs false
namespace Go.Proofs.YtoecndogaklngaaDoor
open Go.RowKit
def sg (b : Bool) (v : Nat) : Int := if b then -(v : Int) else v
def neg (z : Int) : Bool := decide (z < 0)
def RetInt (w : World) (z : Int) (e : Ending) (w' : World) : Prop :=
 ∃ a n c, e = .returned (.agg #[.bool (neg z), .slice a n c]) ∧ OwnAt w' w.heap.size a n c (digs z.natAbs) ∧ Below w.heap.size w w'
theorem bcell {W w1 : World} (hb : Below W.heap.size W w1) : (∀ b o, b < W.heap.size → w1.cell? ⟨b, o, none⟩ = W.cell? ⟨b, o, none⟩) ∧ (∀ b o, b < W.heap.size → w1.frozen? ⟨b, o, none⟩ = W.frozen? ⟨b, o, none⟩) :=
 ⟨fun b o h => hb.cell (p := ⟨b, o, none⟩) h, fun b o h => hb.frozen (p := ⟨b, o, none⟩) h⟩
theorem sg_false (v : Nat) : sg false v = v := rfl
theorem sg_true (v : Nat) : sg true v = -(v : Int) := rfl
theorem natAbs_sg (b : Bool) (v : Nat) : (sg b v).natAbs = v := by cases b <;> simp [sg]
theorem neg_sg (b : Bool) (v : Nat) : neg (sg b v) = (b && decide (0 < v)) := by cases b <;> simp [sg, neg] <;> omega
theorem OwnAt.setOff {w : World} {B : Nat} {a : Option Addr} {n c : Nat} {l : List Nat} (h : OwnAt w B a n c l) {b o : Nat} (hb : b < B) (v : Value) : OwnAt (w.setCell ⟨b, o, none⟩ v) B a n c l := by
 refine ⟨⟨h.len, h.le, h.cle, h.dig, ?_, h.nilc⟩, ?_⟩
 · rcases h.cell with h0 | ⟨b', o', he, hc⟩
   · exact .inl h0
   · rcases h.own with h0 | ⟨b2, o2, he2, hB, hf⟩
     · exact .inl h0
     · rw [he] at he2
       cases he2
       refine .inr ⟨b', o', he, fun i hi => ?_⟩
       rw [World.cell?_setCell_other _ (a := ⟨b, o, none⟩) (b := ⟨b', o' + i, none⟩) _ (fun e => by have := congrArg Addr.block e; simp at this; omega)]
       exact hc i hi
 · rcases h.own with h0 | ⟨b2, o2, he2, hB, hf⟩
   · exact .inl h0
   · exact .inr ⟨b2, o2, he2, hB, fun i hi => by rw [World.frozen?_setCell]; exact hf i hi⟩
theorem RetInt.stored {w W w' : World} {B : Nat} {a : Option Addr} {n c : Nat} {l : List Nat} {x : Value} (hW : Below w.heap.size w W) (hb : Below W.heap.size W w') (h : OwnAt w' W.heap.size a n c l) (hB : w.heap.size ≤ B) (hB2 : B < W.heap.size) :
 OwnAt ((w'.setCell ⟨B, 0, none⟩ x).setCell ⟨B, 1, none⟩ (.slice a n c)) w.heap.size a n c l ∧ Below w.heap.size w ((w'.setCell ⟨B, 0, none⟩ x).setCell ⟨B, 1, none⟩ (.slice a n c)) :=
 ⟨((h.setOff hB2 _).setOff hB2 _).mono hW.size, ((below_later hW hb).setCell (p := ⟨B, 0, none⟩) hB _).setCell (p := ⟨B, 1, none⟩) hB _⟩
theorem boxPast {W w1 : World} {B : Nat} {A : Array Value} (hb : Below W.heap.size W w1) (hlt : B < W.heap.size) (q : ∀ i, W.cell? ⟨B, i, none⟩ = A[i]?) (f : ∀ i, W.frozen? ⟨B, i, none⟩ = false) :
 (∀ i, w1.cell? ⟨B, i, none⟩ = A[i]?) ∧ (∀ i, w1.frozen? ⟨B, i, none⟩ = false) :=
 ⟨fun i => (hb.cell (p := ⟨B, i, none⟩) hlt).trans (q i), fun i => (hb.frozen (p := ⟨B, i, none⟩) hlt).trans (f i)⟩
theorem retIntOf {w w' : World} {z : Int} {a : Option Addr} {n c v : Nat} (h : OwnAt w' w.heap.size a n c (digs v) ∧ Below w.heap.size w w') (e : v = z.natAbs) (e2 : Ending) (he : e2 = .returned (.agg #[.bool (neg z), .slice a n c])) : RetInt w z e2 w' :=
 ⟨a, n, c, he, e ▸ h.1, h.2⟩
set_option maxRecDepth 100000 in
theorem make_any (b : Bool) (a : Option Addr) (n c : Nat) (l : List Nat) (w : World) (h : NatAt w a n c l) (hs : n ≤ 1099511627776) :
 Calls Tryd.prog 27 #[.bool b, .slice a n c] w (RetInt w (sg b (val l))) := by
 cases b
 all_goals
  go_enter Tryd.func27, Tryd.ntmps27
  go_wp2_with fail
  with_reducible refine (trim_any _ _ _ l _ (h.alloc _) hs).mono ?_
  rintro e w1 ⟨a1, n1, c1, rfl, h1, hb⟩
  obtain ⟨hc, hf⟩ := bcell hb
  have hz : w.heap.size < w1.heap.size := by have := hb.size; simp at this; omega
  go_wp2
  refine bodyPost_ret (v := .agg #[.bool (neg (sg _ (val l))), .slice a1 n1 c1]) ?_ rfl ⟨_, _, _, rfl, ?_, ?_⟩
  · simp [results, Tryd.f27, go_sem, hc, hz]
    have hl := h1.len
    have h0 := digs_len0 (n := val l)
    rw [neg_sg]
    first
     | rfl
     | (simp only [Bool.true_and, decide_eq_decide]; omega)
  · rw [natAbs_sg]
    exact (((h1.setOff (by simp) _).setOff (by simp) _).alloc _).mono (by simp)
  · have hB := below_later ((Below.refl w.heap.size w).alloc (Nat.le_refl _) _) hb
    exact (((hB.setCell (p := ⟨w.heap.size, 0, none⟩) (Nat.le_refl _) _).setCell (p := ⟨w.heap.size, 1, none⟩) (Nat.le_refl _) _).alloc (by simp; omega) _)
def chkZ (b : Bool) (l : List Nat) : Int := if b = true ∧ l = [] then 6 else chk l
set_option maxRecDepth 100000 in
theorem scheck_any (b : Bool) (a : Option Addr) (n c : Nat) (l : List Nat) (w : World) (h : NatAt w a n c l) :
 Calls Tryd.prog 41 #[.agg #[.bool b, .slice a n c]] w (RetVal w (.int .i64 (chkZ b l))) := by
 have hlen := h.len
 by_cases h0 : b = true ∧ n = 0
 · obtain ⟨rfl, rfl⟩ := h0
   have hl : l = [] := List.eq_nil_of_length_eq_zero hlen
   subst hl
   go_enter Tryd.func41, Tryd.ntmps41
   go_wp2_with fail
   go_ret
   exact ⟨rfl, (Below.refl _ _).alloc (Nat.le_refl _) _⟩
 · have hk : chkZ b l = chk l := by
    unfold chkZ; rw [if_neg]; rintro ⟨rfl, rfl⟩; exact h0 ⟨rfl, hlen.symm⟩
   rw [hk]
   clear hk hlen
   cases b
   · clear h0
     go_enter Tryd.func41, Tryd.ntmps41
     go_wp2_with fail
     with_reducible refine (check_any _ _ _ l _ (h.alloc _)).mono ?_
     rintro e w' ⟨rfl, rfl⟩
     go_wp2
     go_ret
     exact ⟨rfl, (Below.refl _ _).alloc (Nat.le_refl _) _⟩
   · have hn : ¬ n = 0 := fun e => h0 ⟨rfl, e⟩
     clear h0
     go_enter Tryd.func41, Tryd.ntmps41
     go_wp2_with fail
     with_reducible refine (check_any _ _ _ l _ (h.alloc _)).mono ?_
     rintro e w' ⟨rfl, rfl⟩
     go_wp2
     go_ret
     exact ⟨rfl, (Below.refl _ _).alloc (Nat.le_refl _) _⟩
theorem u64_neg {x : Int} (h0 : -9223372036854775808 ≤ x) (hx : x < 0) : IntKind.u64.wrap (-IntKind.u64.wrap x) = ((x.natAbs : Nat) : Int) ∧ x.natAbs < 18446744073709551616 := by
 rw [IntKind.wrap_u64, IntKind.wrap_u64]; omega
set_option maxRecDepth 100000 in
theorem sof_any (x : Int) (w : World) (h0 : -9223372036854775808 ≤ x) (h1 : x ≤ 9223372036854775807) :
 Calls Tryd.prog 25 #[.int .i64 x] w (RetInt w x) := by
 by_cases hx : x < 0
 · obtain ⟨v1, v2⟩ := u64_neg h0 hx
   have v3 : sg true x.natAbs = x := by rw [sg_true]; omega
   have V1 := Lib.hid v1
   have V3 := Lib.hid v3
   clear v1 v3
   go_enter Tryd.func25, Tryd.ntmps25
   go_wp2_with fail
   rw [V1.out]
   have q2 : ∀ i, (w.alloc (.cells #[.bool false, .slice none 0 0] 29)).cell? ⟨w.heap.size, i, none⟩ = #[.bool false, .slice none 0 0][i]? := fun i => World.cell?_alloc_at _ _ _ _ rfl
   have q3 : ∀ i, (w.alloc (.cells #[.bool false, .slice none 0 0] 29)).frozen? ⟨w.heap.size, i, none⟩ = false := fun i => World.frozen?_alloc_at _ _ _ _ rfl
   have hBW : Below w.heap.size w (w.alloc (.cells #[.bool false, .slice none 0 0] 29)) := (Below.refl _ _).alloc (Nat.le_refl _) _
   have hz : (w.alloc (.cells #[.bool false, .slice none 0 0] 29)).heap.size = w.heap.size + 1 := by simp
   generalize w.alloc (.cells #[.bool false, .slice none 0 0] 29) = W at *
   with_reducible refine (of_any _ _ v2).mono ?_
   rintro e w1 ⟨a1, n1, c1, rfl, h2, hb⟩
   have hlt : w.heap.size < W.heap.size := by omega
   have hlt2 : w.heap.size < w1.heap.size := by have := hb.size; omega
   obtain ⟨q2, q3⟩ := boxPast hb hlt q2 q3
   have hb2 := below_later hBW hb
   have hn1 : n1 ≤ 1099511627776 := by
    have h3 := h2.len
    have h4 := digs_length_le (n := x.natAbs) (k := 1)
    rw [Nat.pow_one] at h4
    have := h4.2 v2
    omega
   clear hBW hz hlt
   go_wp2_with fail
   with_reducible refine (make_any _ _ _ _ _ _ h2.toNatAt hn1).mono ?_
   rintro e w2 ⟨a2, n2, c2, rfl, h3, hb3⟩
   rw [val_digs] at h3 ⊢
   rw [V3.out] at h3 ⊢
   obtain ⟨q2, q3⟩ := boxPast hb3 hlt2 q2 q3
   have hs := RetInt.stored (x := .bool (neg x)) hb2 hb3 h3 (Nat.le_refl _) hlt2
   clear hb2 hb3 hb hn1 h2 h3 hlt2
   go_wp2
   refine bodyPost_ret (v := .agg #[.bool (neg x), .slice a2 n2 c2]) ?_ rfl (retIntOf hs rfl _ rfl)
   simp [results, Tryd.f25, go_sem, q2]
 · obtain ⟨y, rfl⟩ := Int.eq_ofNat_of_zero_le (show 0 ≤ x by omega)
   have v2 : y < 18446744073709551616 := by omega
   have e1 : (y : Int).natAbs = y := Int.natAbs_natCast y
   have E1 := Lib.hid e1
   clear e1
   go_enter Tryd.func25, Tryd.ntmps25
   go_wp2_with fail
   have q2 : ∀ i, (w.alloc (.cells #[.bool false, .slice none 0 0] 29)).cell? ⟨w.heap.size, i, none⟩ = #[.bool false, .slice none 0 0][i]? := fun i => World.cell?_alloc_at _ _ _ _ rfl
   have q3 : ∀ i, (w.alloc (.cells #[.bool false, .slice none 0 0] 29)).frozen? ⟨w.heap.size, i, none⟩ = false := fun i => World.frozen?_alloc_at _ _ _ _ rfl
   have hBW : Below w.heap.size w (w.alloc (.cells #[.bool false, .slice none 0 0] 29)) := (Below.refl _ _).alloc (Nat.le_refl _) _
   have hz : (w.alloc (.cells #[.bool false, .slice none 0 0] 29)).heap.size = w.heap.size + 1 := by simp
   generalize w.alloc (.cells #[.bool false, .slice none 0 0] 29) = W at *
   with_reducible refine (of_any _ _ v2).mono ?_
   rintro e w1 ⟨a1, n1, c1, rfl, h2, hb⟩
   have hlt : w.heap.size < W.heap.size := by omega
   have hlt2 : w.heap.size < w1.heap.size := by have := hb.size; omega
   obtain ⟨q2, q3⟩ := boxPast hb hlt q2 q3
   have hb2 := below_later hBW hb
   have hn1 : n1 ≤ 1099511627776 := by
    have h3 := h2.len
    have h4 := digs_length_le (n := y) (k := 1)
    rw [Nat.pow_one] at h4
    have := h4.2 v2
    omega
   clear hBW hz hlt
   go_wp2_with fail
   with_reducible refine (make_any _ _ _ _ _ _ h2.toNatAt hn1).mono ?_
   rintro e w2 ⟨a2, n2, c2, rfl, h3, hb3⟩
   rw [val_digs] at h3 ⊢
   rw [sg_false] at h3 ⊢
   obtain ⟨q2, q3⟩ := boxPast hb3 hlt2 q2 q3
   have hs := RetInt.stored (x := .bool (neg (y : Int))) hb2 hb3 h3 (Nat.le_refl _) hlt2
   clear hb2 hb3 hb hn1 h2 h3 hlt2
   go_wp2
   refine bodyPost_ret (v := .agg #[.bool (neg (y : Int)), .slice a2 n2 c2]) ?_ rfl (retIntOf hs rfl _ rfl)
   simp [results, Tryd.f25, go_sem, q2]
end Go.Proofs.YtoecndogaklngaaDoor
