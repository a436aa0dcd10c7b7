/- several texts as one: Signed1, Signed2. -/
import Derived.Test.YtlkoenpdmlbhlaaA2
import Derived.Test.YtlkoenpdmlbhlaaA3
import Derived.Deep.RegionHeld3
import Derived.Deep.RegionWith

/- signed, first part: what it means that an Int comes back; Make, Of, Neg, Check, Sign. -/
set_option linter.unusedVariables false
set_option linter.unusedSimpArgs false
namespace Go.Proofs.Ytlkoenpdmlbhlaa
open Go.RowKit

/-- a number with a sign -/
def sg (b : Bool) (v : Nat) : Int := if b then -(v : Int) else v
/-- is a whole number below nought? -/
def neg (z : Int) : Bool := decide (z < 0)

/-- A call that tells a whole number in new memory. -/
def RetInt (w : World) (z : Int) (e : Ending) (w' : World) : Prop :=
  ∃ a n c, e = .returned (.agg #[.bool (neg z), .slice a n c]) ∧ OwnAt w' w.heap.size a n c (digs z.natAbs) ∧ Below w.heap.size w w'

theorem bcell {W w1 : World} (hb : Below W.heap.size W w1) : (∀ b o, b < W.heap.size → w1.cell? ⟨b, o, none⟩ = W.cell? ⟨b, o, none⟩) ∧ (∀ b o, b < W.heap.size → w1.frozen? ⟨b, o, none⟩ = W.frozen? ⟨b, o, none⟩) :=
  ⟨fun b o h => hb.cell (p := ⟨b, o, none⟩) h, fun b o h => hb.frozen (p := ⟨b, o, none⟩) h⟩

theorem sg_false (v : Nat) : sg false v = v := rfl
theorem sg_true (v : Nat) : sg true v = -(v : Int) := rfl
theorem natAbs_sg (b : Bool) (v : Nat) : (sg b v).natAbs = v := by cases b <;> simp [sg]
theorem neg_sg (b : Bool) (v : Nat) : neg (sg b v) = (b && decide (0 < v)) := by cases b <;> simp [sg, neg] <;> omega
theorem sg_canon (z : Int) : sg (neg z) (val (digs z.natAbs)) = z := by
  rw [val_digs]; unfold sg neg; split <;> simp_all <;> omega

theorem OwnAt.setOff {w : World} {B : Nat} {a : Option Addr} {n c : Nat} {l : List Nat} (h : OwnAt w B a n c l) {b o : Nat} (hb : b < B) (v : Value) : OwnAt (w.setCell ⟨b, o, none⟩ v) B a n c l := by
  refine ⟨⟨h.len, h.le, h.cle, h.dig, ?_, h.nilc⟩, ?_⟩
  · rcases h.cell with h0 | ⟨b', o', he, hc⟩
    · exact .inl h0
    · rcases h.own with h0 | ⟨b2, o2, he2, hB, hf⟩
      · exact .inl h0
      · rw [he] at he2
        cases he2
        refine .inr ⟨b', o', he, fun i hi => ?_⟩
        rw [World.cell?_setCell_other _ (a := ⟨b, o, none⟩) (b := ⟨b', o' + i, none⟩) _ (fun e => by have := congrArg Addr.block e; simp at this; omega)]
        exact hc i hi
  · rcases h.own with h0 | ⟨b2, o2, he2, hB, hf⟩
    · exact .inl h0
    · exact .inr ⟨b2, o2, he2, hB, fun i hi => by rw [World.frozen?_setCell]; exact hf i hi⟩

/-- three boxes, one behind the other, all of them new -/
theorem boxes3 (w : World) (A B C : Array Value) (E F G : Nat) : ∃ W, ((w.alloc (.cells A E)).alloc (.cells B F)).alloc (.cells C G) = W ∧ W.heap.size = w.heap.size + 3 ∧ Below w.heap.size w W ∧
    (∀ i, W.cell? ⟨w.heap.size, i, none⟩ = A[i]?) ∧ (∀ i, W.cell? ⟨w.heap.size + 1, i, none⟩ = B[i]?) ∧ (∀ i, W.cell? ⟨w.heap.size + 1 + 1, i, none⟩ = C[i]?) ∧ (∀ i, W.frozen? ⟨w.heap.size + 1 + 1, i, none⟩ = false) := by
  refine ⟨_, rfl, by simp, (((Below.refl _ _).alloc (Nat.le_refl _) _).alloc (by simp) _).alloc (by simp; omega) _, fun i => ?_, fun i => ?_, fun i => ?_, fun i => ?_⟩
  · rw [World.cell?_alloc_past _ _ _ (by simp; omega), World.cell?_alloc_past _ _ _ (by simp), World.cell?_alloc_at _ _ _ _ rfl]
  · rw [World.cell?_alloc_past _ _ _ (by simp), World.cell?_alloc_at _ _ _ _ (by simp)]
  · rw [World.cell?_alloc_at _ _ _ _ (by simp)]
  · rw [World.frozen?_alloc_at _ _ _ _ (by simp)]
theorem boxes2 (w : World) (A B : Array Value) (E F : Nat) : ∃ W, (w.alloc (.cells A E)).alloc (.cells B F) = W ∧ W.heap.size = w.heap.size + 2 ∧ Below w.heap.size w W ∧
    (∀ i, W.cell? ⟨w.heap.size, i, none⟩ = A[i]?) ∧ (∀ i, W.cell? ⟨w.heap.size + 1, i, none⟩ = B[i]?) ∧ (∀ i, W.frozen? ⟨w.heap.size + 1, i, none⟩ = false) := by
  refine ⟨_, rfl, by simp, ((Below.refl _ _).alloc (Nat.le_refl _) _).alloc (by simp) _, fun i => ?_, fun i => ?_, fun i => ?_⟩
  · rw [World.cell?_alloc_past _ _ _ (by simp), World.cell?_alloc_at _ _ _ _ rfl]
  · rw [World.cell?_alloc_at _ _ _ _ (by simp)]
  · rw [World.frozen?_alloc_at _ _ _ _ (by simp)]

/-- an Int that comes back, stored into a result's box -/
theorem RetInt.stored {w W w' : World} {B : Nat} {a : Option Addr} {n c : Nat} {l : List Nat} {x : Value} (hW : Below w.heap.size w W) (hb : Below W.heap.size W w') (h : OwnAt w' W.heap.size a n c l) (hB : w.heap.size ≤ B) (hB2 : B < W.heap.size) :
    OwnAt ((w'.setCell ⟨B, 0, none⟩ x).setCell ⟨B, 1, none⟩ (.slice a n c)) w.heap.size a n c l ∧ Below w.heap.size w ((w'.setCell ⟨B, 0, none⟩ x).setCell ⟨B, 1, none⟩ (.slice a n c)) :=
  ⟨((h.setOff hB2 _).setOff hB2 _).mono hW.size, ((below_later hW hb).setCell (p := ⟨B, 0, none⟩) hB _).setCell (p := ⟨B, 1, none⟩) hB _⟩

theorem boxPast {W w1 : World} {B : Nat} {A : Array Value} (hb : Below W.heap.size W w1) (hlt : B < W.heap.size) (q : ∀ i, W.cell? ⟨B, i, none⟩ = A[i]?) (f : ∀ i, W.frozen? ⟨B, i, none⟩ = false) :
    (∀ i, w1.cell? ⟨B, i, none⟩ = A[i]?) ∧ (∀ i, w1.frozen? ⟨B, i, none⟩ = false) :=
  ⟨fun i => (hb.cell (p := ⟨B, i, none⟩) hlt).trans (q i), fun i => (hb.frozen (p := ⟨B, i, none⟩) hlt).trans (f i)⟩
theorem cellsPast {W w1 : World} {B : Nat} {A : Array Value} (hb : Below W.heap.size W w1) (hlt : B < W.heap.size) (q : ∀ i, W.cell? ⟨B, i, none⟩ = A[i]?) : ∀ i, w1.cell? ⟨B, i, none⟩ = A[i]? :=
  fun i => (hb.cell (p := ⟨B, i, none⟩) hlt).trans (q i)
theorem retIntOf {w w' : World} {z : Int} {a : Option Addr} {n c v : Nat} (h : OwnAt w' w.heap.size a n c (digs v) ∧ Below w.heap.size w w') (e : v = z.natAbs) (e2 : Ending) (he : e2 = .returned (.agg #[.bool (neg z), .slice a n c])) : RetInt w z e2 w' :=
  ⟨a, n, c, he, e ▸ h.1, h.2⟩

/-- a box of k cells that may be written -/
structure Room (w : World) (R k : Nat) : Prop where
  c : ∀ i, i < k → ∃ v, w.cell? ⟨R, i, none⟩ = some v
  f : ∀ i, i < k → w.frozen? ⟨R, i, none⟩ = false
theorem Room.of {w : World} {R : Nat} {A : Array Value} (q : ∀ i, w.cell? ⟨R, i, none⟩ = A[i]?) (f : ∀ i, w.frozen? ⟨R, i, none⟩ = false) : Room w R A.size :=
  ⟨fun i hi => ⟨A[i], by rw [q, Array.getElem?_eq_getElem hi]⟩, fun i _ => f i⟩
theorem Room.past {w w' : World} {R k : Nat} (h : Room w R k) (hb : Below w.heap.size w w') (hR : R < w.heap.size) : Room w' R k :=
  ⟨fun i hi => by obtain ⟨v, hv⟩ := h.c i hi; exact ⟨v, (hb.cell (p := ⟨R, i, none⟩) hR).trans hv⟩, fun i hi => (hb.frozen (p := ⟨R, i, none⟩) hR).trans (h.f i hi)⟩
theorem Room.drew {w : World} {R k : Nat} (h : Room w R k) : Room w.drew R k := ⟨h.c, h.f⟩
theorem Room.set {w : World} {R k : Nat} (h : Room w R k) (p : Addr) (v : Value) : Room (w.setCell p v) R k :=
  ⟨fun i hi => by
    obtain ⟨u, hu⟩ := h.c i hi
    by_cases e : p = ⟨R, i, none⟩
    · subst e; exact ⟨v, World.cell?_setCell_same _ _ _ hu⟩
    · exact ⟨u, by rw [World.cell?_setCell_other _ _ _ _ e]; exact hu⟩, fun i hi => by rw [World.frozen?_setCell]; exact h.f i hi⟩
theorem Room.two {w : World} {R : Nat} (h : Room w R 2) : ∃ v0 v1, w.cell? ⟨R, 0, none⟩ = some v0 ∧ w.cell? ⟨R, 1, none⟩ = some v1 ∧ w.frozen? ⟨R, 0, none⟩ = false ∧ w.frozen? ⟨R, 1, none⟩ = false := by
  obtain ⟨v0, h0⟩ := h.c 0 (by decide)
  obtain ⟨v1, h1⟩ := h.c 1 (by decide)
  exact ⟨v0, v1, h0, h1, h.f 0 (by decide), h.f 1 (by decide)⟩
theorem Room.three {w : World} {R : Nat} (h : Room w R 3) : ∃ v0 v1 v2, w.cell? ⟨R, 0, none⟩ = some v0 ∧ w.cell? ⟨R, 1, none⟩ = some v1 ∧ w.cell? ⟨R, 2, none⟩ = some v2 ∧ w.frozen? ⟨R, 0, none⟩ = false ∧ w.frozen? ⟨R, 1, none⟩ = false ∧ w.frozen? ⟨R, 2, none⟩ = false := by
  obtain ⟨v0, h0⟩ := h.c 0 (by decide)
  obtain ⟨v1, h1⟩ := h.c 1 (by decide)
  obtain ⟨v2, h2⟩ := h.c 2 (by decide)
  exact ⟨v0, v1, v2, h0, h1, h2, h.f 0 (by decide), h.f 1 (by decide), h.f 2 (by decide)⟩

set_option maxRecDepth 100000 in
theorem make_any (b : Bool) (a : Option Addr) (n c : Nat) (l : List Nat) (w : World) (h : NatAt w a n c l) (hs : n ≤ 1099511627776) :
    Calls Try.prog 64 #[.bool b, .slice a n c] w (RetInt w (sg b (val l))) := by
  cases b
  all_goals
    go_enter Try.func64, Try.ntmps64
    go_wp2_with fail
    with_reducible refine (trim_any _ _ _ l _ (h.alloc _) hs).mono ?_
    rintro e w1 ⟨a1, n1, c1, rfl, h1, hb⟩
    obtain ⟨hc, hf⟩ := bcell hb
    have hz : w.heap.size < w1.heap.size := by have := hb.size; simp at this; omega
    go_wp2
    refine bodyPost_ret (v := .agg #[.bool (neg (sg _ (val l))), .slice a1 n1 c1]) ?_ rfl ⟨_, _, _, rfl, ?_, ?_⟩
    · simp [results, Try.f64, go_sem, hc, hz]
      have hl := h1.len
      have h0 := digs_len0 (n := val l)
      rw [neg_sg]
      first
        | rfl
        | (simp only [Bool.true_and, decide_eq_decide]; omega)
    · rw [natAbs_sg]
      exact (((h1.setOff (by simp) _).setOff (by simp) _).alloc _).mono (by simp)
    · have hB := below_later ((Below.refl w.heap.size w).alloc (Nat.le_refl _) _) hb
      exact (((hB.setCell (p := ⟨w.heap.size, 0, none⟩) (Nat.le_refl _) _).setCell (p := ⟨w.heap.size, 1, none⟩) (Nat.le_refl _) _).alloc (by simp; omega) _)


set_option maxRecDepth 100000 in
theorem sneg_any (b : Bool) (a : Option Addr) (n c : Nat) (l : List Nat) (w : World) (h : NatAt w a n c l) (hs : n ≤ 1099511627776) :
    Calls Try.prog 86 #[.agg #[.bool b, .slice a n c]] w (RetInt w (-sg b (val l))) := by
  have e : -sg b (val l) = sg (!b) (val l) := by cases b <;> simp [sg]
  rw [e]
  go_enter Try.func86, Try.ntmps86
  go_wp2_with fail
  obtain ⟨W, hW, hz, hBW, q1, q2, q3⟩ := boxes2 w #[.bool b, .slice a n c] #[.bool false, .slice none 0 0] 34 34
  rw [hW]
  have hlt : w.heap.size + 1 < W.heap.size := by omega
  with_reducible refine (make_any _ _ _ _ l _ (h.past hBW) hs).mono ?_
  rintro e w1 ⟨a1, n1, c1, rfl, h1, hb⟩
  obtain ⟨q2, q3⟩ := boxPast hb hlt q2 q3
  have hs := RetInt.stored (x := .bool (neg (sg (!b) (val l)))) hBW hb h1 (Nat.le_succ _) hlt
  clear hW hz hBW q1 hlt h hb h1 e
  go_wp2
  refine bodyPost_ret (v := .agg #[.bool (neg (sg (!b) (val l))), .slice a1 n1 c1]) ?_ rfl (retIntOf hs rfl _ rfl)
  simp [results, Try.f86, go_sem, q2]

set_option maxRecDepth 100000 in
theorem held_any (b : Bool) (a : Option Addr) (n c : Nat) (l : List Nat) (w : World) (h : NatAt w a n c l) (hs : n ≤ 1099511627776) :
    Calls Try.prog 75 #[.agg #[.bool b, .slice a n c]] w (RetInt w (sg b (val l))) := by
  go_enter Try.func75, Try.ntmps75
  go_wp2_with fail
  obtain ⟨W, hW, hz, hBW, q1, q2, q3⟩ := boxes2 w #[.bool b, .slice a n c] #[.bool false, .slice none 0 0] 34 34
  rw [hW]
  have hlt : w.heap.size + 1 < W.heap.size := by omega
  with_reducible refine (make_any _ _ _ _ l _ (h.past hBW) hs).mono ?_
  rintro e w1 ⟨a1, n1, c1, rfl, h1, hb⟩
  obtain ⟨q2, q3⟩ := boxPast hb hlt q2 q3
  have hs := RetInt.stored (x := .bool (neg (sg b (val l)))) hBW hb h1 (Nat.le_succ _) hlt
  clear hW hz hBW q1 hlt h hb h1
  go_wp2
  refine bodyPost_ret (v := .agg #[.bool (neg (sg b (val l))), .slice a1 n1 c1]) ?_ rfl (retIntOf hs rfl _ rfl)
  simp [results, Try.f75, go_sem, q2]

def chkZ (b : Bool) (l : List Nat) : Int := if b = true ∧ l = [] then 6 else chk l
set_option maxRecDepth 100000 in
theorem scheck_any (b : Bool) (a : Option Addr) (n c : Nat) (l : List Nat) (w : World) (h : NatAt w a n c l) :
    Calls Try.prog 71 #[.agg #[.bool b, .slice a n c]] w (RetVal w (.int .i64 (chkZ b l))) := by
  have hlen := h.len
  by_cases h0 : b = true ∧ n = 0
  · obtain ⟨rfl, rfl⟩ := h0
    have hl : l = [] := List.eq_nil_of_length_eq_zero hlen
    subst hl
    go_enter Try.func71, Try.ntmps71
    go_wp2_with fail
    go_ret
    exact ⟨rfl, (Below.refl _ _).alloc (Nat.le_refl _) _⟩
  · have hk : chkZ b l = chk l := by
      unfold chkZ; rw [if_neg]; rintro ⟨rfl, rfl⟩; exact h0 ⟨rfl, hlen.symm⟩
    rw [hk]
    clear hk hlen
    cases b
    · clear h0
      go_enter Try.func71, Try.ntmps71
      go_wp2_with fail
      with_reducible refine (check_any _ _ _ l _ (h.alloc _)).mono ?_
      rintro e w' ⟨rfl, rfl⟩
      go_wp2
      go_ret
      exact ⟨rfl, (Below.refl _ _).alloc (Nat.le_refl _) _⟩
    · have hn : ¬ n = 0 := fun e => h0 ⟨rfl, e⟩
      clear h0
      go_enter Try.func71, Try.ntmps71
      go_wp2_with fail
      with_reducible refine (check_any _ _ _ l _ (h.alloc _)).mono ?_
      rintro e w' ⟨rfl, rfl⟩
      go_wp2
      go_ret
      exact ⟨rfl, (Below.refl _ _).alloc (Nat.le_refl _) _⟩

theorem neg_digs0 {z : Int} {n : Nat} (h : (digs z.natAbs).length = n) : (z = 0 ↔ n = 0) := by
  rw [← h, digs_len0]; omega
set_option maxRecDepth 100000 in
theorem sign_any (b : Bool) (a : Option Addr) (n c : Nat) (l : List Nat) (w : World) (h : NatAt w a n c l) (hs : n ≤ 1099511627776) :
    Calls Try.prog 43 #[.agg #[.bool b, .slice a n c]] w (RetVal w (.int .i64 (sg b (val l)).sign)) := by
  have hcall := held_any b a n c l (w.alloc (.cells #[.bool b, .slice a n c] 34)) (h.alloc _) hs
  generalize sg b (val l) = z at *
  have HC := Lib.hid hcall
  clear hcall
  rcases Int.lt_trichotomy z 0 with h0 | h0 | h0
  · have hn : neg z = true := decide_eq_true h0
    have hr : z.sign = -1 := Int.sign_eq_neg_one_of_neg h0
    have HN := Lib.hid hn
    rw [hr]
    clear h0 hr hn
    go_enter Try.func43, Try.ntmps43
    go_wp2_with fail
    refine HC.out.mono ?_
    rintro e w1 ⟨a1, n1, c1, rfl, h1, hb⟩
    rw [HN.out]
    obtain ⟨hc, hf⟩ := bcell hb
    go_wp2
    go_ret
    exact ⟨rfl, (((below_later ((Below.refl _ _).alloc (Nat.le_refl _) _) hb).setCell (p := ⟨w.heap.size, 0, none⟩) (Nat.le_refl _) _).setCell (p := ⟨w.heap.size, 1, none⟩) (Nat.le_refl _) _)⟩
  · have hn : neg z = false := decide_eq_false (by omega)
    have hr : z.sign = 0 := by rw [h0]; rfl
    have HN := Lib.hid hn
    have H0 := Lib.hid h0
    rw [hr]
    clear h0 hr hn
    go_enter Try.func43, Try.ntmps43
    go_wp2_with fail
    refine HC.out.mono ?_
    rintro e w1 ⟨a1, n1, c1, rfl, h1, hb⟩
    rw [HN.out]
    obtain rfl : n1 = 0 := (neg_digs0 h1.len).1 H0.out
    obtain ⟨hc, hf⟩ := bcell hb
    go_wp2
    go_ret
    exact ⟨rfl, (((below_later ((Below.refl _ _).alloc (Nat.le_refl _) _) hb).setCell (p := ⟨w.heap.size, 0, none⟩) (Nat.le_refl _) _).setCell (p := ⟨w.heap.size, 1, none⟩) (Nat.le_refl _) _)⟩
  · have hn : neg z = false := decide_eq_false (by omega)
    have hr : z.sign = 1 := Int.sign_eq_one_of_pos h0
    have HN := Lib.hid hn
    have h3 : z ≠ 0 := by omega
    have H0 := Lib.hid h3
    rw [hr]
    clear h0 hr hn h3
    go_enter Try.func43, Try.ntmps43
    go_wp2_with fail
    refine HC.out.mono ?_
    rintro e w1 ⟨a1, n1, c1, rfl, h1, hb⟩
    rw [HN.out]
    have hn1 : 0 < n1 := by
      rcases Nat.eq_zero_or_pos n1 with h | h
      · exact absurd ((neg_digs0 h1.len).2 h) H0.out
      · exact h
    obtain ⟨hc, hf⟩ := bcell hb
    go_wp2
    go_ret
    exact ⟨rfl, (((below_later ((Below.refl _ _).alloc (Nat.le_refl _) _) hb).setCell (p := ⟨w.heap.size, 0, none⟩) (Nat.le_refl _) _).setCell (p := ⟨w.heap.size, 1, none⟩) (Nat.le_refl _) _)⟩

theorem u64_neg {x : Int} (h0 : -9223372036854775808 ≤ x) (hx : x < 0) : IntKind.u64.wrap (-IntKind.u64.wrap x) = ((x.natAbs : Nat) : Int) ∧ x.natAbs < 18446744073709551616 := by
  rw [IntKind.wrap_u64, IntKind.wrap_u64]; omega
theorem u64_pos {x : Int} (h1 : x ≤ 9223372036854775807) (hx : ¬ x < 0) : IntKind.u64.wrap x = ((x.natAbs : Nat) : Int) ∧ x.natAbs < 18446744073709551616 := by
  rw [IntKind.wrap_u64]; omega
theorem sg_abs {x : Int} : sg (neg x) x.natAbs = x := by unfold sg neg; split <;> simp_all <;> omega

set_option maxRecDepth 100000 in
theorem sof_any (x : Int) (w : World) (h0 : -9223372036854775808 ≤ x) (h1 : x ≤ 9223372036854775807) :
    Calls Try.prog 45 #[.int .i64 x] w (RetInt w x) := by
  by_cases hx : x < 0
  · obtain ⟨v1, v2⟩ := u64_neg h0 hx
    have v3 : sg true x.natAbs = x := by rw [sg_true]; omega
    have V1 := Lib.hid v1
    have V3 := Lib.hid v3
    clear v1 v3
    go_enter Try.func45, Try.ntmps45
    go_wp2_with fail
    rw [V1.out]
    have q2 : ∀ i, (w.alloc (.cells #[.bool false, .slice none 0 0] 34)).cell? ⟨w.heap.size, i, none⟩ = #[.bool false, .slice none 0 0][i]? := fun i => World.cell?_alloc_at _ _ _ _ rfl
    have q3 : ∀ i, (w.alloc (.cells #[.bool false, .slice none 0 0] 34)).frozen? ⟨w.heap.size, i, none⟩ = false := fun i => World.frozen?_alloc_at _ _ _ _ rfl
    have hBW : Below w.heap.size w (w.alloc (.cells #[.bool false, .slice none 0 0] 34)) := (Below.refl _ _).alloc (Nat.le_refl _) _
    have hz : (w.alloc (.cells #[.bool false, .slice none 0 0] 34)).heap.size = w.heap.size + 1 := by simp
    generalize w.alloc (.cells #[.bool false, .slice none 0 0] 34) = W at *
    with_reducible refine (of_any _ _ v2).mono ?_
    rintro e w1 ⟨a1, n1, c1, rfl, h2, hb⟩
    have hlt : w.heap.size < W.heap.size := by omega
    have hlt2 : w.heap.size < w1.heap.size := by have := hb.size; omega
    obtain ⟨q2, q3⟩ := boxPast hb hlt q2 q3
    have hb2 := below_later hBW hb
    have hn1 : n1 ≤ 1099511627776 := by
      have h3 := h2.len
      have h4 := digs_length_le (n := x.natAbs) (k := 1)
      rw [Nat.pow_one] at h4
      have := h4.2 v2
      omega
    clear hBW hz hlt
    go_wp2_with fail
    with_reducible refine (make_any _ _ _ _ _ _ h2.toNatAt hn1).mono ?_
    rintro e w2 ⟨a2, n2, c2, rfl, h3, hb3⟩
    rw [val_digs] at h3 ⊢
    rw [V3.out] at h3 ⊢
    obtain ⟨q2, q3⟩ := boxPast hb3 hlt2 q2 q3
    have hs := RetInt.stored (x := .bool (neg x)) hb2 hb3 h3 (Nat.le_refl _) hlt2
    clear hb2 hb3 hb hn1 h2 h3 hlt2
    go_wp2
    refine bodyPost_ret (v := .agg #[.bool (neg x), .slice a2 n2 c2]) ?_ rfl (retIntOf hs rfl _ rfl)
    simp [results, Try.f45, go_sem, q2]
  · obtain ⟨y, rfl⟩ := Int.eq_ofNat_of_zero_le (show 0 ≤ x by omega)
    have v2 : y < 18446744073709551616 := by omega
    have e1 : (y : Int).natAbs = y := Int.natAbs_natCast y
    have E1 := Lib.hid e1
    clear e1
    go_enter Try.func45, Try.ntmps45
    go_wp2_with fail
    have q2 : ∀ i, (w.alloc (.cells #[.bool false, .slice none 0 0] 34)).cell? ⟨w.heap.size, i, none⟩ = #[.bool false, .slice none 0 0][i]? := fun i => World.cell?_alloc_at _ _ _ _ rfl
    have q3 : ∀ i, (w.alloc (.cells #[.bool false, .slice none 0 0] 34)).frozen? ⟨w.heap.size, i, none⟩ = false := fun i => World.frozen?_alloc_at _ _ _ _ rfl
    have hBW : Below w.heap.size w (w.alloc (.cells #[.bool false, .slice none 0 0] 34)) := (Below.refl _ _).alloc (Nat.le_refl _) _
    have hz : (w.alloc (.cells #[.bool false, .slice none 0 0] 34)).heap.size = w.heap.size + 1 := by simp
    generalize w.alloc (.cells #[.bool false, .slice none 0 0] 34) = W at *
    with_reducible refine (of_any _ _ v2).mono ?_
    rintro e w1 ⟨a1, n1, c1, rfl, h2, hb⟩
    have hlt : w.heap.size < W.heap.size := by omega
    have hlt2 : w.heap.size < w1.heap.size := by have := hb.size; omega
    obtain ⟨q2, q3⟩ := boxPast hb hlt q2 q3
    have hb2 := below_later hBW hb
    have hn1 : n1 ≤ 1099511627776 := by
      have h3 := h2.len
      have h4 := digs_length_le (n := y) (k := 1)
      rw [Nat.pow_one] at h4
      have := h4.2 v2
      omega
    clear hBW hz hlt
    go_wp2_with fail
    with_reducible refine (make_any _ _ _ _ _ _ h2.toNatAt hn1).mono ?_
    rintro e w2 ⟨a2, n2, c2, rfl, h3, hb3⟩
    rw [val_digs] at h3 ⊢
    rw [sg_false] at h3 ⊢
    obtain ⟨q2, q3⟩ := boxPast hb3 hlt2 q2 q3
    have hs := RetInt.stored (x := .bool (neg (y : Int))) hb2 hb3 h3 (Nat.le_refl _) hlt2
    clear hb2 hb3 hb hn1 h2 h3 hlt2
    go_wp2
    refine bodyPost_ret (v := .agg #[.bool (neg (y : Int)), .slice a2 n2 c2]) ?_ rfl (retIntOf hs rfl _ rfl)
    simp [results, Try.f45, go_sem, q2]

end Go.Proofs.Ytlkoenpdmlbhlaa

/- signed, second part: along, against, Add, Sub, Mul, Cmp. -/
set_option linter.unusedVariables false
set_option linter.unusedSimpArgs false
namespace Go.Proofs.Ytlkoenpdmlbhlaa
open Go.RowKit

theorem OwnAt.ret2 {w w1 w3 : World} {R : Nat} {a : Option Addr} {n c : Nat} {l : List Nat} (h : OwnAt w3 w1.heap.size a n c l) (hR : R < w1.heap.size) (hw : w.heap.size ≤ w1.heap.size) (x y : Value) :
    OwnAt ((w3.setCell ⟨R, 0, none⟩ x).setCell ⟨R, 1, none⟩ y) w.heap.size a n c l := ((h.setOff hR _).setOff hR _).mono hw

set_option maxRecDepth 100000 in
theorem along_any (b : Bool) (a : Option Addr) (n c : Nat) (l : List Nat) (b2 : Bool) (a2 : Option Addr) (n2 c2 : Nat) (l2 : List Nat) (w : World) (h : NatAt w a n c l) (h2 : NatAt w a2 n2 c2 l2) (hs : n ≤ 274877906944) (hs2 : n2 ≤ 274877906944) :
    Calls Try.prog 77 #[.agg #[.bool b, .slice a n c], .agg #[.bool b2, .slice a2 n2 c2]] w (RetInt w (sg b (val l + val l2))) := by
  have hlen : (digs (val l + val l2)).length ≤ 1099511627776 := by have := h.short; have := h2.short; have := digs_len_add (val l) (val l2); omega
  have HL := Lib.hid hlen
  clear hlen
  go_enter Try.func77, Try.ntmps77
  go_wp2_with fail
  obtain ⟨W, hW, hz, hBW, q0, q1, q2, q3⟩ := boxes3 w #[.bool b, .slice a n c] #[.bool b2, .slice a2 n2 c2] #[.bool false, .slice none 0 0] 34 34 34
  rw [hW]
  have HLT : Hid (w.heap.size + 1 + 1 < W.heap.size) := Lib.hid (by omega)
  have Q0 := Lib.hid q0
  have L0 : Hid (w.heap.size < w.heap.size + 1 + 1) := Lib.hid (by omega)
  have Q1 := Lib.hid q1
  have L1 : Hid (w.heap.size + 1 < w.heap.size + 1 + 1) := Lib.hid (by omega)
  have LR : Hid (w.heap.size ≤ w.heap.size + 1 + 1) := Lib.hid (by omega)
  have RM := Lib.hid (Room.of q2 q3)
  have HB := Lib.hid hBW
  clear hW hz hBW q0 q1 q2 q3
  go_region_held3 (fun w' => (w'.cell? ⟨w.heap.size, 0, none⟩ = some (.bool b) ∧ w'.cell? ⟨w.heap.size, 1, none⟩ = some (.slice a n c) ∧ w'.cell? ⟨w.heap.size + 1, 0, none⟩ = some (.bool b2) ∧ w'.cell? ⟨w.heap.size + 1, 1, none⟩ = some (.slice a2 n2 c2)) ∧ (Room w' (w.heap.size + 1 + 1) 2 ∧ Below w.heap.size w w' ∧ Below (w.heap.size + 1 + 1) W w'))
    (first
      | exact ⟨⟨((Below.refl (w.heap.size + 1 + 1) W).drew.cell (p := ⟨w.heap.size, 0, none⟩) L0.out).trans (Q0.out 0), ((Below.refl (w.heap.size + 1 + 1) W).drew.cell (p := ⟨w.heap.size, 1, none⟩) L0.out).trans (Q0.out 1), ((Below.refl (w.heap.size + 1 + 1) W).drew.cell (p := ⟨w.heap.size + 1, 0, none⟩) L1.out).trans (Q1.out 0), ((Below.refl (w.heap.size + 1 + 1) W).drew.cell (p := ⟨w.heap.size + 1, 1, none⟩) L1.out).trans (Q1.out 1)⟩, RM.out.drew, HB.out.drew, (Below.refl _ _).drew⟩
      | (rename _ ∧ (Room _ _ _ ∧ Below w.heap.size w _ ∧ Below _ W _) => hS
         first
           | exact ⟨⟨((hS.2.2.2.trans (hb2.mono (Nat.le_of_lt (Nat.lt_of_lt_of_le HLT.out hS.2.2.2.size)))).cell (p := ⟨w.heap.size, 0, none⟩) L0.out).trans (Q0.out 0), ((hS.2.2.2.trans (hb2.mono (Nat.le_of_lt (Nat.lt_of_lt_of_le HLT.out hS.2.2.2.size)))).cell (p := ⟨w.heap.size, 1, none⟩) L0.out).trans (Q0.out 1), ((hS.2.2.2.trans (hb2.mono (Nat.le_of_lt (Nat.lt_of_lt_of_le HLT.out hS.2.2.2.size)))).cell (p := ⟨w.heap.size + 1, 0, none⟩) L1.out).trans (Q1.out 0), ((hS.2.2.2.trans (hb2.mono (Nat.le_of_lt (Nat.lt_of_lt_of_le HLT.out hS.2.2.2.size)))).cell (p := ⟨w.heap.size + 1, 1, none⟩) L1.out).trans (Q1.out 1)⟩, hS.2.1.past hb2 (Nat.lt_of_lt_of_le HLT.out hS.2.2.2.size), below_later hS.2.2.1 hb2, (hS.2.2.2.trans (hb2.mono (Nat.le_of_lt (Nat.lt_of_lt_of_le HLT.out hS.2.2.2.size))))⟩
           | exact ⟨⟨((hS.2.2.2.trans (hb1.mono (Nat.le_of_lt (Nat.lt_of_lt_of_le HLT.out hS.2.2.2.size)))).cell (p := ⟨w.heap.size, 0, none⟩) L0.out).trans (Q0.out 0), ((hS.2.2.2.trans (hb1.mono (Nat.le_of_lt (Nat.lt_of_lt_of_le HLT.out hS.2.2.2.size)))).cell (p := ⟨w.heap.size, 1, none⟩) L0.out).trans (Q0.out 1), ((hS.2.2.2.trans (hb1.mono (Nat.le_of_lt (Nat.lt_of_lt_of_le HLT.out hS.2.2.2.size)))).cell (p := ⟨w.heap.size + 1, 0, none⟩) L1.out).trans (Q1.out 0), ((hS.2.2.2.trans (hb1.mono (Nat.le_of_lt (Nat.lt_of_lt_of_le HLT.out hS.2.2.2.size)))).cell (p := ⟨w.heap.size + 1, 1, none⟩) L1.out).trans (Q1.out 1)⟩, hS.2.1.past hb1 (Nat.lt_of_lt_of_le HLT.out hS.2.2.2.size), below_later hS.2.2.1 hb1, (hS.2.2.2.trans (hb1.mono (Nat.le_of_lt (Nat.lt_of_lt_of_le HLT.out hS.2.2.2.size))))⟩
           | exact ⟨⟨((hS.2.2.2.alloc (Nat.le_of_lt (Nat.lt_of_lt_of_le HLT.out hS.2.2.2.size)) _).cell (p := ⟨w.heap.size, 0, none⟩) L0.out).trans (Q0.out 0), ((hS.2.2.2.alloc (Nat.le_of_lt (Nat.lt_of_lt_of_le HLT.out hS.2.2.2.size)) _).cell (p := ⟨w.heap.size, 1, none⟩) L0.out).trans (Q0.out 1), ((hS.2.2.2.alloc (Nat.le_of_lt (Nat.lt_of_lt_of_le HLT.out hS.2.2.2.size)) _).cell (p := ⟨w.heap.size + 1, 0, none⟩) L1.out).trans (Q1.out 0), ((hS.2.2.2.alloc (Nat.le_of_lt (Nat.lt_of_lt_of_le HLT.out hS.2.2.2.size)) _).cell (p := ⟨w.heap.size + 1, 1, none⟩) L1.out).trans (Q1.out 1)⟩, hS.2.1.past ((Below.refl _ _).alloc (Nat.le_refl _) _) (Nat.lt_of_lt_of_le HLT.out hS.2.2.2.size), below_alloc hS.2.2.1 _, (hS.2.2.2.alloc (Nat.le_of_lt (Nat.lt_of_lt_of_le HLT.out hS.2.2.2.size)) _)⟩
           | exact ⟨⟨(((hS.2.2.2.setCell (p := ⟨w.heap.size + 1 + 1, 0, none⟩) (Nat.le_refl _) _).setCell (p := ⟨w.heap.size + 1 + 1, 1, none⟩) (Nat.le_refl _) _).cell (p := ⟨w.heap.size, 0, none⟩) L0.out).trans (Q0.out 0), (((hS.2.2.2.setCell (p := ⟨w.heap.size + 1 + 1, 0, none⟩) (Nat.le_refl _) _).setCell (p := ⟨w.heap.size + 1 + 1, 1, none⟩) (Nat.le_refl _) _).cell (p := ⟨w.heap.size, 1, none⟩) L0.out).trans (Q0.out 1), (((hS.2.2.2.setCell (p := ⟨w.heap.size + 1 + 1, 0, none⟩) (Nat.le_refl _) _).setCell (p := ⟨w.heap.size + 1 + 1, 1, none⟩) (Nat.le_refl _) _).cell (p := ⟨w.heap.size + 1, 0, none⟩) L1.out).trans (Q1.out 0), (((hS.2.2.2.setCell (p := ⟨w.heap.size + 1 + 1, 0, none⟩) (Nat.le_refl _) _).setCell (p := ⟨w.heap.size + 1 + 1, 1, none⟩) (Nat.le_refl _) _).cell (p := ⟨w.heap.size + 1, 1, none⟩) L1.out).trans (Q1.out 1)⟩, ((hS.2.1.set _ _).set _ _), ((hS.2.2.1.setCell (p := ⟨w.heap.size + 1 + 1, 0, none⟩) LR.out _).setCell (p := ⟨w.heap.size + 1 + 1, 1, none⟩) LR.out _), ((hS.2.2.2.setCell (p := ⟨w.heap.size + 1 + 1, 0, none⟩) (Nat.le_refl _) _).setCell (p := ⟨w.heap.size + 1 + 1, 1, none⟩) (Nat.le_refl _) _)⟩)
      | assumption)
    (first
      | (go_at_call 96; rename _ ∧ (Room _ _ _ ∧ Below w.heap.size w _ ∧ Below _ W _) => hS
         go_fit (add_any _ _ _ l _ _ _ l2 _ (h.past hS.2.2.1) (h2.past hS.2.2.1) (by omega) (by omega))
         rintro e w1 ⟨a1, n1, c1, rfl, h1, hb1⟩)
      | (go_at_call 64; rename _ ∧ (Room _ _ _ ∧ Below w.heap.size w _ ∧ Below _ W _) => hS
         go_fit (make_any _ _ _ _ (digs (val l + val l2)) _ h1.toNatAt (h1.len ▸ HL.out))
         rintro e w3 ⟨a3, n3, c3, rfl, h3, hb2⟩
         rw [val_digs] at h3 ⊢
         have lt3 := Nat.lt_of_lt_of_le HLT.out hS.2.2.2.size
         have le3 := hS.2.2.1.size
         have rm3 := hS.2.1.past hb2 lt3
         obtain ⟨v0, v1, m0, m1, m2, m3⟩ := rm3.two
         have own3 := h3.ret2 lt3 le3 (.bool (neg (sg b (val l + val l2)))) (.slice a3 n3 c3)))
  all_goals
    rename _ ∧ (Room _ _ _ ∧ Below w.heap.size w _ ∧ Below _ W _) => hH
    have hs := retIntOf (z := sg b (val l + val l2)) ⟨own3, hH.2.2.1⟩ rfl _ rfl
    clear hH
    go_wp2
    refine bodyPost_ret (v := .agg #[.bool (neg (sg b (val l + val l2))), .slice a3 n3 c3]) ?_ rfl hs
    simp [results, Try.f77, go_sem, m0, m1]
set_option maxRecDepth 100000 in
theorem smul_any (b : Bool) (a : Option Addr) (n c : Nat) (l : List Nat) (b2 : Bool) (a2 : Option Addr) (n2 c2 : Nat) (l2 : List Nat) (w : World) (h : NatAt w a n c l) (h2 : NatAt w a2 n2 c2 l2) (hs : n ≤ 68719476736) (hs2 : n2 ≤ 68719476736) :
    Calls Try.prog 84 #[.agg #[.bool b, .slice a n c], .agg #[.bool b2, .slice a2 n2 c2]] w (RetInt w (sg b (val l) * sg b2 (val l2))) := by
  have hlen : (digs (val l * val l2)).length ≤ 1099511627776 := by have := h.short; have := h2.short; have := digs_len_prod (val l) (val l2); omega
  have HL := Lib.hid hlen
  clear hlen
  have he : sg b (val l) * sg b2 (val l2) = sg (!(b == b2)) (val l * val l2) := by cases b <;> cases b2 <;> simp [sg, Int.neg_mul, Int.mul_neg, Int.neg_neg, Int.natCast_mul]
  rw [he]
  clear he
  go_enter Try.func84, Try.ntmps84
  go_wp2_with fail
  obtain ⟨W, hW, hz, hBW, q0, q1, q2, q3⟩ := boxes3 w #[.bool b, .slice a n c] #[.bool b2, .slice a2 n2 c2] #[.bool false, .slice none 0 0] 34 34 34
  rw [hW]
  have HLT : Hid (w.heap.size + 1 + 1 < W.heap.size) := Lib.hid (by omega)
  have Q0 := Lib.hid q0
  have L0 : Hid (w.heap.size < w.heap.size + 1 + 1) := Lib.hid (by omega)
  have Q1 := Lib.hid q1
  have L1 : Hid (w.heap.size + 1 < w.heap.size + 1 + 1) := Lib.hid (by omega)
  have LR : Hid (w.heap.size ≤ w.heap.size + 1 + 1) := Lib.hid (by omega)
  have RM := Lib.hid (Room.of q2 q3)
  have HB := Lib.hid hBW
  clear hW hz hBW q0 q1 q2 q3
  go_region_held3 (fun w' => (w'.cell? ⟨w.heap.size, 0, none⟩ = some (.bool b) ∧ w'.cell? ⟨w.heap.size, 1, none⟩ = some (.slice a n c) ∧ w'.cell? ⟨w.heap.size + 1, 0, none⟩ = some (.bool b2) ∧ w'.cell? ⟨w.heap.size + 1, 1, none⟩ = some (.slice a2 n2 c2)) ∧ (Room w' (w.heap.size + 1 + 1) 2 ∧ Below w.heap.size w w' ∧ Below (w.heap.size + 1 + 1) W w'))
    (first
      | exact ⟨⟨((Below.refl (w.heap.size + 1 + 1) W).drew.cell (p := ⟨w.heap.size, 0, none⟩) L0.out).trans (Q0.out 0), ((Below.refl (w.heap.size + 1 + 1) W).drew.cell (p := ⟨w.heap.size, 1, none⟩) L0.out).trans (Q0.out 1), ((Below.refl (w.heap.size + 1 + 1) W).drew.cell (p := ⟨w.heap.size + 1, 0, none⟩) L1.out).trans (Q1.out 0), ((Below.refl (w.heap.size + 1 + 1) W).drew.cell (p := ⟨w.heap.size + 1, 1, none⟩) L1.out).trans (Q1.out 1)⟩, RM.out.drew, HB.out.drew, (Below.refl _ _).drew⟩
      | (rename _ ∧ (Room _ _ _ ∧ Below w.heap.size w _ ∧ Below _ W _) => hS
         first
           | exact ⟨⟨((hS.2.2.2.trans (hb2.mono (Nat.le_of_lt (Nat.lt_of_lt_of_le HLT.out hS.2.2.2.size)))).cell (p := ⟨w.heap.size, 0, none⟩) L0.out).trans (Q0.out 0), ((hS.2.2.2.trans (hb2.mono (Nat.le_of_lt (Nat.lt_of_lt_of_le HLT.out hS.2.2.2.size)))).cell (p := ⟨w.heap.size, 1, none⟩) L0.out).trans (Q0.out 1), ((hS.2.2.2.trans (hb2.mono (Nat.le_of_lt (Nat.lt_of_lt_of_le HLT.out hS.2.2.2.size)))).cell (p := ⟨w.heap.size + 1, 0, none⟩) L1.out).trans (Q1.out 0), ((hS.2.2.2.trans (hb2.mono (Nat.le_of_lt (Nat.lt_of_lt_of_le HLT.out hS.2.2.2.size)))).cell (p := ⟨w.heap.size + 1, 1, none⟩) L1.out).trans (Q1.out 1)⟩, hS.2.1.past hb2 (Nat.lt_of_lt_of_le HLT.out hS.2.2.2.size), below_later hS.2.2.1 hb2, (hS.2.2.2.trans (hb2.mono (Nat.le_of_lt (Nat.lt_of_lt_of_le HLT.out hS.2.2.2.size))))⟩
           | exact ⟨⟨((hS.2.2.2.trans (hb1.mono (Nat.le_of_lt (Nat.lt_of_lt_of_le HLT.out hS.2.2.2.size)))).cell (p := ⟨w.heap.size, 0, none⟩) L0.out).trans (Q0.out 0), ((hS.2.2.2.trans (hb1.mono (Nat.le_of_lt (Nat.lt_of_lt_of_le HLT.out hS.2.2.2.size)))).cell (p := ⟨w.heap.size, 1, none⟩) L0.out).trans (Q0.out 1), ((hS.2.2.2.trans (hb1.mono (Nat.le_of_lt (Nat.lt_of_lt_of_le HLT.out hS.2.2.2.size)))).cell (p := ⟨w.heap.size + 1, 0, none⟩) L1.out).trans (Q1.out 0), ((hS.2.2.2.trans (hb1.mono (Nat.le_of_lt (Nat.lt_of_lt_of_le HLT.out hS.2.2.2.size)))).cell (p := ⟨w.heap.size + 1, 1, none⟩) L1.out).trans (Q1.out 1)⟩, hS.2.1.past hb1 (Nat.lt_of_lt_of_le HLT.out hS.2.2.2.size), below_later hS.2.2.1 hb1, (hS.2.2.2.trans (hb1.mono (Nat.le_of_lt (Nat.lt_of_lt_of_le HLT.out hS.2.2.2.size))))⟩
           | exact ⟨⟨((hS.2.2.2.alloc (Nat.le_of_lt (Nat.lt_of_lt_of_le HLT.out hS.2.2.2.size)) _).cell (p := ⟨w.heap.size, 0, none⟩) L0.out).trans (Q0.out 0), ((hS.2.2.2.alloc (Nat.le_of_lt (Nat.lt_of_lt_of_le HLT.out hS.2.2.2.size)) _).cell (p := ⟨w.heap.size, 1, none⟩) L0.out).trans (Q0.out 1), ((hS.2.2.2.alloc (Nat.le_of_lt (Nat.lt_of_lt_of_le HLT.out hS.2.2.2.size)) _).cell (p := ⟨w.heap.size + 1, 0, none⟩) L1.out).trans (Q1.out 0), ((hS.2.2.2.alloc (Nat.le_of_lt (Nat.lt_of_lt_of_le HLT.out hS.2.2.2.size)) _).cell (p := ⟨w.heap.size + 1, 1, none⟩) L1.out).trans (Q1.out 1)⟩, hS.2.1.past ((Below.refl _ _).alloc (Nat.le_refl _) _) (Nat.lt_of_lt_of_le HLT.out hS.2.2.2.size), below_alloc hS.2.2.1 _, (hS.2.2.2.alloc (Nat.le_of_lt (Nat.lt_of_lt_of_le HLT.out hS.2.2.2.size)) _)⟩
           | exact ⟨⟨(((hS.2.2.2.setCell (p := ⟨w.heap.size + 1 + 1, 0, none⟩) (Nat.le_refl _) _).setCell (p := ⟨w.heap.size + 1 + 1, 1, none⟩) (Nat.le_refl _) _).cell (p := ⟨w.heap.size, 0, none⟩) L0.out).trans (Q0.out 0), (((hS.2.2.2.setCell (p := ⟨w.heap.size + 1 + 1, 0, none⟩) (Nat.le_refl _) _).setCell (p := ⟨w.heap.size + 1 + 1, 1, none⟩) (Nat.le_refl _) _).cell (p := ⟨w.heap.size, 1, none⟩) L0.out).trans (Q0.out 1), (((hS.2.2.2.setCell (p := ⟨w.heap.size + 1 + 1, 0, none⟩) (Nat.le_refl _) _).setCell (p := ⟨w.heap.size + 1 + 1, 1, none⟩) (Nat.le_refl _) _).cell (p := ⟨w.heap.size + 1, 0, none⟩) L1.out).trans (Q1.out 0), (((hS.2.2.2.setCell (p := ⟨w.heap.size + 1 + 1, 0, none⟩) (Nat.le_refl _) _).setCell (p := ⟨w.heap.size + 1 + 1, 1, none⟩) (Nat.le_refl _) _).cell (p := ⟨w.heap.size + 1, 1, none⟩) L1.out).trans (Q1.out 1)⟩, ((hS.2.1.set _ _).set _ _), ((hS.2.2.1.setCell (p := ⟨w.heap.size + 1 + 1, 0, none⟩) LR.out _).setCell (p := ⟨w.heap.size + 1 + 1, 1, none⟩) LR.out _), ((hS.2.2.2.setCell (p := ⟨w.heap.size + 1 + 1, 0, none⟩) (Nat.le_refl _) _).setCell (p := ⟨w.heap.size + 1 + 1, 1, none⟩) (Nat.le_refl _) _)⟩)
      | assumption)
    (first
      | (go_at_call 85; rename _ ∧ (Room _ _ _ ∧ Below w.heap.size w _ ∧ Below _ W _) => hS
         go_fit (tmul_any _ _ _ l _ _ _ l2 _ (h.past hS.2.2.1) (h2.past hS.2.2.1) (by omega) (by omega))
         rintro e w1 ⟨a1, n1, c1, rfl, h1, hb1⟩)
      | (go_at_call 64; rename _ ∧ (Room _ _ _ ∧ Below w.heap.size w _ ∧ Below _ W _) => hS
         go_fit (make_any _ _ _ _ (digs (val l * val l2)) _ h1.toNatAt (h1.len ▸ HL.out))
         rintro e w3 ⟨a3, n3, c3, rfl, h3, hb2⟩
         rw [val_digs] at h3 ⊢
         have lt3 := Nat.lt_of_lt_of_le HLT.out hS.2.2.2.size
         have le3 := hS.2.2.1.size
         have rm3 := hS.2.1.past hb2 lt3
         obtain ⟨v0, v1, m0, m1, m2, m3⟩ := rm3.two
         have own3 := h3.ret2 lt3 le3 (.bool (neg (sg (!(b == b2)) (val l * val l2)))) (.slice a3 n3 c3)))
  all_goals
    rename _ ∧ (Room _ _ _ ∧ Below w.heap.size w _ ∧ Below _ W _) => hH
    have hs := retIntOf (z := sg (!(b == b2)) (val l * val l2)) ⟨own3, hH.2.2.1⟩ rfl _ rfl
    clear hH
    go_wp2
    refine bodyPost_ret (v := .agg #[.bool (neg (sg (!(b == b2)) (val l * val l2))), .slice a3 n3 c3]) ?_ rfl hs
    simp [results, Try.f84, go_sem, m0, m1]
set_option maxRecDepth 100000 in
theorem against_yes (b : Bool) (a : Option Addr) (n c : Nat) (l : List Nat) (b2 : Bool) (a2 : Option Addr) (n2 c2 : Nat) (l2 : List Nat) (w : World) (h : NatAt w a n c l) (h2 : NatAt w a2 n2 c2 l2) (hs : n ≤ 549755813888) (hs2 : n2 ≤ 549755813888) (hv : val l2 ≤ val l) :
    Calls Try.prog 78 #[.agg #[.bool b, .slice a n c], .agg #[.bool b2, .slice a2 n2 c2]] w (RetInt w (sg b (val l - val l2))) := by
  have hlen : (digs (val l - val l2)).length ≤ 1099511627776 := Nat.le_trans (digs_len_mono (Nat.sub_le _ _)) (by have := h.short; have := h2.short; omega)
  have HL := Lib.hid hlen
  clear hlen
  go_enter Try.func78, Try.ntmps78
  go_wp2_with fail
  obtain ⟨W, hW, hz, hBW, q0, q1, q2, q3⟩ := boxes3 w #[.bool b, .slice a n c] #[.bool b2, .slice a2 n2 c2] #[.bool false, .slice none 0 0] 34 34 34
  rw [hW]
  have HLT : Hid (w.heap.size + 1 + 1 < W.heap.size) := Lib.hid (by omega)
  have Q0 := Lib.hid q0
  have L0 : Hid (w.heap.size < w.heap.size + 1 + 1) := Lib.hid (by omega)
  have Q1 := Lib.hid q1
  have L1 : Hid (w.heap.size + 1 < w.heap.size + 1 + 1) := Lib.hid (by omega)
  have LR : Hid (w.heap.size ≤ w.heap.size + 1 + 1) := Lib.hid (by omega)
  have RM := Lib.hid (Room.of q2 q3)
  have HB := Lib.hid hBW
  clear hW hz hBW q0 q1 q2 q3
  have hlt := HLT.out
  have q0 := Q0.out
  have q1 := Q1.out
  have rm := RM.out
  have k := h.past HB.out
  have k2 := h2.past HB.out
  have hBW := HB.out
  with_reducible refine (sub_yes _ _ _ l _ _ _ l2 _ k k2 (by omega) hv).mono ?_
  rintro e w2 ⟨a1, n1, c1, rfl, h1, hb2⟩
  have q0 := cellsPast hb2 (Nat.lt_trans L0.out hlt) q0
  have q1 := cellsPast hb2 (Nat.lt_trans L1.out hlt) q1
  have rm := rm.past hb2 hlt
  have hlt := Nat.lt_of_lt_of_le hlt hb2.size
  have hBW := below_later hBW hb2
  clear hb2 k k2
  have HV := Lib.hid hv
  clear hv
  go_wp2_with fail
  with_reducible refine (make_any _ _ _ _ _ _ h1.toNatAt (h1.len ▸ HL.out)).mono ?_
  rintro e w3 ⟨a3, n3, c3, rfl, h3, hb3⟩
  rw [val_digs] at h3 ⊢
  have own3 := h3.ret2 hlt hBW.size (.bool (neg (sg b (val l - val l2)))) (.slice a3 n3 c3)
  have rm := rm.past hb3 hlt
  obtain ⟨v0, v1, m0, m1, m2, m3⟩ := rm.two
  have hB3 := below_later hBW hb3
  have hs := retIntOf (z := sg b (val l - val l2)) ⟨own3, (hB3.setCell (p := ⟨w.heap.size + 1 + 1, 0, none⟩) LR.out _).setCell (p := ⟨w.heap.size + 1 + 1, 1, none⟩) LR.out _⟩ rfl _ rfl
  clear own3 rm hB3 hb3 hBW hlt q0 q1 h1 h3
  go_wp2
  refine bodyPost_ret (v := .agg #[.bool (neg (sg b (val l - val l2))), .slice a3 n3 c3]) ?_ rfl hs
  simp [results, Try.f78, go_sem, m0, m1]
set_option maxRecDepth 100000 in
theorem against_no (b : Bool) (a : Option Addr) (n c : Nat) (l : List Nat) (b2 : Bool) (a2 : Option Addr) (n2 c2 : Nat) (l2 : List Nat) (w : World) (h : NatAt w a n c l) (h2 : NatAt w a2 n2 c2 l2) (hs : n ≤ 549755813888) (hs2 : n2 ≤ 549755813888) (hv : val l < val l2) :
    Calls Try.prog 78 #[.agg #[.bool b, .slice a n c], .agg #[.bool b2, .slice a2 n2 c2]] w (RetInt w (sg b2 (val l2 - val l))) := by
  have hlen : (digs (val l2 - val l)).length ≤ 1099511627776 := Nat.le_trans (digs_len_mono (Nat.sub_le _ _)) (by have := h.short; have := h2.short; omega)
  have HL := Lib.hid hlen
  clear hlen
  go_enter Try.func78, Try.ntmps78
  go_wp2_with fail
  obtain ⟨W, hW, hz, hBW, q0, q1, q2, q3⟩ := boxes3 w #[.bool b, .slice a n c] #[.bool b2, .slice a2 n2 c2] #[.bool false, .slice none 0 0] 34 34 34
  rw [hW]
  have HLT : Hid (w.heap.size + 1 + 1 < W.heap.size) := Lib.hid (by omega)
  have Q0 := Lib.hid q0
  have L0 : Hid (w.heap.size < w.heap.size + 1 + 1) := Lib.hid (by omega)
  have Q1 := Lib.hid q1
  have L1 : Hid (w.heap.size + 1 < w.heap.size + 1 + 1) := Lib.hid (by omega)
  have LR : Hid (w.heap.size ≤ w.heap.size + 1 + 1) := Lib.hid (by omega)
  have RM := Lib.hid (Room.of q2 q3)
  have HB := Lib.hid hBW
  clear hW hz hBW q0 q1 q2 q3
  have hlt := HLT.out
  have q0 := Q0.out
  have q1 := Q1.out
  have rm := RM.out
  have k := h.past HB.out
  have k2 := h2.past HB.out
  with_reducible refine (sub_no _ _ _ l _ _ _ l2 _ k k2 hv).mono ?_
  rintro e w1 ⟨rfl, hb1⟩
  have q0 := cellsPast hb1 (Nat.lt_trans L0.out hlt) q0
  have q1 := cellsPast hb1 (Nat.lt_trans L1.out hlt) q1
  have rm := rm.past hb1 hlt
  have hlt := Nat.lt_of_lt_of_le hlt hb1.size
  have k := k.past hb1
  have k2 := k2.past hb1
  have hBW := below_later HB.out hb1
  clear hb1
  go_wp2_with fail
  with_reducible refine (sub_yes _ _ _ l2 _ _ _ l _ k2 k (by omega) (Nat.le_of_lt hv)).mono ?_
  rintro e w2 ⟨a1, n1, c1, rfl, h1, hb2⟩
  have q0 := cellsPast hb2 (Nat.lt_trans L0.out hlt) q0
  have q1 := cellsPast hb2 (Nat.lt_trans L1.out hlt) q1
  have rm := rm.past hb2 hlt
  have hlt := Nat.lt_of_lt_of_le hlt hb2.size
  have hBW := below_later hBW hb2
  clear hb2 k k2
  have HV := Lib.hid hv
  clear hv
  go_wp2_with fail
  with_reducible refine (make_any _ _ _ _ _ _ h1.toNatAt (h1.len ▸ HL.out)).mono ?_
  rintro e w3 ⟨a3, n3, c3, rfl, h3, hb3⟩
  rw [val_digs] at h3 ⊢
  have own3 := h3.ret2 hlt hBW.size (.bool (neg (sg b2 (val l2 - val l)))) (.slice a3 n3 c3)
  have rm := rm.past hb3 hlt
  obtain ⟨v0, v1, m0, m1, m2, m3⟩ := rm.two
  have hB3 := below_later hBW hb3
  have hs := retIntOf (z := sg b2 (val l2 - val l)) ⟨own3, (hB3.setCell (p := ⟨w.heap.size + 1 + 1, 0, none⟩) LR.out _).setCell (p := ⟨w.heap.size + 1 + 1, 1, none⟩) LR.out _⟩ rfl _ rfl
  clear own3 rm hB3 hb3 hBW hlt q0 q1 h1 h3
  go_wp2
  refine bodyPost_ret (v := .agg #[.bool (neg (sg b2 (val l2 - val l))), .slice a3 n3 c3]) ?_ rfl hs
  simp [results, Try.f78, go_sem, m0, m1]
theorem against_sum (b : Bool) (a : Option Addr) (n c : Nat) (l : List Nat) (b2 : Bool) (a2 : Option Addr) (n2 c2 : Nat) (l2 : List Nat) (w : World) (h : NatAt w a n c l) (h2 : NatAt w a2 n2 c2 l2) (hs : n ≤ 274877906944) (hs2 : n2 ≤ 274877906944) (hb : b2 = !b) :
    Calls Try.prog 78 #[.agg #[.bool b, .slice a n c], .agg #[.bool b2, .slice a2 n2 c2]] w (RetInt w (sg b (val l) + sg b2 (val l2))) := by
  by_cases hv : val l2 ≤ val l
  · have e : sg b (val l) + sg b2 (val l2) = sg b (val l - val l2) := by subst hb; cases b <;> simp [sg] <;> omega
    rw [e]
    exact against_yes b a n c l b2 a2 n2 c2 l2 w h h2 (by omega) (by omega) hv
  · have e : sg b (val l) + sg b2 (val l2) = sg b2 (val l2 - val l) := by subst hb; cases b <;> simp [sg] <;> omega
    rw [e]
    exact against_no b a n c l b2 a2 n2 c2 l2 w h h2 (by omega) (by omega) (by omega)
theorem along_sum (b : Bool) (a : Option Addr) (n c : Nat) (l : List Nat) (b2 : Bool) (a2 : Option Addr) (n2 c2 : Nat) (l2 : List Nat) (w : World) (h : NatAt w a n c l) (h2 : NatAt w a2 n2 c2 l2) (hs : n ≤ 274877906944) (hs2 : n2 ≤ 274877906944) (hb : b2 = b) :
    Calls Try.prog 77 #[.agg #[.bool b, .slice a n c], .agg #[.bool b2, .slice a2 n2 c2]] w (RetInt w (sg b (val l) + sg b2 (val l2))) := by
  have e : sg b (val l) + sg b2 (val l2) = sg b (val l + val l2) := by subst hb; cases b2 <;> simp [sg] <;> omega
  rw [e]
  exact along_any b a n c l b2 a2 n2 c2 l2 w h h2 hs hs2
set_option maxHeartbeats 4000000 in
set_option maxRecDepth 100000 in
theorem sadd_any (b : Bool) (a : Option Addr) (n c : Nat) (l : List Nat) (b2 : Bool) (a2 : Option Addr) (n2 c2 : Nat) (l2 : List Nat) (w : World) (h : NatAt w a n c l) (h2 : NatAt w a2 n2 c2 l2) (hs : n ≤ 274877906944) (hs2 : n2 ≤ 274877906944) :
    Calls Try.prog 46 #[.agg #[.bool b, .slice a n c], .agg #[.bool b2, .slice a2 n2 c2]] w (RetInt w (sg b (val l) + sg b2 (val l2))) := by
  have hal := along_sum b a n c l b2 a2 n2 c2 l2
  have hag := against_sum b a n c l b2 a2 n2 c2 l2
  generalize hZ : sg b (val l) + sg b2 (val l2) = Z at *
  have hZ' := Lib.hid hZ
  have HAL := Lib.hid hal
  have HAG := Lib.hid hag
  clear hZ hal hag
  cases b <;> cases b2
  · have HX := Lib.hid (fun (w : World) (k1 : NatAt w a n c l) (k2 : NatAt w a2 n2 c2 l2) => HAL.out w k1 k2 hs hs2 rfl)
    clear HAL HAG
    have hix : ∀ w : World, (Instr.index 101 (.agg #[.func (.func 77) #[] #[], .func (.func 78) #[] #[]]) (.int .i64 0)).run Try.prog w = .ok (.func (.func 77) #[] #[]) w := fun w => by kernel_rfl
    go_enter Try.func46, Try.ntmps46
    go_wp2_with fail
    obtain ⟨W, hW, hz, hBW, q0, q1, q2, q3⟩ := boxes3 w #[.bool false, .slice a n c] #[.bool false, .slice a2 n2 c2] #[.bool false, .slice none 0 0] 34 34 34
    rw [hW]
    have HLT : Hid (w.heap.size + 1 + 1 < W.heap.size) := Lib.hid (by omega)
    have Q0 := Lib.hid q0
    have L0 : Hid (w.heap.size < w.heap.size + 1 + 1) := Lib.hid (by omega)
    have Q1 := Lib.hid q1
    have L1 : Hid (w.heap.size + 1 < w.heap.size + 1 + 1) := Lib.hid (by omega)
    have LR : Hid (w.heap.size ≤ w.heap.size + 1 + 1) := Lib.hid (by omega)
    have RM := Lib.hid (Room.of q2 q3)
    have HB := Lib.hid hBW
    clear hW hz hBW q0 q1 q2 q3
    go_wp2_with fail
    go_region_held3 (fun w' => (w'.cell? ⟨w.heap.size, 0, none⟩ = some (.bool false) ∧ w'.cell? ⟨w.heap.size, 1, none⟩ = some (.slice a n c) ∧ w'.cell? ⟨w.heap.size + 1, 0, none⟩ = some (.bool false) ∧ w'.cell? ⟨w.heap.size + 1, 1, none⟩ = some (.slice a2 n2 c2)) ∧ (Room w' (w.heap.size + 1 + 1) 2 ∧ Below w.heap.size w w' ∧ Below (w.heap.size + 1 + 1) W w'))
      (first
        | exact ⟨⟨((Below.refl (w.heap.size + 1 + 1) W).drew.cell (p := ⟨w.heap.size, 0, none⟩) L0.out).trans (Q0.out 0), ((Below.refl (w.heap.size + 1 + 1) W).drew.cell (p := ⟨w.heap.size, 1, none⟩) L0.out).trans (Q0.out 1), ((Below.refl (w.heap.size + 1 + 1) W).drew.cell (p := ⟨w.heap.size + 1, 0, none⟩) L1.out).trans (Q1.out 0), ((Below.refl (w.heap.size + 1 + 1) W).drew.cell (p := ⟨w.heap.size + 1, 1, none⟩) L1.out).trans (Q1.out 1)⟩, RM.out.drew, HB.out.drew, (Below.refl _ _).drew⟩
        | (rename _ ∧ (Room _ _ _ ∧ Below w.heap.size w _ ∧ Below _ W _) => hS
           first
             | exact ⟨⟨((hS.2.2.2.trans (hb2.mono (Nat.le_of_lt (Nat.lt_of_lt_of_le HLT.out hS.2.2.2.size)))).cell (p := ⟨w.heap.size, 0, none⟩) L0.out).trans (Q0.out 0), ((hS.2.2.2.trans (hb2.mono (Nat.le_of_lt (Nat.lt_of_lt_of_le HLT.out hS.2.2.2.size)))).cell (p := ⟨w.heap.size, 1, none⟩) L0.out).trans (Q0.out 1), ((hS.2.2.2.trans (hb2.mono (Nat.le_of_lt (Nat.lt_of_lt_of_le HLT.out hS.2.2.2.size)))).cell (p := ⟨w.heap.size + 1, 0, none⟩) L1.out).trans (Q1.out 0), ((hS.2.2.2.trans (hb2.mono (Nat.le_of_lt (Nat.lt_of_lt_of_le HLT.out hS.2.2.2.size)))).cell (p := ⟨w.heap.size + 1, 1, none⟩) L1.out).trans (Q1.out 1)⟩, hS.2.1.past hb2 (Nat.lt_of_lt_of_le HLT.out hS.2.2.2.size), below_later hS.2.2.1 hb2, (hS.2.2.2.trans (hb2.mono (Nat.le_of_lt (Nat.lt_of_lt_of_le HLT.out hS.2.2.2.size))))⟩
             | exact ⟨⟨((hS.2.2.2.alloc (Nat.le_of_lt (Nat.lt_of_lt_of_le HLT.out hS.2.2.2.size)) _).cell (p := ⟨w.heap.size, 0, none⟩) L0.out).trans (Q0.out 0), ((hS.2.2.2.alloc (Nat.le_of_lt (Nat.lt_of_lt_of_le HLT.out hS.2.2.2.size)) _).cell (p := ⟨w.heap.size, 1, none⟩) L0.out).trans (Q0.out 1), ((hS.2.2.2.alloc (Nat.le_of_lt (Nat.lt_of_lt_of_le HLT.out hS.2.2.2.size)) _).cell (p := ⟨w.heap.size + 1, 0, none⟩) L1.out).trans (Q1.out 0), ((hS.2.2.2.alloc (Nat.le_of_lt (Nat.lt_of_lt_of_le HLT.out hS.2.2.2.size)) _).cell (p := ⟨w.heap.size + 1, 1, none⟩) L1.out).trans (Q1.out 1)⟩, hS.2.1.past ((Below.refl _ _).alloc (Nat.le_refl _) _) (Nat.lt_of_lt_of_le HLT.out hS.2.2.2.size), below_alloc hS.2.2.1 _, (hS.2.2.2.alloc (Nat.le_of_lt (Nat.lt_of_lt_of_le HLT.out hS.2.2.2.size)) _)⟩
             | exact ⟨⟨(((hS.2.2.2.setCell (p := ⟨w.heap.size + 1 + 1, 0, none⟩) (Nat.le_refl _) _).setCell (p := ⟨w.heap.size + 1 + 1, 1, none⟩) (Nat.le_refl _) _).cell (p := ⟨w.heap.size, 0, none⟩) L0.out).trans (Q0.out 0), (((hS.2.2.2.setCell (p := ⟨w.heap.size + 1 + 1, 0, none⟩) (Nat.le_refl _) _).setCell (p := ⟨w.heap.size + 1 + 1, 1, none⟩) (Nat.le_refl _) _).cell (p := ⟨w.heap.size, 1, none⟩) L0.out).trans (Q0.out 1), (((hS.2.2.2.setCell (p := ⟨w.heap.size + 1 + 1, 0, none⟩) (Nat.le_refl _) _).setCell (p := ⟨w.heap.size + 1 + 1, 1, none⟩) (Nat.le_refl _) _).cell (p := ⟨w.heap.size + 1, 0, none⟩) L1.out).trans (Q1.out 0), (((hS.2.2.2.setCell (p := ⟨w.heap.size + 1 + 1, 0, none⟩) (Nat.le_refl _) _).setCell (p := ⟨w.heap.size + 1 + 1, 1, none⟩) (Nat.le_refl _) _).cell (p := ⟨w.heap.size + 1, 1, none⟩) L1.out).trans (Q1.out 1)⟩, ((hS.2.1.set _ _).set _ _), ((hS.2.2.1.setCell (p := ⟨w.heap.size + 1 + 1, 0, none⟩) LR.out _).setCell (p := ⟨w.heap.size + 1 + 1, 1, none⟩) LR.out _), ((hS.2.2.2.setCell (p := ⟨w.heap.size + 1 + 1, 0, none⟩) (Nat.le_refl _) _).setCell (p := ⟨w.heap.size + 1 + 1, 1, none⟩) (Nat.le_refl _) _)⟩)
        | assumption)
      (first
        | (go_at_call 77; rename _ ∧ (Room _ _ _ ∧ Below w.heap.size w _ ∧ Below _ W _) => hS
           go_fit (HX.out _ (h.past hS.2.2.1) (h2.past hS.2.2.1))
           rintro e w3 ⟨a3, n3, c3, rfl, h3, hb2⟩
           have lt3 := Nat.lt_of_lt_of_le HLT.out hS.2.2.2.size
           have le3 := hS.2.2.1.size
           have rm3 := hS.2.1.past hb2 lt3
           obtain ⟨v0, v1, m0, m1, m2, m3⟩ := rm3.two
           have own3 := h3.ret2 lt3 le3 (.bool (neg Z)) (.slice a3 n3 c3)))
    all_goals
      rename _ ∧ (Room _ _ _ ∧ Below w.heap.size w _ ∧ Below _ W _) => hH
      have hs := retIntOf (z := Z) ⟨own3, hH.2.2.1⟩ rfl _ rfl
      clear hH
      go_wp2
      refine bodyPost_ret (v := .agg #[.bool (neg (Z)), .slice a3 n3 c3]) ?_ rfl hs
      simp [results, Try.f46, go_sem, m0, m1]
  · have HX := Lib.hid (fun (w : World) (k1 : NatAt w a n c l) (k2 : NatAt w a2 n2 c2 l2) => HAG.out w k1 k2 hs hs2 rfl)
    clear HAL HAG
    have hix : ∀ w : World, (Instr.index 101 (.agg #[.func (.func 77) #[] #[], .func (.func 78) #[] #[]]) (.int .i64 1)).run Try.prog w = .ok (.func (.func 78) #[] #[]) w := fun w => by kernel_rfl
    go_enter Try.func46, Try.ntmps46
    go_wp2_with fail
    obtain ⟨W, hW, hz, hBW, q0, q1, q2, q3⟩ := boxes3 w #[.bool false, .slice a n c] #[.bool true, .slice a2 n2 c2] #[.bool false, .slice none 0 0] 34 34 34
    rw [hW]
    have HLT : Hid (w.heap.size + 1 + 1 < W.heap.size) := Lib.hid (by omega)
    have Q0 := Lib.hid q0
    have L0 : Hid (w.heap.size < w.heap.size + 1 + 1) := Lib.hid (by omega)
    have Q1 := Lib.hid q1
    have L1 : Hid (w.heap.size + 1 < w.heap.size + 1 + 1) := Lib.hid (by omega)
    have LR : Hid (w.heap.size ≤ w.heap.size + 1 + 1) := Lib.hid (by omega)
    have RM := Lib.hid (Room.of q2 q3)
    have HB := Lib.hid hBW
    clear hW hz hBW q0 q1 q2 q3
    go_wp2_with fail
    go_region_held3 (fun w' => (w'.cell? ⟨w.heap.size, 0, none⟩ = some (.bool false) ∧ w'.cell? ⟨w.heap.size, 1, none⟩ = some (.slice a n c) ∧ w'.cell? ⟨w.heap.size + 1, 0, none⟩ = some (.bool true) ∧ w'.cell? ⟨w.heap.size + 1, 1, none⟩ = some (.slice a2 n2 c2)) ∧ (Room w' (w.heap.size + 1 + 1) 2 ∧ Below w.heap.size w w' ∧ Below (w.heap.size + 1 + 1) W w'))
      (first
        | exact ⟨⟨((Below.refl (w.heap.size + 1 + 1) W).drew.cell (p := ⟨w.heap.size, 0, none⟩) L0.out).trans (Q0.out 0), ((Below.refl (w.heap.size + 1 + 1) W).drew.cell (p := ⟨w.heap.size, 1, none⟩) L0.out).trans (Q0.out 1), ((Below.refl (w.heap.size + 1 + 1) W).drew.cell (p := ⟨w.heap.size + 1, 0, none⟩) L1.out).trans (Q1.out 0), ((Below.refl (w.heap.size + 1 + 1) W).drew.cell (p := ⟨w.heap.size + 1, 1, none⟩) L1.out).trans (Q1.out 1)⟩, RM.out.drew, HB.out.drew, (Below.refl _ _).drew⟩
        | (rename _ ∧ (Room _ _ _ ∧ Below w.heap.size w _ ∧ Below _ W _) => hS
           first
             | exact ⟨⟨((hS.2.2.2.trans (hb2.mono (Nat.le_of_lt (Nat.lt_of_lt_of_le HLT.out hS.2.2.2.size)))).cell (p := ⟨w.heap.size, 0, none⟩) L0.out).trans (Q0.out 0), ((hS.2.2.2.trans (hb2.mono (Nat.le_of_lt (Nat.lt_of_lt_of_le HLT.out hS.2.2.2.size)))).cell (p := ⟨w.heap.size, 1, none⟩) L0.out).trans (Q0.out 1), ((hS.2.2.2.trans (hb2.mono (Nat.le_of_lt (Nat.lt_of_lt_of_le HLT.out hS.2.2.2.size)))).cell (p := ⟨w.heap.size + 1, 0, none⟩) L1.out).trans (Q1.out 0), ((hS.2.2.2.trans (hb2.mono (Nat.le_of_lt (Nat.lt_of_lt_of_le HLT.out hS.2.2.2.size)))).cell (p := ⟨w.heap.size + 1, 1, none⟩) L1.out).trans (Q1.out 1)⟩, hS.2.1.past hb2 (Nat.lt_of_lt_of_le HLT.out hS.2.2.2.size), below_later hS.2.2.1 hb2, (hS.2.2.2.trans (hb2.mono (Nat.le_of_lt (Nat.lt_of_lt_of_le HLT.out hS.2.2.2.size))))⟩
             | exact ⟨⟨((hS.2.2.2.alloc (Nat.le_of_lt (Nat.lt_of_lt_of_le HLT.out hS.2.2.2.size)) _).cell (p := ⟨w.heap.size, 0, none⟩) L0.out).trans (Q0.out 0), ((hS.2.2.2.alloc (Nat.le_of_lt (Nat.lt_of_lt_of_le HLT.out hS.2.2.2.size)) _).cell (p := ⟨w.heap.size, 1, none⟩) L0.out).trans (Q0.out 1), ((hS.2.2.2.alloc (Nat.le_of_lt (Nat.lt_of_lt_of_le HLT.out hS.2.2.2.size)) _).cell (p := ⟨w.heap.size + 1, 0, none⟩) L1.out).trans (Q1.out 0), ((hS.2.2.2.alloc (Nat.le_of_lt (Nat.lt_of_lt_of_le HLT.out hS.2.2.2.size)) _).cell (p := ⟨w.heap.size + 1, 1, none⟩) L1.out).trans (Q1.out 1)⟩, hS.2.1.past ((Below.refl _ _).alloc (Nat.le_refl _) _) (Nat.lt_of_lt_of_le HLT.out hS.2.2.2.size), below_alloc hS.2.2.1 _, (hS.2.2.2.alloc (Nat.le_of_lt (Nat.lt_of_lt_of_le HLT.out hS.2.2.2.size)) _)⟩
             | exact ⟨⟨(((hS.2.2.2.setCell (p := ⟨w.heap.size + 1 + 1, 0, none⟩) (Nat.le_refl _) _).setCell (p := ⟨w.heap.size + 1 + 1, 1, none⟩) (Nat.le_refl _) _).cell (p := ⟨w.heap.size, 0, none⟩) L0.out).trans (Q0.out 0), (((hS.2.2.2.setCell (p := ⟨w.heap.size + 1 + 1, 0, none⟩) (Nat.le_refl _) _).setCell (p := ⟨w.heap.size + 1 + 1, 1, none⟩) (Nat.le_refl _) _).cell (p := ⟨w.heap.size, 1, none⟩) L0.out).trans (Q0.out 1), (((hS.2.2.2.setCell (p := ⟨w.heap.size + 1 + 1, 0, none⟩) (Nat.le_refl _) _).setCell (p := ⟨w.heap.size + 1 + 1, 1, none⟩) (Nat.le_refl _) _).cell (p := ⟨w.heap.size + 1, 0, none⟩) L1.out).trans (Q1.out 0), (((hS.2.2.2.setCell (p := ⟨w.heap.size + 1 + 1, 0, none⟩) (Nat.le_refl _) _).setCell (p := ⟨w.heap.size + 1 + 1, 1, none⟩) (Nat.le_refl _) _).cell (p := ⟨w.heap.size + 1, 1, none⟩) L1.out).trans (Q1.out 1)⟩, ((hS.2.1.set _ _).set _ _), ((hS.2.2.1.setCell (p := ⟨w.heap.size + 1 + 1, 0, none⟩) LR.out _).setCell (p := ⟨w.heap.size + 1 + 1, 1, none⟩) LR.out _), ((hS.2.2.2.setCell (p := ⟨w.heap.size + 1 + 1, 0, none⟩) (Nat.le_refl _) _).setCell (p := ⟨w.heap.size + 1 + 1, 1, none⟩) (Nat.le_refl _) _)⟩)
        | assumption)
      (first
        | (go_at_call 78; rename _ ∧ (Room _ _ _ ∧ Below w.heap.size w _ ∧ Below _ W _) => hS
           go_fit (HX.out _ (h.past hS.2.2.1) (h2.past hS.2.2.1))
           rintro e w3 ⟨a3, n3, c3, rfl, h3, hb2⟩
           have lt3 := Nat.lt_of_lt_of_le HLT.out hS.2.2.2.size
           have le3 := hS.2.2.1.size
           have rm3 := hS.2.1.past hb2 lt3
           obtain ⟨v0, v1, m0, m1, m2, m3⟩ := rm3.two
           have own3 := h3.ret2 lt3 le3 (.bool (neg Z)) (.slice a3 n3 c3)))
    all_goals
      rename _ ∧ (Room _ _ _ ∧ Below w.heap.size w _ ∧ Below _ W _) => hH
      have hs := retIntOf (z := Z) ⟨own3, hH.2.2.1⟩ rfl _ rfl
      clear hH
      go_wp2
      refine bodyPost_ret (v := .agg #[.bool (neg (Z)), .slice a3 n3 c3]) ?_ rfl hs
      simp [results, Try.f46, go_sem, m0, m1]
  · have HX := Lib.hid (fun (w : World) (k1 : NatAt w a n c l) (k2 : NatAt w a2 n2 c2 l2) => HAG.out w k1 k2 hs hs2 rfl)
    clear HAL HAG
    have hix : ∀ w : World, (Instr.index 101 (.agg #[.func (.func 77) #[] #[], .func (.func 78) #[] #[]]) (.int .i64 1)).run Try.prog w = .ok (.func (.func 78) #[] #[]) w := fun w => by kernel_rfl
    go_enter Try.func46, Try.ntmps46
    go_wp2_with fail
    obtain ⟨W, hW, hz, hBW, q0, q1, q2, q3⟩ := boxes3 w #[.bool true, .slice a n c] #[.bool false, .slice a2 n2 c2] #[.bool false, .slice none 0 0] 34 34 34
    rw [hW]
    have HLT : Hid (w.heap.size + 1 + 1 < W.heap.size) := Lib.hid (by omega)
    have Q0 := Lib.hid q0
    have L0 : Hid (w.heap.size < w.heap.size + 1 + 1) := Lib.hid (by omega)
    have Q1 := Lib.hid q1
    have L1 : Hid (w.heap.size + 1 < w.heap.size + 1 + 1) := Lib.hid (by omega)
    have LR : Hid (w.heap.size ≤ w.heap.size + 1 + 1) := Lib.hid (by omega)
    have RM := Lib.hid (Room.of q2 q3)
    have HB := Lib.hid hBW
    clear hW hz hBW q0 q1 q2 q3
    go_wp2_with fail
    go_region_held3 (fun w' => (w'.cell? ⟨w.heap.size, 0, none⟩ = some (.bool true) ∧ w'.cell? ⟨w.heap.size, 1, none⟩ = some (.slice a n c) ∧ w'.cell? ⟨w.heap.size + 1, 0, none⟩ = some (.bool false) ∧ w'.cell? ⟨w.heap.size + 1, 1, none⟩ = some (.slice a2 n2 c2)) ∧ (Room w' (w.heap.size + 1 + 1) 2 ∧ Below w.heap.size w w' ∧ Below (w.heap.size + 1 + 1) W w'))
      (first
        | exact ⟨⟨((Below.refl (w.heap.size + 1 + 1) W).drew.cell (p := ⟨w.heap.size, 0, none⟩) L0.out).trans (Q0.out 0), ((Below.refl (w.heap.size + 1 + 1) W).drew.cell (p := ⟨w.heap.size, 1, none⟩) L0.out).trans (Q0.out 1), ((Below.refl (w.heap.size + 1 + 1) W).drew.cell (p := ⟨w.heap.size + 1, 0, none⟩) L1.out).trans (Q1.out 0), ((Below.refl (w.heap.size + 1 + 1) W).drew.cell (p := ⟨w.heap.size + 1, 1, none⟩) L1.out).trans (Q1.out 1)⟩, RM.out.drew, HB.out.drew, (Below.refl _ _).drew⟩
        | (rename _ ∧ (Room _ _ _ ∧ Below w.heap.size w _ ∧ Below _ W _) => hS
           first
             | exact ⟨⟨((hS.2.2.2.trans (hb2.mono (Nat.le_of_lt (Nat.lt_of_lt_of_le HLT.out hS.2.2.2.size)))).cell (p := ⟨w.heap.size, 0, none⟩) L0.out).trans (Q0.out 0), ((hS.2.2.2.trans (hb2.mono (Nat.le_of_lt (Nat.lt_of_lt_of_le HLT.out hS.2.2.2.size)))).cell (p := ⟨w.heap.size, 1, none⟩) L0.out).trans (Q0.out 1), ((hS.2.2.2.trans (hb2.mono (Nat.le_of_lt (Nat.lt_of_lt_of_le HLT.out hS.2.2.2.size)))).cell (p := ⟨w.heap.size + 1, 0, none⟩) L1.out).trans (Q1.out 0), ((hS.2.2.2.trans (hb2.mono (Nat.le_of_lt (Nat.lt_of_lt_of_le HLT.out hS.2.2.2.size)))).cell (p := ⟨w.heap.size + 1, 1, none⟩) L1.out).trans (Q1.out 1)⟩, hS.2.1.past hb2 (Nat.lt_of_lt_of_le HLT.out hS.2.2.2.size), below_later hS.2.2.1 hb2, (hS.2.2.2.trans (hb2.mono (Nat.le_of_lt (Nat.lt_of_lt_of_le HLT.out hS.2.2.2.size))))⟩
             | exact ⟨⟨((hS.2.2.2.alloc (Nat.le_of_lt (Nat.lt_of_lt_of_le HLT.out hS.2.2.2.size)) _).cell (p := ⟨w.heap.size, 0, none⟩) L0.out).trans (Q0.out 0), ((hS.2.2.2.alloc (Nat.le_of_lt (Nat.lt_of_lt_of_le HLT.out hS.2.2.2.size)) _).cell (p := ⟨w.heap.size, 1, none⟩) L0.out).trans (Q0.out 1), ((hS.2.2.2.alloc (Nat.le_of_lt (Nat.lt_of_lt_of_le HLT.out hS.2.2.2.size)) _).cell (p := ⟨w.heap.size + 1, 0, none⟩) L1.out).trans (Q1.out 0), ((hS.2.2.2.alloc (Nat.le_of_lt (Nat.lt_of_lt_of_le HLT.out hS.2.2.2.size)) _).cell (p := ⟨w.heap.size + 1, 1, none⟩) L1.out).trans (Q1.out 1)⟩, hS.2.1.past ((Below.refl _ _).alloc (Nat.le_refl _) _) (Nat.lt_of_lt_of_le HLT.out hS.2.2.2.size), below_alloc hS.2.2.1 _, (hS.2.2.2.alloc (Nat.le_of_lt (Nat.lt_of_lt_of_le HLT.out hS.2.2.2.size)) _)⟩
             | exact ⟨⟨(((hS.2.2.2.setCell (p := ⟨w.heap.size + 1 + 1, 0, none⟩) (Nat.le_refl _) _).setCell (p := ⟨w.heap.size + 1 + 1, 1, none⟩) (Nat.le_refl _) _).cell (p := ⟨w.heap.size, 0, none⟩) L0.out).trans (Q0.out 0), (((hS.2.2.2.setCell (p := ⟨w.heap.size + 1 + 1, 0, none⟩) (Nat.le_refl _) _).setCell (p := ⟨w.heap.size + 1 + 1, 1, none⟩) (Nat.le_refl _) _).cell (p := ⟨w.heap.size, 1, none⟩) L0.out).trans (Q0.out 1), (((hS.2.2.2.setCell (p := ⟨w.heap.size + 1 + 1, 0, none⟩) (Nat.le_refl _) _).setCell (p := ⟨w.heap.size + 1 + 1, 1, none⟩) (Nat.le_refl _) _).cell (p := ⟨w.heap.size + 1, 0, none⟩) L1.out).trans (Q1.out 0), (((hS.2.2.2.setCell (p := ⟨w.heap.size + 1 + 1, 0, none⟩) (Nat.le_refl _) _).setCell (p := ⟨w.heap.size + 1 + 1, 1, none⟩) (Nat.le_refl _) _).cell (p := ⟨w.heap.size + 1, 1, none⟩) L1.out).trans (Q1.out 1)⟩, ((hS.2.1.set _ _).set _ _), ((hS.2.2.1.setCell (p := ⟨w.heap.size + 1 + 1, 0, none⟩) LR.out _).setCell (p := ⟨w.heap.size + 1 + 1, 1, none⟩) LR.out _), ((hS.2.2.2.setCell (p := ⟨w.heap.size + 1 + 1, 0, none⟩) (Nat.le_refl _) _).setCell (p := ⟨w.heap.size + 1 + 1, 1, none⟩) (Nat.le_refl _) _)⟩)
        | assumption)
      (first
        | (go_at_call 78; rename _ ∧ (Room _ _ _ ∧ Below w.heap.size w _ ∧ Below _ W _) => hS
           go_fit (HX.out _ (h.past hS.2.2.1) (h2.past hS.2.2.1))
           rintro e w3 ⟨a3, n3, c3, rfl, h3, hb2⟩
           have lt3 := Nat.lt_of_lt_of_le HLT.out hS.2.2.2.size
           have le3 := hS.2.2.1.size
           have rm3 := hS.2.1.past hb2 lt3
           obtain ⟨v0, v1, m0, m1, m2, m3⟩ := rm3.two
           have own3 := h3.ret2 lt3 le3 (.bool (neg Z)) (.slice a3 n3 c3)))
    all_goals
      rename _ ∧ (Room _ _ _ ∧ Below w.heap.size w _ ∧ Below _ W _) => hH
      have hs := retIntOf (z := Z) ⟨own3, hH.2.2.1⟩ rfl _ rfl
      clear hH
      go_wp2
      refine bodyPost_ret (v := .agg #[.bool (neg (Z)), .slice a3 n3 c3]) ?_ rfl hs
      simp [results, Try.f46, go_sem, m0, m1]
  · have HX := Lib.hid (fun (w : World) (k1 : NatAt w a n c l) (k2 : NatAt w a2 n2 c2 l2) => HAL.out w k1 k2 hs hs2 rfl)
    clear HAL HAG
    have hix : ∀ w : World, (Instr.index 101 (.agg #[.func (.func 77) #[] #[], .func (.func 78) #[] #[]]) (.int .i64 0)).run Try.prog w = .ok (.func (.func 77) #[] #[]) w := fun w => by kernel_rfl
    go_enter Try.func46, Try.ntmps46
    go_wp2_with fail
    obtain ⟨W, hW, hz, hBW, q0, q1, q2, q3⟩ := boxes3 w #[.bool true, .slice a n c] #[.bool true, .slice a2 n2 c2] #[.bool false, .slice none 0 0] 34 34 34
    rw [hW]
    have HLT : Hid (w.heap.size + 1 + 1 < W.heap.size) := Lib.hid (by omega)
    have Q0 := Lib.hid q0
    have L0 : Hid (w.heap.size < w.heap.size + 1 + 1) := Lib.hid (by omega)
    have Q1 := Lib.hid q1
    have L1 : Hid (w.heap.size + 1 < w.heap.size + 1 + 1) := Lib.hid (by omega)
    have LR : Hid (w.heap.size ≤ w.heap.size + 1 + 1) := Lib.hid (by omega)
    have RM := Lib.hid (Room.of q2 q3)
    have HB := Lib.hid hBW
    clear hW hz hBW q0 q1 q2 q3
    go_wp2_with fail
    go_region_held3 (fun w' => (w'.cell? ⟨w.heap.size, 0, none⟩ = some (.bool true) ∧ w'.cell? ⟨w.heap.size, 1, none⟩ = some (.slice a n c) ∧ w'.cell? ⟨w.heap.size + 1, 0, none⟩ = some (.bool true) ∧ w'.cell? ⟨w.heap.size + 1, 1, none⟩ = some (.slice a2 n2 c2)) ∧ (Room w' (w.heap.size + 1 + 1) 2 ∧ Below w.heap.size w w' ∧ Below (w.heap.size + 1 + 1) W w'))
      (first
        | exact ⟨⟨((Below.refl (w.heap.size + 1 + 1) W).drew.cell (p := ⟨w.heap.size, 0, none⟩) L0.out).trans (Q0.out 0), ((Below.refl (w.heap.size + 1 + 1) W).drew.cell (p := ⟨w.heap.size, 1, none⟩) L0.out).trans (Q0.out 1), ((Below.refl (w.heap.size + 1 + 1) W).drew.cell (p := ⟨w.heap.size + 1, 0, none⟩) L1.out).trans (Q1.out 0), ((Below.refl (w.heap.size + 1 + 1) W).drew.cell (p := ⟨w.heap.size + 1, 1, none⟩) L1.out).trans (Q1.out 1)⟩, RM.out.drew, HB.out.drew, (Below.refl _ _).drew⟩
        | (rename _ ∧ (Room _ _ _ ∧ Below w.heap.size w _ ∧ Below _ W _) => hS
           first
             | exact ⟨⟨((hS.2.2.2.trans (hb2.mono (Nat.le_of_lt (Nat.lt_of_lt_of_le HLT.out hS.2.2.2.size)))).cell (p := ⟨w.heap.size, 0, none⟩) L0.out).trans (Q0.out 0), ((hS.2.2.2.trans (hb2.mono (Nat.le_of_lt (Nat.lt_of_lt_of_le HLT.out hS.2.2.2.size)))).cell (p := ⟨w.heap.size, 1, none⟩) L0.out).trans (Q0.out 1), ((hS.2.2.2.trans (hb2.mono (Nat.le_of_lt (Nat.lt_of_lt_of_le HLT.out hS.2.2.2.size)))).cell (p := ⟨w.heap.size + 1, 0, none⟩) L1.out).trans (Q1.out 0), ((hS.2.2.2.trans (hb2.mono (Nat.le_of_lt (Nat.lt_of_lt_of_le HLT.out hS.2.2.2.size)))).cell (p := ⟨w.heap.size + 1, 1, none⟩) L1.out).trans (Q1.out 1)⟩, hS.2.1.past hb2 (Nat.lt_of_lt_of_le HLT.out hS.2.2.2.size), below_later hS.2.2.1 hb2, (hS.2.2.2.trans (hb2.mono (Nat.le_of_lt (Nat.lt_of_lt_of_le HLT.out hS.2.2.2.size))))⟩
             | exact ⟨⟨((hS.2.2.2.alloc (Nat.le_of_lt (Nat.lt_of_lt_of_le HLT.out hS.2.2.2.size)) _).cell (p := ⟨w.heap.size, 0, none⟩) L0.out).trans (Q0.out 0), ((hS.2.2.2.alloc (Nat.le_of_lt (Nat.lt_of_lt_of_le HLT.out hS.2.2.2.size)) _).cell (p := ⟨w.heap.size, 1, none⟩) L0.out).trans (Q0.out 1), ((hS.2.2.2.alloc (Nat.le_of_lt (Nat.lt_of_lt_of_le HLT.out hS.2.2.2.size)) _).cell (p := ⟨w.heap.size + 1, 0, none⟩) L1.out).trans (Q1.out 0), ((hS.2.2.2.alloc (Nat.le_of_lt (Nat.lt_of_lt_of_le HLT.out hS.2.2.2.size)) _).cell (p := ⟨w.heap.size + 1, 1, none⟩) L1.out).trans (Q1.out 1)⟩, hS.2.1.past ((Below.refl _ _).alloc (Nat.le_refl _) _) (Nat.lt_of_lt_of_le HLT.out hS.2.2.2.size), below_alloc hS.2.2.1 _, (hS.2.2.2.alloc (Nat.le_of_lt (Nat.lt_of_lt_of_le HLT.out hS.2.2.2.size)) _)⟩
             | exact ⟨⟨(((hS.2.2.2.setCell (p := ⟨w.heap.size + 1 + 1, 0, none⟩) (Nat.le_refl _) _).setCell (p := ⟨w.heap.size + 1 + 1, 1, none⟩) (Nat.le_refl _) _).cell (p := ⟨w.heap.size, 0, none⟩) L0.out).trans (Q0.out 0), (((hS.2.2.2.setCell (p := ⟨w.heap.size + 1 + 1, 0, none⟩) (Nat.le_refl _) _).setCell (p := ⟨w.heap.size + 1 + 1, 1, none⟩) (Nat.le_refl _) _).cell (p := ⟨w.heap.size, 1, none⟩) L0.out).trans (Q0.out 1), (((hS.2.2.2.setCell (p := ⟨w.heap.size + 1 + 1, 0, none⟩) (Nat.le_refl _) _).setCell (p := ⟨w.heap.size + 1 + 1, 1, none⟩) (Nat.le_refl _) _).cell (p := ⟨w.heap.size + 1, 0, none⟩) L1.out).trans (Q1.out 0), (((hS.2.2.2.setCell (p := ⟨w.heap.size + 1 + 1, 0, none⟩) (Nat.le_refl _) _).setCell (p := ⟨w.heap.size + 1 + 1, 1, none⟩) (Nat.le_refl _) _).cell (p := ⟨w.heap.size + 1, 1, none⟩) L1.out).trans (Q1.out 1)⟩, ((hS.2.1.set _ _).set _ _), ((hS.2.2.1.setCell (p := ⟨w.heap.size + 1 + 1, 0, none⟩) LR.out _).setCell (p := ⟨w.heap.size + 1 + 1, 1, none⟩) LR.out _), ((hS.2.2.2.setCell (p := ⟨w.heap.size + 1 + 1, 0, none⟩) (Nat.le_refl _) _).setCell (p := ⟨w.heap.size + 1 + 1, 1, none⟩) (Nat.le_refl _) _)⟩)
        | assumption)
      (first
        | (go_at_call 77; rename _ ∧ (Room _ _ _ ∧ Below w.heap.size w _ ∧ Below _ W _) => hS
           go_fit (HX.out _ (h.past hS.2.2.1) (h2.past hS.2.2.1))
           rintro e w3 ⟨a3, n3, c3, rfl, h3, hb2⟩
           have lt3 := Nat.lt_of_lt_of_le HLT.out hS.2.2.2.size
           have le3 := hS.2.2.1.size
           have rm3 := hS.2.1.past hb2 lt3
           obtain ⟨v0, v1, m0, m1, m2, m3⟩ := rm3.two
           have own3 := h3.ret2 lt3 le3 (.bool (neg Z)) (.slice a3 n3 c3)))
    all_goals
      rename _ ∧ (Room _ _ _ ∧ Below w.heap.size w _ ∧ Below _ W _) => hH
      have hs := retIntOf (z := Z) ⟨own3, hH.2.2.1⟩ rfl _ rfl
      clear hH
      go_wp2
      refine bodyPost_ret (v := .agg #[.bool (neg (Z)), .slice a3 n3 c3]) ?_ rfl hs
      simp [results, Try.f46, go_sem, m0, m1]
end Go.Proofs.Ytlkoenpdmlbhlaa
