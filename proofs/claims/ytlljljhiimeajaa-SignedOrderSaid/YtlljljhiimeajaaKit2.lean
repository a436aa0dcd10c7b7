/- artesiankit on whole numbers; and the contracts of signed for numbers as Make has them. -/
import Derived.Test.YtlljljhiimeajaaSigned3
import Derived.Test.YtlljljhiimeajaaKit1
set_option linter.unusedVariables false
set_option linter.unusedSimpArgs false
namespace Go.Proofs.Ytlljljhiimeajaa
open Go.RowKit

theorem OwnAt.past {w w' : World} {B : Nat} {a : Option Addr} {n c : Nat} {l : List Nat} (h : OwnAt w B a n c l) (hb : Below w.heap.size w w') : OwnAt w' B a n c l := h.later hb (Nat.le_refl _)

/-- an Int in memory of its own -/
def RetCopy (w : World) (b : Bool) (l : List Nat) (e : Ending) (w' : World) : Prop :=
  ∃ a n c, e = .returned (.agg #[.bool b, .slice a n c]) ∧ OwnAt w' w.heap.size a n c l ∧ Below w.heap.size w w'

set_option maxRecDepth 100000 in
theorem copyWhole_any (b : Bool) (a : Option Addr) (n c : Nat) (l : List Nat) (w : World) (h : NatAt w a n c l) (hs : n ≤ 1099511627776) :
    Calls Try.prog 35 #[.agg #[.bool b, .slice a n c]] w (RetCopy w b l) := by
  go_enter Try.func35, Try.ntmps35
  go_wp2_with fail
  obtain ⟨W, hW, hz, hBW, q1, q2, q3⟩ := boxes2 w #[.bool b, .slice a n c] #[.bool false, .slice none 0 0] 42 42
  have f1 : ∀ i, W.frozen? ⟨w.heap.size, i, none⟩ = false := by
    intro i
    rw [← hW, World.frozen?_alloc_past _ _ _ (by simp), World.frozen?_alloc_at _ _ _ _ rfl]
  rw [hW]
  have hlt : w.heap.size + 1 < W.heap.size := by omega
  have hlt0 : w.heap.size < W.heap.size := by omega
  with_reducible refine (copyNat_any _ _ _ l _ (h.past hBW) hs).mono ?_
  rintro e w1 ⟨a1, n1, c1, rfl, h1, hb⟩
  obtain ⟨q2, q3⟩ := boxPast hb hlt q2 q3
  obtain ⟨q1, f1⟩ := boxPast hb hlt0 q1 f1
  have hB := below_later hBW hb
  have ho := (((h1.setOff (b := w.heap.size) (o := 1) hlt0 (.slice a1 n1 c1)).setOff (b := w.heap.size + 1) (o := 0) hlt (.bool b)).setOff (b := w.heap.size + 1) (o := 1) hlt (.slice a1 n1 c1)).mono hBW.size
  have hBF := ((hB.setCell (p := ⟨w.heap.size, 1, none⟩) (Nat.le_refl _) (.slice a1 n1 c1)).setCell (p := ⟨w.heap.size + 1, 0, none⟩) (Nat.le_succ _) (.bool b)).setCell (p := ⟨w.heap.size + 1, 1, none⟩) (Nat.le_succ _) (.slice a1 n1 c1)
  clear hW hz hBW hlt hlt0 h hb h1 hB
  go_wp2
  refine bodyPost_ret (v := .agg #[.bool b, .slice a1 n1 c1]) ?_ rfl ⟨_, _, _, rfl, ho, hBF⟩
  simp [results, Try.f35, go_sem, q2, q1]

set_option maxRecDepth 100000 in
theorem sameWhole_no (b b2 : Bool) (a : Option Addr) (n c : Nat) (a2 : Option Addr) (n2 c2 : Nat) (w : World) (hb : (b == b2) = false) :
    Calls Try.prog 40 #[.agg #[.bool b, .slice a n c], .agg #[.bool b2, .slice a2 n2 c2]] w (RetVal w (.bool false)) := by
  go_enter Try.func40, Try.ntmps40
  go_wp2
  go_ret
  exact ⟨rfl, ((Below.refl _ _).alloc (Nat.le_refl _) _).alloc (by simp) _⟩
set_option maxRecDepth 100000 in
theorem sameWhole_eq (b : Bool) (a : Option Addr) (n c : Nat) (l : List Nat) (a2 : Option Addr) (n2 c2 : Nat) (l2 : List Nat) (w : World) (h : NatAt w a n c l) (h2 : NatAt w a2 n2 c2 l2) :
    Calls Try.prog 40 #[.agg #[.bool b, .slice a n c], .agg #[.bool b, .slice a2 n2 c2]] w (RetVal w (.bool (eqL l l2))) := by
  go_enter Try.func40, Try.ntmps40
  go_wp2_with fail
  with_reducible refine (sameNat_below ((h.alloc _).alloc _) ((h2.alloc _).alloc _)).mono ?_
  rintro e w1 ⟨rfl, hb⟩
  go_wp2
  go_ret
  exact ⟨rfl, below_later (((Below.refl _ _).alloc (Nat.le_refl _) _).alloc (by simp) _) hb⟩
theorem sameWhole_yes {b : Bool} {a : Option Addr} {n c : Nat} {l : List Nat} {a2 : Option Addr} {n2 c2 : Nat} {w : World} (h : NatAt w a n c l) (h2 : NatAt w a2 n2 c2 l) :
    Calls Try.prog 40 #[.agg #[.bool b, .slice a n c], .agg #[.bool b, .slice a2 n2 c2]] w (RetVal w (.bool true)) := by
  have := sameWhole_eq b a n c l a2 n2 c2 l w h h2
  rwa [eqL_self] at this

/-! numbers as Make has them -/
theorem digs_abs_inj {x y : Int} (hs : neg x = neg y) (h : digs x.natAbs = digs y.natAbs) : x = y := by
  rw [← sg_canon x, ← sg_canon y, hs, h]
def eqZ (x y : Int) : Bool := decide (x = y)
theorem sameInt_any {x y : Int} {a : Option Addr} {n c : Nat} {a2 : Option Addr} {n2 c2 : Nat} {w : World} (h : NatAt w a n c (digs x.natAbs)) (h2 : NatAt w a2 n2 c2 (digs y.natAbs)) :
    Calls Try.prog 40 #[.agg #[.bool (neg x), .slice a n c], .agg #[.bool (neg y), .slice a2 n2 c2]] w (RetVal w (.bool (eqZ x y))) := by
  by_cases hn : neg x = neg y
  · rw [hn]
    have e : eqZ x y = eqL (digs x.natAbs) (digs y.natAbs) := by
      unfold eqZ eqL
      rw [decide_eq_decide]
      exact ⟨fun e => by rw [e], fun e => digs_abs_inj hn e⟩
    rw [e]
    exact sameWhole_eq _ _ _ _ _ _ _ _ _ _ h h2
  · have e : eqZ x y = false := decide_eq_false fun e => hn (by rw [e])
    rw [e]
    exact sameWhole_no _ _ _ _ _ _ _ _ _ (by simpa using hn)
theorem sadd_c {x y : Int} {a : Option Addr} {n c : Nat} {a2 : Option Addr} {n2 c2 : Nat} {w : World} (h : NatAt w a n c (digs x.natAbs)) (h2 : NatAt w a2 n2 c2 (digs y.natAbs)) (hs : n ≤ 274877906944) (hs2 : n2 ≤ 274877906944) :
    Calls Try.prog 47 #[.agg #[.bool (neg x), .slice a n c], .agg #[.bool (neg y), .slice a2 n2 c2]] w (RetInt w (x + y)) := by
  have := sadd_any (neg x) a n c _ (neg y) a2 n2 c2 _ w h h2 hs hs2
  rwa [sg_canon, sg_canon] at this
theorem ssub_c {x y : Int} {a : Option Addr} {n c : Nat} {a2 : Option Addr} {n2 c2 : Nat} {w : World} (h : NatAt w a n c (digs x.natAbs)) (h2 : NatAt w a2 n2 c2 (digs y.natAbs)) (hs : n ≤ 274877906944) (hs2 : n2 ≤ 274877906944) :
    Calls Try.prog 48 #[.agg #[.bool (neg x), .slice a n c], .agg #[.bool (neg y), .slice a2 n2 c2]] w (RetInt w (x - y)) := by
  have := ssub_any (neg x) a n c _ (neg y) a2 n2 c2 _ w h h2 hs hs2
  rwa [sg_canon, sg_canon] at this
theorem smul_c {x y : Int} {a : Option Addr} {n c : Nat} {a2 : Option Addr} {n2 c2 : Nat} {w : World} (h : NatAt w a n c (digs x.natAbs)) (h2 : NatAt w a2 n2 c2 (digs y.natAbs)) (hs : n ≤ 68719476736) (hs2 : n2 ≤ 68719476736) :
    Calls Try.prog 49 #[.agg #[.bool (neg x), .slice a n c], .agg #[.bool (neg y), .slice a2 n2 c2]] w (RetInt w (x * y)) := by
  have := smul_any (neg x) a n c _ (neg y) a2 n2 c2 _ w h h2 hs hs2
  rwa [sg_canon, sg_canon] at this
theorem scmp_c {x y : Int} {a : Option Addr} {n c : Nat} {a2 : Option Addr} {n2 c2 : Nat} {w : World} (h : NatAt w a n c (digs x.natAbs)) (h2 : NatAt w a2 n2 c2 (digs y.natAbs)) (hs : n ≤ 274877906944) (hs2 : n2 ≤ 274877906944) :
    Calls Try.prog 55 #[.agg #[.bool (neg x), .slice a n c], .agg #[.bool (neg y), .slice a2 n2 c2]] w (RetVal w (.int .i64 (x - y).sign)) := by
  have := scmp_any (neg x) a n c _ (neg y) a2 n2 c2 _ w h h2 hs hs2
  rwa [sg_canon, sg_canon] at this
theorem sneg_c {x : Int} {a : Option Addr} {n c : Nat} {w : World} (h : NatAt w a n c (digs x.natAbs)) (hs : n ≤ 1099511627776) :
    Calls Try.prog 50 #[.agg #[.bool (neg x), .slice a n c]] w (RetInt w (-x)) := by
  have := sneg_any (neg x) a n c _ w h hs
  rwa [sg_canon] at this
theorem sign_c {x : Int} {a : Option Addr} {n c : Nat} {w : World} (h : NatAt w a n c (digs x.natAbs)) (hs : n ≤ 1099511627776) :
    Calls Try.prog 45 #[.agg #[.bool (neg x), .slice a n c]] w (RetVal w (.int .i64 x.sign)) := by
  have := sign_any (neg x) a n c _ w h hs
  rwa [sg_canon] at this
theorem sone_c {x : Int} {a : Option Addr} {n c : Nat} {w : World} (h : NatAt w a n c (digs x.natAbs)) :
    Calls Try.prog 38 #[.agg #[.bool (neg x), .slice a n c]] w (RetVal w (.tuple #[.int .i64 (oneI x), .bool (isI x)])) := by
  have := sone_any (neg x) a n c _ w h
  rwa [sg_canon] at this
theorem chkZ_canon (x : Int) : chkZ (neg x) (digs x.natAbs) = 0 := by
  unfold chkZ
  rw [if_neg, chk_top.2 (top_digs _)]
  rintro ⟨h1, h2⟩
  have := digs_eq_nil.1 h2
  have h3 := of_decide_eq_true h1
  omega
theorem scheck_c {x : Int} {a : Option Addr} {n c : Nat} {w : World} (h : NatAt w a n c (digs x.natAbs)) :
    Calls Try.prog 43 #[.agg #[.bool (neg x), .slice a n c]] w (RetVal w (.int .i64 0)) := by
  have := scheck_any (neg x) a n c _ w h
  rwa [chkZ_canon] at this

/-! how long sums and products are -/
theorem ilen_add {x y : Int} {p q : Nat} (h1 : (digs x.natAbs).length ≤ p) (h2 : (digs y.natAbs).length ≤ q) : (digs (x + y).natAbs).length ≤ max p q + 1 := by
  have h := digs_len_mono (a := (x + y).natAbs) (b := x.natAbs + y.natAbs) (by omega)
  have h3 := digs_len_add x.natAbs y.natAbs
  omega
theorem ilen_sub {x y : Int} {p q : Nat} (h1 : (digs x.natAbs).length ≤ p) (h2 : (digs y.natAbs).length ≤ q) : (digs (x - y).natAbs).length ≤ max p q + 1 := by
  have h := digs_len_mono (a := (x - y).natAbs) (b := x.natAbs + y.natAbs) (by omega)
  have h3 := digs_len_add x.natAbs y.natAbs
  omega
theorem ilen_mul {x y : Int} {p q : Nat} (h1 : (digs x.natAbs).length ≤ p) (h2 : (digs y.natAbs).length ≤ q) : (digs (x * y).natAbs).length ≤ p + q := by
  rw [Int.natAbs_mul]
  have h3 := digs_len_prod x.natAbs y.natAbs
  omega
theorem ilen_neg {x : Int} {p : Nat} (h1 : (digs x.natAbs).length ≤ p) : (digs (-x).natAbs).length ≤ p := by
  rwa [Int.natAbs_neg]

end Go.Proofs.Ytlljljhiimeajaa
