import Derived.Deep.RegionHeld3
import Derived.WalkKit
import Derived.BigRegion
import Derived.Deep.RegionWith
import Derived.Test.YtoecndogaklngaaS0Do
import Derived.Test.YtoecndogaklngaaLimbs3Do
import Derived.Test.YtoecndogaklngaaLimbs5Do
set_option linter.unusedVariables false
set_option linter.unusedSimpArgs false
namespace Go.Proofs.Ytoecndogaklngaa
def upd (d : Nat → Bool) (i : Nat) : Nat → Bool := fun j => j == i || d j
theorem upd_of {d : Nat → Bool} {i j : Nat} (hne : (j == i) = false) (h : upd d i j = true) : d j = true := by simpa [upd, hne] using h
theorem uo {d : Nat → Bool} {i j : Nat} {P : Prop} (f : Shut (d j = true → P)) (hne : (j == i) = false) : upd d i j = true → P := fun h => f.out (upd_of hne h)

section
variable {P : Program} {ops : Array Oper} {Q : Exit → Act → World → Prop}
def Closed (ops : Array Oper) (d : Nat → Bool) : Prop := ∀ (i : Nat) (o : Oper), ops[i]? = some o → d i = true → ∀ e ∈ o.after, Region.binds .any e = true → d e.on = true
def reach (ops : Array Oper) : Nat → Nat → Nat → Bool
 | 0, _, _ => false
 | f + 1, s, l => match ops[s]? with
   | some o => o.after.any fun e => Region.binds .any e && (e.on == l || reach ops f e.on l)
   | none => false
theorem Closed.reach {ops : Array Oper} {d : Nat → Bool} (hc : Closed ops d) : ∀ {f s l : Nat}, reach ops f s l = true → d s = true → d l = true
 | 0, _, _, h, _ => by simp [Go.Proofs.Ytoecndogaklngaa.reach] at h
 | f + 1, s, l, h, hs => by
   unfold Go.Proofs.Ytoecndogaklngaa.reach at h
   split at h
   · rename_i o ho
     obtain ⟨e, he, hb⟩ := Array.any_eq_true'.1 h
     simp only [Bool.and_eq_true, Bool.or_eq_true, beq_iff_eq] at hb
     have hd := hc s o ho hs e he hb.1
     rcases hb.2 with hl | hr
     · rw [← hl]; exact hd
     · exact hc.reach hr hd
   · cases h
theorem Closed.upd {ops : Array Oper} {d : Nat → Bool} (hc : Closed ops d) {i : Nat} {o : Oper} (ho : ops[i]? = some o) (h : ∀ e ∈ o.after, Region.binds .any e = true → d e.on = true) : Closed ops (upd d i) := by
 intro j o' hj hd e he hb
 unfold Go.Proofs.Ytoecndogaklngaa.upd at hd ⊢
 by_cases ej : j = i
 · subst ej; rw [ho] at hj; cases hj; simp [h e he hb]
 · have : d j = true := by simpa [ej] using hd
   simp [hc j o' hj this e he hb]
theorem upd_off {d : Nat → Bool} {i j : Nat} (h : upd d i j = false) : d j = false := by
 unfold upd at h
 simp at h
 exact h.2
theorem rc {ops : Array Oper} {d : Nat → Bool} (hc : Closed ops d) {s l : Nat} (h : d s = true) (hr : Go.Proofs.Ytoecndogaklngaa.reach ops 8 s l = true := by decide +kernel) : d l = true := hc.reach hr h
def Steps (P : Program) (ops : Array Oper) (Q : Exit → Act → World → Prop) (I : (Nat → Bool) → Act → World → Prop) : Nat → List Oper → Prop
 | _, [] => True
 | i, o :: r => (∀ (d : Nat → Bool) (a : Act) (w : World) (K : Act → World → Prop), Closed ops d → d i = false → (∀ e ∈ o.after.toList, Region.binds .any e = true → d e.on = true) → I d a w → Shut (∀ a' w', I (upd d i) a' w' → K a' w') →
    if Region.wanted o (yielded ops a.tmps) = true then Oper.wp P o a w K Q else K (a.put o.dst undef) w) ∧ Steps P ops Q I (i + 1) r
theorem Steps.nil {I : (Nat → Bool) → Act → World → Prop} {i : Nat} : Steps P ops Q I i [] := trivial
theorem Steps.cons {I : (Nat → Bool) → Act → World → Prop} {i : Nat} {o : Oper} {r : List Oper}
 (h : ∀ (d : Nat → Bool) (a : Act) (w : World) (K : Act → World → Prop), Closed ops d → d i = false → (∀ e ∈ o.after.toList, Region.binds .any e = true → d e.on = true) → I d a w → Shut (∀ a' w', I (upd d i) a' w' → K a' w') →
   if Region.wanted o (yielded ops a.tmps) = true then Oper.wp P o a w K Q else K (a.put o.dst undef) w) (hr : Steps P ops Q I (i + 1) r) : Steps P ops Q I i (o :: r) := ⟨h, hr⟩
theorem Steps.at_ {I : (Nat → Bool) → Act → World → Prop} : ∀ {l : List Oper} {k : Nat}, Steps P ops Q I k l → ∀ (i : Nat) (o : Oper), l[i]? = some o →
 ∀ (d : Nat → Bool) (a : Act) (w : World) (K : Act → World → Prop), Closed ops d → d (k + i) = false → (∀ e ∈ o.after.toList, Region.binds .any e = true → d e.on = true) → I d a w → Shut (∀ a' w', I (upd d (k + i)) a' w' → K a' w') →
  if Region.wanted o (yielded ops a.tmps) = true then Oper.wp P o a w K Q else K (a.put o.dst undef) w
 | [], _, _, i, o, ho => by simp at ho
 | x :: r, k, h, 0, o, ho => by simp at ho; subst ho; exact h.1
 | x :: r, k, h, i + 1, o, ho => by
   have := h.2.at_ i o (by simpa using ho)
   rw [show k + (i + 1) = k + 1 + i by omega]
   exact this
def lower (ops : Array Oper) : Bool := (List.range ops.size).all fun i => match ops[i]? with
 | some o => o.after.all fun e => decide (e.on < i)
 | none => true
theorem lower_spec (h : lower ops = true) {i : Nat} {o : Oper} (ho : ops[i]? = some o) : ∀ e ∈ o.after, e.on < i := by
 have hlt : i < ops.size := (Array.getElem?_eq_some_iff.1 ho).1
 unfold lower at h
 rw [List.all_eq_true] at h
 have := h i (List.mem_range.2 hlt)
 rw [ho] at this
 simp only [Array.all_eq_true_iff_forall_mem, decide_eq_true_eq] at this
 exact this
theorem all_listed (hl : lower ops = true) {listed : Array Bool} (hs : listed.size = ops.size) (hr : Region.ready .any ops listed = []) : ∀ j, j < ops.size → listed.getD j false = true := by
 intro j
 induction j using Nat.strongRecOn with
 | ind j ih =>
   intro hj
   cases hd : listed.getD j false with
   | true => rfl
   | false =>
     exfalso
     have hm : j ∈ Region.ready .any ops listed := by
      rw [mem_ready]
      have hjs : j < listed.size := by omega
      refine ⟨?_, ops[j], Array.getElem?_eq_getElem hj, fun e he _ => ?_⟩
      · simp only [Array.getD, hjs, dite_true] at hd ⊢
        exact hd
      · have := lower_spec hl (Array.getElem?_eq_getElem hj) e he
        exact ih e.on this (by omega)
     rw [hr] at hm
     cases hm
def unl (listed : Array Bool) : Nat := listed.toList.count false
theorem count_set_true : ∀ (l : List Bool) (i : Nat), l[i]? = some false → (l.set i true).count false + 1 = l.count false
 | [], _, h => by simp at h
 | x :: r, 0, h => by simp at h; subst h; simp
 | x :: r, i + 1, h => by
   have := count_set_true r i (by simpa using h)
   simp only [lsS, List.count_cons]
   omega
theorem getD_upd {listed : Array Bool} {i : Nat} (hi : i < listed.size) : (fun j => (listed.setIfInBounds i true).getD j false) = upd (fun j => listed.getD j false) i := by
 funext j
 by_cases e : j = i
 · subst e; simp [upd, hi]
 · have : i ≠ j := fun h => e h.symm
   simp [upd, e, Array.getElem?_setIfInBounds_ne this]
theorem wpAny_inv {I : (Nat → Bool) → Act → World → Prop} (hl : lower ops = true) (hs : Steps P ops Q I 0 ops.toList)
 (he : ∀ d a w, (∀ j, j < ops.size → d j = true) → I d a w → Q .normal a w) :
 ∀ (fuel : Nat) (listed : Array Bool) (a : Act) (w : World), listed.size = ops.size → unl listed ≤ fuel → Closed ops (fun j => listed.getD j false) → I (fun j => listed.getD j false) a w → wpAny P .any ops Q fuel listed a w := by
 intro fuel
 induction fuel with
 | zero =>
   intro listed a w hsz hu hc hI
   have hall : ∀ j, j < ops.size → listed.getD j false = true := by
    intro j hj
    have hjs : j < listed.size := by omega
    cases hd : listed.getD j false with
    | true => rfl
    | false =>
      exfalso
      have h1 := count_set_true listed.toList j (by simp only [Array.getD, hjs, dite_true] at hd; simp [hjs]; exact hd)
      unfold unl at hu
      omega
   have hr : Region.ready .any ops listed = [] := by
    apply List.eq_nil_iff_forall_not_mem.2
    intro j hj
    obtain ⟨h0, o, ho, _⟩ := mem_ready.1 hj
    have hlt : j < ops.size := (Array.getElem?_eq_some_iff.1 ho).1
    have hjs : j < listed.size := by omega
    have := hall j hlt
    simp only [Array.getD, hjs, dite_true] at this h0
    rw [this] at h0
    cases h0
   exact ⟨hr, he _ _ _ hall hI⟩
 | succ fuel ih =>
   intro listed a w hsz hu hc hI
   refine ⟨fun hr => he _ _ _ (all_listed hl hsz hr) hI, fun i hi => ?_⟩
   obtain ⟨h0, o, ho, hall⟩ := mem_ready.1 hi
   have hlt : i < ops.size := (Array.getElem?_eq_some_iff.1 ho).1
   have hjs : i < listed.size := by omega
   have hf : listed[i] = false := by simpa [Array.getD, hjs] using h0
   refine wpOp_step ho (fun K' hK => ?_)
   refine hs.at_ i o (by rw [Array.getElem?_toList]; exact ho) (fun j => listed.getD j false) a w K' hc (by simpa [Array.getD, hjs] using hf) (fun e he' hb => hall e (by simpa using he') hb) hI (fun a' w' h' => hK a' w' ?_)
   rw [Nat.zero_add] at h'
   refine ih _ a' w' (by simp [hsz]) ?_ (by rw [getD_upd hjs]; exact hc.upd ho hall) (by rw [getD_upd hjs]; exact h')
   have h1 := count_set_true listed.toList i (by simp [hjs, hf])
   unfold unl at hu ⊢
   rw [Array.toList_setIfInBounds]
   omega
def puts (a : Act) : List (Tmp × Value) → Act
 | [] => a
 | (t, v) :: r => puts (a.put (some t) v) r
theorem put_self (a : Act) (t : Tmp) : a.put (some t) (a.tmps.getD t undef) = a := by
 obtain ⟨v, ds⟩ := a
 simp only [Act.put]
 congr 1
 by_cases h : t < v.size
 · apply Array.ext_getElem?
   intro j
   rw [Array.getElem?_setIfInBounds]
   split
   · rename_i e; subst e; simp [Array.getD, h]
   · rfl
 · rw [Array.setIfInBounds]
   simp [h]
theorem puts_self (a : Act) : ∀ l : List Tmp, a = puts a (l.map fun t => (t, a.tmps.getD t undef))
 | [] => rfl
 | t :: r => by
   simp only [List.map_cons, puts]
   rw [put_self]
   exact puts_self a r
theorem wp_region_inv {id : Nat} {a : Act} {w : World} {l : List Oper} (hm : P.follows .mixedOrders = true) (ho : ops = l.toArray) (hl : lower ops = true) (I : Act → World → (Nat → Bool) → Act → World → Prop)
 (hb : I a w (fun _ => false) a w.drew) (hs : Steps P ops Q (I a w) 0 l)
 (he : ∀ d a' w', (∀ j, j < ops.size → d j = true) → I a w d a' w' → Q .normal a' w') : (Code.region id ops true).wp P Q a w := by
 refine wp_region_any hm ?_
 refine wpAny_inv (I := I a w) hl (by rw [ho]; rw [ho] at hs; exact hs) he ops.size _ a _ (by simp) (by simp [unl]) ?_ ?_
 all_goals rw [show (fun j => (Array.replicate ops.size false).getD j false) = fun _ => false by
  funext j
  simp only [Array.getD_eq_getD_getElem?, Array.getElem?_replicate]
  split <;> rfl]
 · intro i o _ h; cases h
 · exact hb
end
end Go.Proofs.Ytoecndogaklngaa
set_option linter.unusedVariables false
set_option linter.unusedSimpArgs false
namespace Go.Proofs.Ytoecndogaklngaa
open Go.RowKit
def cellsOf : Value → List Value
 | .agg vs => vs.toList
 | v => [v]
def Cells (w : World) (b : Nat) (vs : List Value) : Prop := ∀ k, k < vs.length → w.cell? ⟨b, k, none⟩ = vs[k]?
theorem Cells.past {w w' : World} {b : Nat} {vs : List Value} (h : Cells w b vs) (hb : Below w.heap.size w w') (hl : b < w.heap.size) : Cells w' b vs := fun k hk => (hb.cell (p := ⟨b, k, none⟩) hl).trans (h k hk)
end Go.Proofs.Ytoecndogaklngaa
set_option linter.unusedVariables false
set_option linter.unusedSimpArgs false
namespace Go.Proofs.Ytoecndogaklngaa
open Go.RowKit
def LstV (B n : Nat) (cs : List Value) (y : Value) (w : World) : Prop := ∃ g, y = .slice (some ⟨g, 0, none⟩) n n ∧ B ≤ g ∧ g < w.heap.size ∧ Cells w g cs
theorem LstV.past {B n : Nat} {cs : List Value} {y : Value} {w w' : World} (h : LstV B n cs y w) (hb : Below w.heap.size w w') : LstV B n cs y w' := by
 obtain ⟨g, e, h1, h2, h3⟩ := h; exact ⟨g, e, h1, Nat.lt_of_lt_of_le h2 hb.size, h3.past hb h2⟩
theorem LstV.new {B n : Nat} {w : World} (hB : B ≤ w.heap.size) (cs : List Value) (E : Nat) : LstV B n cs (.slice (some ⟨w.heap.size, 0, none⟩) n n) (w.alloc (.cells cs.toArray E)) :=
 ⟨_, rfl, hB, by simp, fun k hk => by rw [World.cell?_alloc_at _ _ _ _ rfl, lgA]⟩
end Go.Proofs.Ytoecndogaklngaa
