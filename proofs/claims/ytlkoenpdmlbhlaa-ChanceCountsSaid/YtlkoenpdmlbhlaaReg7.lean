/- Regions that draw, by an invariant: edges that do not bind are left out. No program. -/
import Derived.Test.YtlkoenpdmlbhlaaReg6
set_option linter.unusedVariables false
set_option linter.unusedSimpArgs false
namespace Go.Proofs.Ytlkoenpdmlbhlaa
open Go.RowKit

section
variable {P : Program} {ops : Array Oper} {Q : Exit → Act → World → Prop}
/-- edges lead back in the text -/
def lowerA (ops : Array Oper) : Bool := (List.range ops.size).all fun i => match ops[i]? with
  | some o => o.after.all fun e => !Region.binds .any e || decide (e.on < i)
  | none => true
theorem lower_specA (h : lowerA ops = true) {i : Nat} {o : Oper} (ho : ops[i]? = some o) : ∀ e ∈ o.after, Region.binds .any e = true → e.on < i := by
  have hlt : i < ops.size := (Array.getElem?_eq_some_iff.1 ho).1
  unfold lowerA at h
  rw [List.all_eq_true] at h
  have := h i (List.mem_range.2 hlt)
  rw [ho] at this
  simp only [Array.all_eq_true_iff_forall_mem] at this
  intro e he hb
  have := this e he
  rw [hb] at this
  simpa using this

theorem all_listedA (hl : lowerA ops = true) {listed : Array Bool} (hs : listed.size = ops.size) (hr : Region.ready .any ops listed = []) : ∀ j, j < ops.size → listed.getD j false = true := by
  intro j
  induction j using Nat.strongRecOn with
  | ind j ih =>
    intro hj
    cases hd : listed.getD j false with
    | true => rfl
    | false =>
      exfalso
      have hm : j ∈ Region.ready .any ops listed := by
        rw [mem_ready]
        have hjs : j < listed.size := by omega
        refine ⟨?_, ops[j], Array.getElem?_eq_getElem hj, fun e he hb => ?_⟩
        · simp only [Array.getD, hjs, dite_true] at hd ⊢
          exact hd
        · have := lower_specA hl (Array.getElem?_eq_getElem hj) e he hb
          exact ih e.on this (by omega)
      rw [hr] at hm
      cases hm

theorem wpAny_invA {I : (Nat → Bool) → Act → World → Prop} (hl : lowerA ops = true) (hs : Steps P ops Q I 0 ops.toList)
    (he : ∀ d a w, (∀ j, j < ops.size → d j = true) → I d a w → Q .normal a w) :
    ∀ (fuel : Nat) (listed : Array Bool) (a : Act) (w : World), listed.size = ops.size → unl listed ≤ fuel → Closed ops (fun j => listed.getD j false) → I (fun j => listed.getD j false) a w → wpAny P .any ops Q fuel listed a w := by
  intro fuel
  induction fuel with
  | zero =>
    intro listed a w hsz hu hc hI
    have hall : ∀ j, j < ops.size → listed.getD j false = true := by
      intro j hj
      have hjs : j < listed.size := by omega
      cases hd : listed.getD j false with
      | true => rfl
      | false =>
        exfalso
        have h1 := count_set_true listed.toList j (by simp only [Array.getD, hjs, dite_true] at hd; simp [hjs]; exact hd)
        unfold unl at hu
        omega
    have hr : Region.ready .any ops listed = [] := by
      apply List.eq_nil_iff_forall_not_mem.2
      intro j hj
      obtain ⟨h0, o, ho, _⟩ := mem_ready.1 hj
      have hlt : j < ops.size := (Array.getElem?_eq_some_iff.1 ho).1
      have hjs : j < listed.size := by omega
      have := hall j hlt
      simp only [Array.getD, hjs, dite_true] at this h0
      rw [this] at h0
      cases h0
    exact ⟨hr, he _ _ _ hall hI⟩
  | succ fuel ih =>
    intro listed a w hsz hu hc hI
    refine ⟨fun hr => he _ _ _ (all_listedA hl hsz hr) hI, fun i hi => ?_⟩
    obtain ⟨h0, o, ho, hall⟩ := mem_ready.1 hi
    have hlt : i < ops.size := (Array.getElem?_eq_some_iff.1 ho).1
    have hjs : i < listed.size := by omega
    have hf : listed[i] = false := by simpa [Array.getD, hjs] using h0
    refine wpOp_step ho (fun K' hK => ?_)
    refine hs.at_ i o (by rw [Array.getElem?_toList]; exact ho) (fun j => listed.getD j false) a w K' hc (by simpa [Array.getD, hjs] using hf) (fun e he' hb => hall e (by simpa using he') hb) hI (fun a' w' h' => hK a' w' ?_)
    rw [Nat.zero_add] at h'
    refine ih _ a' w' (by simp [hsz]) ?_ (by rw [getD_upd hjs]; exact hc.upd ho hall) (by rw [getD_upd hjs]; exact h')
    have h1 := count_set_true listed.toList i (by simp [hjs, hf])
    unfold unl at hu ⊢
    rw [Array.toList_setIfInBounds]
    omega

/-- **a region that draws, by an invariant** -/
theorem wp_region_invA {id : Nat} {a : Act} {w : World} {l : List Oper} (hm : P.follows .mixedOrders = true) (ho : ops = l.toArray) (hl : lowerA ops = true) (I : Act → World → (Nat → Bool) → Act → World → Prop)
    (hb : I a w (fun _ => false) a w.drew) (hs : Steps P ops Q (I a w) 0 l)
    (he : ∀ d a' w', (∀ j, j < ops.size → d j = true) → I a w d a' w' → Q .normal a' w') : (Code.region id ops true).wp P Q a w := by
  refine wp_region_any hm ?_
  refine wpAny_invA (I := I a w) hl (by rw [ho]; rw [ho] at hs; exact hs) he ops.size _ a _ (by simp) (by simp [unl]) ?_ ?_
  all_goals rw [show (fun j => (Array.replicate ops.size false).getD j false) = fun _ => false by
    funext j
    simp only [Array.getD_eq_getD_getElem?, Array.getElem?_replicate]
    split <;> rfl]
  · intro i o _ h; cases h
  · exact hb
end

end Go.Proofs.Ytlkoenpdmlbhlaa
