/- times, sixth part: Power. -/
import Derived.Test.YtmhjhhcdjecdbaaA3
import Derived.Test.YtmhjhhcdjecdbaaTimes5
set_option linter.unusedVariables false
set_option linter.unusedSimpArgs false
namespace Go.Proofs.Ytmhjhhcdjecdbaa
open Go.RowKit Go.Shelf
attribute [local go_sem] Oper.semAt_some

theorem NatAt.kept {A B : World} {row : Option Nat} {a : Option Addr} {n c : Nat} {l : List Nat} (h : NatAt A a n c l) (hg : A.grownBy B row) (hr : ∀ r, row = some r → ∃ o : Obj, A.heap[r]? = some o ∧ o.isCells = false) : NatAt B a n c l := by
  refine ⟨h.len, h.le, h.cle, h.dig, ?_, h.nilc⟩
  rcases h.cell with h0 | ⟨b, o, he, hc⟩
  · exact .inl h0
  · exact .inr ⟨b, o, he, fun i hi => cell_kept (hc i hi) hg hr⟩
theorem OwnAt.kept {A B : World} {C : Nat} {row : Option Nat} {a : Option Addr} {n c : Nat} {l : List Nat} (h : OwnAt A C a n c l) (hg : A.grownBy B row) (hr : ∀ r, row = some r → ∃ o : Obj, A.heap[r]? = some o ∧ o.isCells = false) : OwnAt B C a n c l := by
  refine ⟨h.toNatAt.kept hg hr, ?_⟩
  rcases h.own with h0 | ⟨b, o, he, hB, hf⟩
  · exact .inl h0
  · rcases h.cell with h0 | ⟨b', o', he', hc⟩
    · exact .inl h0
    · rw [he] at he'
      cases he'
      exact .inr ⟨b, o, he, hB, fun i hi => (frozen_kept (hc i hi) hg hr).trans (hf i hi)⟩
theorem KeepsOthers.of_below {W W' : World} (h : Below W.heap.size W W') : KeepsOthers W W' :=
  ⟨h.size, fun k o hk ho => (h.block k (Array.getElem?_eq_some_iff.1 hk).1).trans hk⟩
theorem OwnAt.setPast {w : World} {B : Nat} {a : Option Addr} {n c : Nat} {l : List Nat} (h : OwnAt w B a n c l) {b : Nat} (hb : b < B) (v : Value) : OwnAt (w.setCell ⟨b, 0, none⟩ v) B a n c l := by
  refine ⟨⟨h.len, h.le, h.cle, h.dig, ?_, h.nilc⟩, ?_⟩
  · rcases h.cell with h0 | ⟨b', o, he, hc⟩
    · exact .inl h0
    · rcases h.own with h0 | ⟨b2, o2, he2, hB, hf⟩
      · exact .inl h0
      · rw [he] at he2
        cases he2
        refine .inr ⟨b', o, he, fun i hi => ?_⟩
        rw [World.cell?_setCell_other _ (a := ⟨b, 0, none⟩) (b := ⟨b', o + i, none⟩) _ (fun e => by have := congrArg Addr.block e; simp at this; omega)]
        exact hc i hi
  · rcases h.own with h0 | ⟨b2, o2, he2, hB, hf⟩
    · exact .inl h0
    · exact .inr ⟨b2, o2, he2, hB, fun i hi => by rw [World.frozen?_setCell]; exact hf i hi⟩
theorem num_lt_from : ∀ (l : List Bool) (s : Nat), l.foldl (fun s b => 2 * s + b.toNat) s < (s + 1) * 2 ^ l.length
  | [], s => by simp
  | b :: r, s => by
    have h := num_lt_from r (2 * s + b.toNat)
    have hb : b.toNat ≤ 1 := by cases b <;> decide
    have h2 : (2 * s + b.toNat + 1) * 2 ^ r.length ≤ (2 * s + 2) * 2 ^ r.length := Nat.mul_le_mul_right _ (by omega)
    rw [List.length_cons, Nat.pow_succ, List.foldl_cons, show (s + 1) * (2 ^ r.length * 2) = (2 * s + 2) * 2 ^ r.length by rw [show 2 * s + 2 = (s + 1) * 2 by omega, Nat.mul_assoc, Nat.mul_comm 2]]
    omega
theorem num_lt (l : List Bool) : num l < 2 ^ l.length := by
  have := num_lt_from l 0
  rwa [Nat.zero_add, Nat.one_mul] at this

/-- how long powers are -/
theorem pow_len {x e N : Nat} (h : e * nbits x ≤ N) (k : Nat) (hk : k ≤ e) : (digs (x ^ k)).length ≤ N / 64 + 1 := by
  rw [digs_length_le, B_pow]
  have h1 : x ^ k ≤ (2 ^ nbits x) ^ k := Nat.pow_le_pow_left (Nat.le_of_lt (nbits_lt x)) k
  rw [← Nat.pow_mul] at h1
  refine Nat.lt_of_le_of_lt h1 (Nat.pow_lt_pow_right (by decide) ?_)
  have h2 : nbits x * k ≤ nbits x * e := Nat.mul_le_mul_left _ hk
  rw [Nat.mul_comm e] at h
  omega

/-- a round's store of the number so far -/
theorem round_store {W w5 : World} {BO BA B1 e : Nat} {a a5 : Option Addr} {n c n5 c5 : Nat} {L : List Nat} {v0 : Value} (hb5 : Below W.heap.size W w5) (h5 : OwnAt w5 W.heap.size a5 n5 c5 L) (lO : BO < W.heap.size) (hAO : BA ≠ BO) (h1O : B1 ≠ BO)
    (k1 : W.cell? ⟨BO, 0, none⟩ = some v0) (k2 : W.frozen? ⟨BO, 0, none⟩ = false) (k4 : W.cell? ⟨BA, 0, none⟩ = some (.slice a n c)) :
    KeepsOthers W (w5.setCell ⟨BO, 0, none⟩ (.slice a5 n5 c5)) ∧ KeepN B1 e W (w5.setCell ⟨BO, 0, none⟩ (.slice a5 n5 c5)) ∧
    (w5.setCell ⟨BO, 0, none⟩ (.slice a5 n5 c5)).cell? ⟨BO, 0, none⟩ = some (.slice a5 n5 c5) ∧ (w5.setCell ⟨BO, 0, none⟩ (.slice a5 n5 c5)).frozen? ⟨BO, 0, none⟩ = false ∧
    OwnAt (w5.setCell ⟨BO, 0, none⟩ (.slice a5 n5 c5)) W.heap.size a5 n5 c5 L ∧ (w5.setCell ⟨BO, 0, none⟩ (.slice a5 n5 c5)).cell? ⟨BA, 0, none⟩ = some (.slice a n c) := by
  refine ⟨(KeepsOthers.of_below hb5).trans (KeepsOthers.setCell _ _ _), fun hk => ?_, ?_, ?_, h5.setPast lO _, ?_⟩
  · rw [World.cell?_setCell_other _ (a := ⟨BO, 0, none⟩) (b := ⟨B1, 0, none⟩) _ (fun e => h1O (by have := congrArg Addr.block e; exact this.symm))]
    exact (hb5.cell (p := ⟨B1, 0, none⟩) (World.block_lt_of_cell? W _ hk)).trans hk
  · exact World.cell?_setCell_same _ _ _ ((hb5.cell (p := ⟨BO, 0, none⟩) lO).trans k1)
  · rw [World.frozen?_setCell]; exact (hb5.frozen (p := ⟨BO, 0, none⟩) lO).trans k2
  · rw [World.cell?_setCell_other _ (a := ⟨BO, 0, none⟩) (b := ⟨BA, 0, none⟩) _ (fun e => hAO (by have := congrArg Addr.block e; exact this.symm))]
    exact (hb5.cell (p := ⟨BA, 0, none⟩) (World.block_lt_of_cell? W _ k4)).trans k4

end Go.Proofs.Ytmhjhhcdjecdbaa
