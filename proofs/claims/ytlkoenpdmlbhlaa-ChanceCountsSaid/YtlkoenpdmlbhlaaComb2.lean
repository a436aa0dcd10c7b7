/- plain numbers: in how many ways things are put into groups. -/
import Derived.Test.YtlkoenpdmlbhlaaComb
set_option linter.unusedVariables false
set_option linter.unusedSimpArgs false
namespace Go.Proofs.Ytlkoenpdmlbhlaa

/-- s things, put into groups of these sizes -/
def multi : Nat → List Nat → Nat
  | _, [] => 1
  | s, z :: r => ch s z * multi (s - z) r
def fct : Nat → Nat
  | 0 => 1
  | n + 1 => (n + 1) * fct n
theorem ch_pos : ∀ {n k : Nat}, k ≤ n → 0 < ch n k
  | n, 0, _ => by rw [ch_zero]; decide
  | 0, k + 1, h => by omega
  | n + 1, k + 1, h => by rw [ch_succ]; have := ch_pos (show k ≤ n by omega); omega
theorem ch_fct {s : Nat} : ∀ z, z ≤ s → ch s z * fct (s - z) ≤ fct s
  | 0, _ => by rw [ch_zero, Nat.one_mul]; exact Nat.le_refl _
  | z + 1, h => by
    have ih := ch_fct (s := s) z (by omega)
    have h2 := ch_step (n := s) (k := z) (by omega)
    have h3 : ch s (z + 1) ≤ ch s z * (s - z) := by rw [h2]; exact Nat.le_mul_of_pos_right _ (Nat.succ_pos z)
    have e : s - z = (s - (z + 1)) + 1 := by omega
    have h4 : fct (s - z) = (s - z) * fct (s - (z + 1)) := by rw [e]; simp only [fct, Nat.add_sub_cancel]
    rw [h4] at ih
    refine Nat.le_trans (Nat.mul_le_mul_right _ h3) ?_
    rw [Nat.mul_assoc]; exact ih
theorem multi_fct : ∀ (l : List Nat) (s : Nat), l.sum ≤ s → multi s l ≤ fct s
  | [], s, _ => by
    unfold multi
    induction s with
    | zero => decide
    | succ n ih => exact Nat.le_trans (ih (by simp)) (Nat.le_mul_of_pos_left (fct n) (Nat.succ_pos n))
  | z :: r, s, h => by
    simp only [List.sum_cons] at h
    have ih := multi_fct r (s - z) (by omega)
    unfold multi
    exact Nat.le_trans (Nat.mul_le_mul_left _ ih) (ch_fct z (by omega))
theorem multi_pos : ∀ (l : List Nat) (s : Nat), l.sum ≤ s → 0 < multi s l
  | [], s, _ => by unfold multi; decide
  | z :: r, s, h => by
    simp only [List.sum_cons] at h
    unfold multi
    exact Nat.mul_pos (ch_pos (by omega)) (multi_pos r (s - z) (by omega))
theorem fct_len : ∀ s, s < 18446744073709551616 → (digs (fct s)).length ≤ s + 1
  | 0, _ => show (digs 1).length ≤ 1 from digs_length_le.2 (by decide)
  | n + 1, h => by
    unfold fct
    rw [Nat.mul_comm]
    exact len_mulN (fct_len n (by omega)) (digs_length_le.2 (by rw [Nat.pow_one]; exact h))
theorem multi_len {l : List Nat} {s : Nat} (h : l.sum ≤ s) (hs : s ≤ 65536) : (digs (multi s l)).length ≤ 65537 := by
  have h1 := digs_len_mono (multi_fct l s h)
  have h2 := fct_len s (by omega)
  omega
theorem sum_take_succ {l : List Nat} {k : Nat} (h : k < l.length) : (l.take (k + 1)).sum = (l.take k).sum + l.getD k 0 := by
  rw [List.take_add_one, List.sum_append, List.getElem?_eq_getElem h, List.getD_eq_getElem?_getD, List.getElem?_eq_getElem h]
  simp
theorem sum_take_le (l : List Nat) (k : Nat) : (l.take k).sum ≤ l.sum := by
  have : l.sum = (l.take k).sum + (l.drop k).sum := by rw [← List.sum_append, List.take_append_drop]
  omega
theorem drop_cons {l : List Nat} {k : Nat} (h : k < l.length) : l.drop k = l.getD k 0 :: l.drop (k + 1) := by
  rw [List.drop_eq_getElem_cons h, List.getD_eq_getElem?_getD, List.getElem?_eq_getElem h]; rfl

end Go.Proofs.Ytlkoenpdmlbhlaa
