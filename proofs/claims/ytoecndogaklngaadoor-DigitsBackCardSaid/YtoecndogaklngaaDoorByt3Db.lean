import Derived.Laws.OwnMore
import Derived.Test.YtoecndogaklngaaDoorS0Db
import Derived.Test.YtoecndogaklngaaDoorNumDb
import Derived.Test.YtoecndogaklngaaDoorLimbs1Db
set_option linter.unusedVariables false
set_option linter.unusedSimpArgs false
namespace Go.Proofs.YtoecndogaklngaaDoor
open Go.RowKit
def bytV (H X j : Nat) : Nat := H * 256 ^ (8 - j) + X / 256 ^ j
theorem bytV_step {H X j : Nat} (hj : j < 8) : bytV H X j = bytV H X (j + 1) * 256 + X / 256 ^ j % 256 := by
 unfold bytV
 have e1 : X / 256 ^ (j + 1) = X / 256 ^ j / 256 := by rw [Nat.pow_succ, Nat.div_div_eq_div_mul]
 rw [e1, show 8 - j = (8 - (j + 1)) + 1 by omega, Nat.pow_succ, Nat.add_mul, Nat.mul_assoc]
 have := Nat.div_add_mod (X / 256 ^ j) 256
 omega
theorem bytV_top {H X : Nat} (hX : X < 18446744073709551616) : bytV H X 8 = H := by
 unfold bytV
 rw [Nat.sub_self, Nat.pow_zero, Nat.mul_one, Nat.div_eq_of_lt (by rw [show (256 : Nat) ^ 8 = 18446744073709551616 by decide]; exact hX)]
 rfl
theorem bytV_all (H X : Nat) : bytV H X 0 = H * 18446744073709551616 + X := by
 unfold bytV
 rw [Nat.pow_zero, Nat.div_one, show (256 : Nat) ^ (8 - 0) = 18446744073709551616 by decide]
theorem row_shape {w : World} {base size n : Nat} {e : TypeId} {v : Value} {xs : List Value} (h : w.ownsRow base e size v n xs) : ∃ a c, v = .slice a n c ∧ n ≤ c ∧ c ≤ maxLen := by
 rcases h.2 with ⟨rfl, h0⟩ | ⟨g, cap, cur, rfl, _, _, h2, h3, _⟩
 · subst h0; exact ⟨none, 0, rfl, Nat.le_refl _, Nat.zero_le _⟩
 · exact ⟨_, cap, rfl, h2, h3⟩
theorem row_form8 {w : World} {base size n : Nat} {e : TypeId} {v : Value} {xs : List Value} (h : w.ownsRow base e size v n xs) (hn : 0 < n) : ∃ g cap, v = .slice (some ⟨g, 0, none⟩) n cap ∧ n ≤ cap ∧ cap ≤ maxLen := by
 rcases h.2 with ⟨_, h0⟩ | ⟨g, cap, cur, rfl, _, _, h2, h3, _⟩
 · omega
 · exact ⟨g, cap, rfl, h2, h3⟩
theorem row_past8 {w w' : World} {base size n : Nat} {e : TypeId} {v : Value} {xs : List Value} (h : w.ownsRow base e size v n xs) (hb : Below w.heap.size w w') : w'.ownsRow base e size v n xs :=
 h.kept (row := none) ⟨hb.os, hb.tape, hb.output, hb.size, fun k hk _ => hb.block k hk⟩ (by cases v.ownBlock <;> simp)
theorem one_new8 (w : World) (v : Value) (T : Nat) : ∀ (j : Nat) u, [v][j]? = some u → (w.alloc (.cells #[v] T)).cell? ((⟨w.heap.size, 0, none⟩ : Addr).add j) = some u := by
 intro j u h
 obtain rfl : j = 0 := by
  have := (List.getElem?_eq_some_iff.1 h).1
  simpa using this
 rw [addr_add, World.cell?_alloc_at _ _ _ _ rfl]
 simpa using h
theorem byte_zero (X : Nat) : ((X / 256 ^ 0 % 256 : Nat) : Int) = (X : Int) % 256 := by simp
theorem u8_info : (Tryd.prog.info? 5).map (fun i => (i.zero, i.size, i.bytes)) = some (some (.int .u8 0), 1, 1) := by kernel_rfl
theorem byt_more {H X j : Nat} (hj : j < 8) {L : List Nat} (hL : L = digL 256 (bytV H X (j + 1))) (h : 0 < L.length ∨ 0 < X / 256 ^ j % 256) : L ++ [X / 256 ^ j % 256] = digL 256 (bytV H X j) := by
 rw [bytV_step hj, digL_snoc (b := 256) (by decide) _ _ (Nat.mod_lt _ (by decide)), if_neg, ← hL]
 rintro ⟨h1, h2⟩
 rcases h with h | h
 · rw [hL, h1] at h; simp [digL_zero] at h
 · omega
theorem byt_none {H X j : Nat} (hj : j < 8) {L : List Nat} (hL : L = digL 256 (bytV H X (j + 1))) (h : L.length = 0) (h2 : X / 256 ^ j % 256 = 0) : L = digL 256 (bytV H X j) := by
 have hL0 : L = [] := List.eq_nil_of_length_eq_zero h
 have hv : bytV H X (j + 1) = 0 := by
  rcases Nat.eq_zero_or_pos (bytV H X (j + 1)) with h3 | h3
  · exact h3
  · rw [hL0, digL_step (b := 256) (by decide) (by omega)] at hL
    simp at hL
 rw [bytV_step hj, hv, h2, hL0]
 rfl
theorem bv_snoc (L : List Nat) (d : Nat) : bv L ++ [Value.int .u8 ((d : Nat) : Int)] = bv (L ++ [d]) := by simp [bv]
theorem digL_mono {b : Nat} (hb : 2 ≤ b) {m n : Nat} (h : m ≤ n) : (digL b m).length ≤ (digL b n).length := by
 rcases Nat.eq_or_lt_of_le h with rfl | h
 · exact Nat.le_refl _
 · rcases (less_dig hb m n).1 h with h1 | ⟨h1, _⟩ <;> omega
theorem bytV_le (H X j : Nat) (hj : j ≤ 8) : bytV H X j ≤ H * 18446744073709551616 + X := by
 unfold bytV
 have h1 : H * 256 ^ (8 - j) ≤ H * 18446744073709551616 := Nat.mul_le_mul_left _ (by rw [show 18446744073709551616 = (256 : Nat) ^ 8 by decide]; exact Nat.pow_le_pow_right (by decide) (by omega))
 have h2 := Nat.div_le_self X (256 ^ j)
 omega
theorem digL8_limbs {l : List Nat} (hl : Dig l) : (digL 256 (val l)).length ≤ 8 * l.length := by
 have h := val_lt hl
 rw [show (18446744073709551616 : Nat) = 256 ^ 8 by decide, ← Nat.pow_mul] at h
 rcases Nat.lt_or_ge (8 * l.length) (digL 256 (val l)).length with h1 | h1
 · exfalso
   have hne : digL 256 (val l) ≠ [] := fun e => by rw [e] at h1; simp at h1
   have h2 := val_ge (b := 256) (digL 256 (val l)) hne (digL_head (by decide) _)
   rw [valL_digL (by decide)] at h2
   have h3 : (256 : Nat) ^ (8 * l.length) ≤ 256 ^ ((digL 256 (val l)).length - 1) := Nat.pow_le_pow_right (by decide) (by omega)
   omega
 · exact h1
end Go.Proofs.YtoecndogaklngaaDoor
