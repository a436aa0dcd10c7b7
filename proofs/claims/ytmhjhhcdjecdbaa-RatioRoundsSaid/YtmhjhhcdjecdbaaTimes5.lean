/- times, fifth part: ones: the bits of a number, the highest first. -/
import Derived.Test.YtmhjhhcdjecdbaaA2
import Derived.Test.YtmhjhhcdjecdbaaA5
import Derived.Test.YtmhjhhcdjecdbaaA1
set_option linter.unusedVariables false
set_option linter.unusedSimpArgs false
namespace Go.Proofs.Ytmhjhhcdjecdbaa
open Go.RowKit Go.Shelf
attribute [local go_sem] Oper.semAt_some

/-- the first k bits of a number of L bits -/
def bitsK (m L : Nat) : Nat → List Bool
  | 0 => []
  | k + 1 => bitsK m L k ++ [decide (m / 2 ^ (L - 1 - k) % 2 = 1)]
def num (l : List Bool) : Nat := l.foldl (fun s b => 2 * s + b.toNat) 0
theorem num_nil : num [] = 0 := rfl
theorem num_snoc (l : List Bool) (b : Bool) : num (l ++ [b]) = 2 * num l + b.toNat := by simp [num]
theorem bitsK_length (m L k : Nat) : (bitsK m L k).length = k := by
  induction k with
  | zero => rfl
  | succ k ih => simp [bitsK, ih]
theorem num_bitsK {m L : Nat} (hm : m < 2 ^ L) : ∀ k, k ≤ L → num (bitsK m L k) = m / 2 ^ (L - k)
  | 0, _ => by rw [Nat.sub_zero, Nat.div_eq_of_lt hm]; rfl
  | k + 1, h => by
    rw [bitsK, num_snoc, num_bitsK hm k (by omega), show L - (k + 1) = L - 1 - k by omega, show L - k = (L - 1 - k) + 1 by omega, Nat.pow_succ, ← Nat.div_div_eq_div_mul]
    have h2 : (decide (m / 2 ^ (L - 1 - k) % 2 = 1)).toNat = m / 2 ^ (L - 1 - k) % 2 := by
      by_cases e : m / 2 ^ (L - 1 - k) % 2 = 1
      · simp [e]
      · simp [e]; omega
    rw [h2]
    omega
theorem num_full (m : Nat) : num (bitsK m (nbits m) (nbits m)) = m := by
  rw [num_bitsK (nbits_lt m) _ (Nat.le_refl _), Nat.sub_self, Nat.pow_zero, Nat.div_one]
theorem num_step_le {m k : Nat} (hk : k ≤ nbits m) : num (bitsK m (nbits m) k) ≤ m := by
  rw [num_bitsK (nbits_lt m) _ hk]; exact Nat.div_le_self _ _

theorem bit_and (x : Nat) (hx : x < 9223372036854775808) : bits .and .i64 (x : Int) 1 = ((x % 2 : Nat) : Int) := by
  have h1 : (BitVec.ofInt 64 1).toNat = 2 ^ 1 - 1 := by decide
  have key : (BitVec.ofInt 64 (x : Int) &&& BitVec.ofInt 64 1).toNat = ((x : Int) % ((2 ^ 64 : Nat) : Int)).toNat % 2 ^ 1 := by
    rw [BitVec.toNat_and, BitVec.toNat_ofInt, h1, Nat.and_two_pow_sub_one_eq_mod]
  show IntKind.i64.wrap ((BitVec.ofInt 64 (x : Int) &&& BitVec.ofInt 64 1).toNat : Nat) = ((x % 2 : Nat) : Int)
  rw [key, IntKind.wrap_i64]
  omega

/-- what the loop's body must keep: the number's own variable -/
def KeepN (B1 m : Nat) (A B : World) : Prop := A.cell? ⟨B1, 0, none⟩ = some (.int .i64 (m : Int)) → B.cell? ⟨B1, 0, none⟩ = some (.int .i64 (m : Int))
theorem keepN_t {B1 m : Nat} {A B C : World} (h : KeepN B1 m A B) (k : KeepN B1 m B C) : KeepN B1 m A C := fun x => k (h x)
theorem keepN_b {w : World} {B1 m : Nat} (W : World) (l : Nat) (o o' : Obj) (_ : w.heap.size ≤ l) (hl : W.heap[l]? = some o) (ho : o.isCells = false) (_ : o.isWalk = false) : KeepN B1 m W (W.putObj l o') :=
  fun x => cell_kept x (grownBy_putObj' W l o') (fun r e => by cases e; exact ⟨o, hl, ho⟩)

end Go.Proofs.Ytmhjhhcdjecdbaa
