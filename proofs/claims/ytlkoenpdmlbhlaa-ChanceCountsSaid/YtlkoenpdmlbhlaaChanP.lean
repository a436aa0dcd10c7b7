/- chances: plain sums. No program. -/
import Derived.Test.YtlkoenpdmlbhlaaChance3
import Derived.Test.YtlkoenpdmlbhlaaRat4
set_option linter.unusedVariables false
set_option linter.unusedSimpArgs false
namespace Go.Proofs.Ytlkoenpdmlbhlaa

theorem sumQ_congr {p : Rat} {f g : Nat → Rat} : ∀ n, (∀ i, i < n → f i = g i) → sumQ p f n = sumQ p g n
  | 0, _ => rfl
  | n + 1, h => by show sumQ p f n + f n = sumQ p g n + g n; rw [sumQ_congr n fun i hi => h i (by omega), h n (by omega)]
theorem sumQ_start (p : Rat) (f : Nat → Rat) : ∀ n, sumQ p f n = p + sumQ 0 f n
  | 0 => by show p = p + 0; rw [Rat.add_zero]
  | n + 1 => by show sumQ p f n + f n = p + (sumQ 0 f n + f n); rw [sumQ_start p f n, Rat.add_assoc]
theorem sumQ_split (f : Nat → Rat) (m : Nat) : ∀ n, sumQ 0 f (m + n) = sumQ 0 f m + sumQ 0 (fun i => f (m + i)) n
  | 0 => by show sumQ 0 f m = sumQ 0 f m + 0; rw [Rat.add_zero]
  | n + 1 => by show sumQ 0 f (m + n) + f (m + n) = sumQ 0 f m + (sumQ 0 (fun i => f (m + i)) n + f (m + n)); rw [sumQ_split f m n, Rat.add_assoc]
theorem sumQ_plus (f g : Nat → Rat) : ∀ n, sumQ 0 (fun i => f i + g i) n = sumQ 0 f n + sumQ 0 g n
  | 0 => by show (0 : Rat) = 0 + 0; rw [Rat.add_zero]
  | n + 1 => by
    show sumQ 0 (fun i => f i + g i) n + (f n + g n) = sumQ 0 f n + f n + (sumQ 0 g n + g n)
    rw [sumQ_plus f g n, Rat.add_assoc, Rat.add_assoc, ← Rat.add_assoc (sumQ 0 g n), ← Rat.add_assoc (f n), Rat.add_comm (sumQ 0 g n) (f n)]
theorem sumQ_times (c : Rat) (f : Nat → Rat) : ∀ n, sumQ 0 (fun i => c * f i) n = c * sumQ 0 f n
  | 0 => by show (0 : Rat) = c * 0; rw [Rat.mul_zero]
  | n + 1 => by show sumQ 0 (fun i => c * f i) n + c * f n = c * (sumQ 0 f n + f n); rw [sumQ_times c f n, Rat.mul_add]
theorem sumQ_none : ∀ n, sumQ 0 (fun _ => 0) n = 0
  | 0 => rfl
  | n + 1 => by show sumQ 0 (fun _ => 0) n + 0 = 0; rw [sumQ_none n, Rat.add_zero]
theorem sumQ_swap (f : Nat → Nat → Rat) (n : Nat) : ∀ m, sumQ 0 (fun j => sumQ 0 (fun i => f j i) n) m = sumQ 0 (fun i => sumQ 0 (fun j => f j i) m) n
  | 0 => by show (0 : Rat) = sumQ 0 (fun i => 0) n; rw [sumQ_none]
  | m + 1 => by
    show sumQ 0 (fun j => sumQ 0 (fun i => f j i) n) m + sumQ 0 (fun i => f m i) n = sumQ 0 (fun i => sumQ 0 (fun j => f j i) m + f m i) n
    rw [sumQ_swap f n m, sumQ_plus]
theorem sumQ_nonneg {f : Nat → Rat} : ∀ n, (∀ i, i < n → 0 ≤ f i) → 0 ≤ sumQ 0 f n
  | 0, _ => Rat.le_refl
  | n + 1, h => Rat.add_nonneg (sumQ_nonneg n fun i hi => h i (by omega)) (h n (by omega))
theorem le_plus {a b : Rat} (h : 0 ≤ b) : a ≤ a + b := by
  have h2 := (Rat.add_le_add_left (c := a)).2 h
  rwa [Rat.add_zero] at h2
theorem le_plus' {a b : Rat} (h : 0 ≤ b) : a ≤ b + a := by rw [Rat.add_comm]; exact le_plus h
theorem sumQ_term {f : Nat → Rat} : ∀ n, (∀ i, i < n → 0 ≤ f i) → ∀ i, i < n → f i ≤ sumQ 0 f n
  | n + 1, h, i, hi => by
    show f i ≤ sumQ 0 f n + f n
    by_cases e : i = n
    · subst e
      exact le_plus' (sumQ_nonneg i fun j hj => h j (by omega))
    · exact Rat.le_trans (sumQ_term n (fun j hj => h j (by omega)) i (by omega)) (le_plus (h n (by omega)))
def sumN (f : Nat → Nat) : Nat → Nat
  | 0 => 0
  | n + 1 => sumN f n + f n
theorem mkRat_mul (a : Int) (c : Nat) : mkRat a c = (a : Rat) * (c : Rat)⁻¹ := by rw [Rat.mkRat_eq_div, Rat.div_def]
theorem sumQ_mk (f : Nat → Nat) (c : Nat) : ∀ n, sumQ 0 (fun j => mkRat (f j : Int) c) n = mkRat (sumN f n : Int) c
  | 0 => by show (0 : Rat) = mkRat ((0 : Nat) : Int) c; rw [mkRat_mul]; simp
  | n + 1 => by
    show sumQ 0 (fun j => mkRat (f j : Int) c) n + mkRat (f n : Int) c = mkRat ((sumN f n + f n : Nat) : Int) c
    rw [sumQ_mk f c n, mkRat_mul, mkRat_mul, mkRat_mul, Int.natCast_add, Rat.intCast_add, Rat.add_mul]
theorem sumQ_mkI (f : Nat → Int) (c : Nat) : ∀ n, sumQ 0 (fun j => mkRat (f j) c) n = mkRat (totS f n) c
  | 0 => by show (0 : Rat) = mkRat 0 c; rw [mkRat_mul]; simp
  | n + 1 => by
    show sumQ 0 (fun j => mkRat (f j) c) n + mkRat (f n) c = mkRat (totS f n + f n) c
    rw [sumQ_mkI f c n, mkRat_mul, mkRat_mul, mkRat_mul, Rat.intCast_add, Rat.add_mul]
theorem mkRat_one {c : Nat} (h : 0 < c) : mkRat (c : Int) c = 1 := by
  rw [mkRat_mul, Rat.intCast_natCast]
  exact Rat.mul_inv_cancel _ (fun e => by have := Rat.natCast_pos.2 h; rw [e] at this; exact absurd this (by decide))
theorem mkRat_nonneg {a : Int} {c : Nat} (h : 0 ≤ a) : 0 ≤ mkRat a c := by
  rw [mkRat_mul]
  by_cases hc : c = 0
  · subst hc; simp
  · exact Rat.mul_nonneg (Rat.intCast_nonneg.2 h) (Rat.le_of_lt (Rat.inv_pos.2 (Rat.natCast_pos.2 (Nat.pos_iff_ne_zero.2 hc))))
/-- all ways to meet u of k: Vandermonde, for k at most 12 -/
theorem vand12 : ∀ k, k < 13 → ∀ u, u < k + 1 → ∀ d, d < k → sumN (fun j => ch u (0 + j) * chz (k - u) (((d + 1 : Nat) : Int) - ((0 + j : Nat) : Int))) (u + 1) = ch k (d + 1) := by decide +kernel
theorem meets_nonneg (k u j d : Nat) : 0 ≤ meetsR k u j d := mkRat_nonneg (Int.natCast_nonneg _)
section
variable {zs : List Int} {k u : Nat}
theorem inR24_nonneg (hok : okT zs (k : Int)) (j : Nat) : 0 ≤ inR24 zs k u j := sumQ_nonneg _ fun i hi => Rat.mul_nonneg (mkRat_nonneg (okT_in hok i hi).1) (meets_nonneg _ _ _ _)
theorem row_whole (hok : okT zs (k : Int)) (hk : k ≤ 12) (hu : u ≤ k) : sumQ 0 (fun j => inR24 zs k u (0 + j)) (u + 1) = 1 := by
  have hpos := okT_pos hok
  have hnk : zs.length ≤ k := by have := hok.2.2.2.1; omega
  obtain ⟨T, hT⟩ : ∃ T : Nat, totS (fun i => zs.getD i 0) zs.length = (T : Int) := ⟨(totS (fun i => zs.getD i 0) zs.length).toNat, by omega⟩
  unfold inR24
  rw [hT, Int.toNat_natCast, sumQ_swap]
  rw [sumQ_congr (g := fun i => mkRat (zs.getD i 0) T) zs.length fun i hi => ?_]
  · rw [sumQ_mkI, hT]
    exact mkRat_one (by omega)
  · unfold inE
    rw [sumQ_times]
    unfold meetsR
    rw [sumQ_mk, vand12 k (by omega) u (by omega) i (by omega), mkRat_one (ch_pos (by omega)), Rat.mul_one]
theorem row_term (hok : okT zs (k : Int)) (hk : k ≤ 12) (hu : u ≤ k) {j : Nat} (hj : j ≤ u) : inR24 zs k u j ≤ 1 := by
  have h := sumQ_term (f := fun j => inR24 zs k u (0 + j)) (u + 1) (fun i _ => inR24_nonneg hok _) j (by omega)
  rw [row_whole hok hk hu] at h
  simpa using h
end

end Go.Proofs.Ytlkoenpdmlbhlaa
