/- plain: how far a fraction is from what it is rounded to. -/
import Derived.Test.YtlkoenpdmlbhlaaRat4
import Derived.Test.YtlkoenpdmlbhlaaLaw05a
set_option linter.unusedVariables false
set_option linter.unusedSimpArgs false
namespace Go.Proofs.Ytlkoenpdmlbhlaa

theorem sub_int_parts (q : Rat) (x : Int) : (q - (x : Rat)).num = q.num - x * q.den ∧ (q - (x : Rat)).den = q.den := by
  have h := rat_sum q (-(x : Rat))
  rw [Rat.neg_num, Rat.neg_den, Rat.num_intCast, Rat.den_intCast, ← Rat.sub_eq_add_neg] at h
  have e1 : q.num * ((1 : Nat) : Int) + -x * (q.den : Int) = q.num - x * q.den := by rw [Int.neg_mul]; omega
  rw [e1, Nat.mul_one] at h
  have hg : Nat.gcd (q.num - x * q.den).natAbs q.den = 1 := by
    have h2 := Int.gcd_sub_mul_right_left (q.den : Int) q.num x
    have h3 : Int.gcd q.num (q.den : Int) = 1 := q.reduced
    rw [h3] at h2
    exact h2
  obtain ⟨h1, h2⟩ := mkRat_own (z := q.num - x * q.den) q.den_nz hg
  rw [h] at h1 h2
  exact ⟨h1, h2⟩
/-- how far a fraction is from 0 -/
def absR (d : Rat) : Rat := ⟨(d.num.natAbs : Int), d.den, d.den_nz, by simpa using d.reduced⟩
theorem absR_num (d : Rat) : (absR d).num = (d.num.natAbs : Int) := rfl
theorem absR_den (d : Rat) : (absR d).den = d.den := rfl
theorem absR_neg (d : Rat) : neg (absR d).num = false := decide_eq_false (by rw [absR_num]; omega)
theorem absR_abs (d : Rat) : (absR d).num.natAbs = d.num.natAbs := by rw [absR_num]; omega
theorem natAbs_rnd (q : Rat) : (rndR q).natAbs = rndN q.num.natAbs q.den := natAbs_sg _ _
theorem rnd_near (q : Rat) : (absR (q - (rndR q : Rat)) - fr 1 2).num.sign = -1 ∨ ((absR (q - (rndR q : Rat)) - fr 1 2).num.sign = 0 ∧ (rndR q).natAbs % 2 = 0) := by
  obtain ⟨h1, h2⟩ := sub_int_parts q (rndR q)
  have ha : (absR (q - (rndR q : Rat))).num = ((q.num - rndR q * q.den).natAbs : Int) := by rw [absR_num, h1]
  have hd : (absR (q - (rndR q : Rat))).den = q.den := h2
  obtain ⟨hn, he⟩ := rndN_near (v := q.num.natAbs) q.den_pos
  rw [natAbs_rnd]
  generalize hN : rndN q.num.natAbs q.den = N at *
  have hx : (q.num - rndR q * q.den).natAbs = (if q.num.natAbs ≤ N * q.den then N * q.den - q.num.natAbs else q.num.natAbs - N * q.den) := by
    unfold rndR
    rw [hN]
    have hsg : sg (neg q.num) N * (q.den : Int) = sg (neg q.num) (N * q.den) := by
      cases neg q.num <;> simp [sg, Int.neg_mul]
    rw [hsg]
    generalize N * q.den = M at *
    have hq : q.num = sg (neg q.num) q.num.natAbs := (sg_neg q.num).symm
    generalize q.num.natAbs = v at *
    generalize neg q.num = bb at *
    rw [hq]
    clear hn he ha h1 h2 hd hN hsg hq
    by_cases hc : v ≤ M
    · rw [if_pos hc]
      cases bb <;> simp only [sg, if_true, Bool.false_eq_true, if_false] <;> omega
    · rw [if_neg hc]
      cases bb <;> simp only [sg, if_true, Bool.false_eq_true, if_false] <;> omega
  have f1 : (fr 1 2).num = 1 := rfl
  have f2 : (fr 1 2).den = 2 := rfl
  generalize absR (q - (rndR q : Rat)) = A at *
  have key : 2 * A.num.natAbs ≤ A.den ∧ (2 * A.num.natAbs = A.den → N % 2 = 0) := by
    rw [ha, hd, hx]
    generalize N * q.den = M at *
    generalize q.num.natAbs = v at *
    split
    · constructor
      · simp; omega
      · intro h; exact he (.inl (by simp at h; omega))
    · constructor
      · simp; omega
      · intro h; exact he (.inr (by simp at h; omega))
  have hA0 : 0 ≤ A.num := by rw [ha]; omega
  by_cases h3 : 2 * A.num.natAbs = A.den
  · refine .inr ⟨?_, key.2 h3⟩
    rw [sgn_zero]
    refine Rat.le_antisymm ?_ ?_ <;> rw [Rat.le_iff, f1, f2] <;> omega
  · refine .inl ?_
    rw [sgn_neg1, Rat.lt_iff, f1, f2]
    omega

end Go.Proofs.Ytlkoenpdmlbhlaa
