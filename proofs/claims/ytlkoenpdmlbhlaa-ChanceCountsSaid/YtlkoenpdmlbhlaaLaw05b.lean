/- the laws of ratio: awake. -/
import Derived.Test.YtlkoenpdmlbhlaaLaw05a
import Derived.Test.YtlkoenpdmlbhlaaB3
set_option linter.unusedVariables false
set_option linter.unusedSimpArgs false
namespace Go.Proofs.Ytlkoenpdmlbhlaa
open Go.RowKit

theorem pairR_ok {x y : Int} (hy : y ≠ 0) : pairR x y = .ok (mkRat (sg (neg x != neg y) x.natAbs) y.natAbs) := by
  unfold pairR makeR
  rw [if_neg (by rw [chkZ_canon]; simp), val_digs, val_digs, if_neg (by omega), natAbs_sg]
  congr 2
  have h := sg_canon (sg (neg x != neg y) x.natAbs)
  rw [natAbs_sg, val_digs] at h
  exact h
theorem pair_ok {x y : Int} {q : Rat} (hy : y ≠ 0) (hq : mkRat (sg (neg x != neg y) x.natAbs) y.natAbs = q) (w : World) (hx : -9223372036854775808 ≤ x ∧ x ≤ 9223372036854775807) (hy2 : -9223372036854775808 ≤ y ∧ y ≤ 9223372036854775807) :
    Calls Try.prog 33 #[.int .i64 x, .int .i64 y] w (RetOk w q) := by
  have h := pair05_any x y w hx hy2
  rw [pairR_ok hy, hq] at h
  exact h
/-- parts that are not in lowest terms -/
theorem chk_of {b : Bool} {l : List Nat} {v d g : Nat} (hv : val l = v) (hg : Nat.gcd v d = g) (h : g ≠ 1) : chkR b l [d] = 6 := by
  unfold chkR
  rw [if_neg]
  rintro ⟨_, _, _, h4⟩
  rw [hv, show val [d] = d from by simp [val], hg] at h4
  exact h h4
theorem fr_len (x : Int) (d : Nat) (h : d ≠ 0) (h2 : x.natAbs.Coprime d) (hx : x.natAbs < 18446744073709551616) (hd : d < 18446744073709551616) : rlen (fr x d h h2) ≤ 1 := by
  have h1 : (digs x.natAbs).length ≤ 1 := digs_length_le.2 (by omega)
  have h3 : (digs d).length ≤ 1 := digs_length_le.2 (by omega)
  unfold rlen
  exact Nat.max_le.2 ⟨h1, h3⟩
theorem fr_short (x : Int) (d : Nat) (h : d ≠ 0) (h2 : x.natAbs.Coprime d) (hx : x.natAbs < 18446744073709551616) (hd : d < 18446744073709551616) : rlen (fr x d h h2) ≤ 1048576 := Nat.le_trans (fr_len x d h h2 hx hd) (by decide)

end Go.Proofs.Ytlkoenpdmlbhlaa
