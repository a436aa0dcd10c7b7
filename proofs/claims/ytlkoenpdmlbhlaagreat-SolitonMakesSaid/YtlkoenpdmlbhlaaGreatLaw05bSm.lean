import Derived.Test.YtlkoenpdmlbhlaaGreatS0Sm
import Derived.Test.YtlkoenpdmlbhlaaGreatLaw05aSm
import Derived.Test.YtlkoenpdmlbhlaaGreatB3Sm
set_option linter.unusedVariables false
set_option linter.unusedSimpArgs false
namespace Go.Proofs.YtlkoenpdmlbhlaaGreat
open Go.RowKit
theorem pairR_ok {x y : Int} (hy : y ≠ 0) : pairR x y = .ok (mkRat (sg (neg x != neg y) x.natAbs) y.natAbs) := by
 unfold pairR makeR
 rw [if_neg (by rw [chkZ_canon]; simp), val_digs, val_digs, if_neg (by omega), natAbs_sg]
 congr 2
 have h := sg_canon (sg (neg x != neg y) x.natAbs)
 rw [natAbs_sg, val_digs] at h
 exact h
theorem pair_ok {x y : Int} {q : Rat} (hy : y ≠ 0) (hq : mkRat (sg (neg x != neg y) x.natAbs) y.natAbs = q) (w : World) (hx : -9223372036854775808 ≤ x ∧ x ≤ 9223372036854775807) (hy2 : -9223372036854775808 ≤ y ∧ y ≤ 9223372036854775807) :
 Calls Tryz.prog 69 #[.int .i64 x, .int .i64 y] w (RetOk w q) := by
 have h := pair05_any x y w hx hy2
 rw [pairR_ok hy, hq] at h
 exact h
end Go.Proofs.YtlkoenpdmlbhlaaGreat
