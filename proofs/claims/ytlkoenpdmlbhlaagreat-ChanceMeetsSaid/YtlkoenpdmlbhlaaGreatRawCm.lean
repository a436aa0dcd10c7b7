import Derived.Test.YtlkoenpdmlbhlaaGreatS0Cm
import Derived.Test.YtlkoenpdmlbhlaaGreatB3Cm
set_option linter.unusedVariables false
set_option linter.unusedSimpArgs false
namespace Go.Proofs.YtlkoenpdmlbhlaaGreat
open Go.RowKit
def rawF (L : List (Bool × List Nat × List Nat)) : Nat → Bool × List Nat × List Nat := fun i => L.getD i (false, [], [])
theorem RatsAt.raw2 {w : World} {g : Nat} {x y : Bool × List Nat × List Nat} {a1 : Option Addr} {n1 c1 : Nat} {b1 : Option Addr} {m1 e1 : Nat} {a2 : Option Addr} {n2 c2 : Nat} {b2 : Option Addr} {m2 e2 : Nat} (hl : g < w.heap.size)
 (q0 : w.cell? ⟨g, 0, none⟩ = some (.bool x.1)) (q1 : w.cell? ⟨g, 1, none⟩ = some (.slice a1 n1 c1)) (q2 : w.cell? ⟨g, 2, none⟩ = some (.slice b1 m1 e1))
 (q3 : w.cell? ⟨g, 3, none⟩ = some (.bool y.1)) (q4 : w.cell? ⟨g, 4, none⟩ = some (.slice a2 n2 c2)) (q5 : w.cell? ⟨g, 5, none⟩ = some (.slice b2 m2 e2))
 (u1 : NatAt w a1 n1 c1 x.2.1) (d1 : NatAt w b1 m1 e1 x.2.2) (u2 : NatAt w a2 n2 c2 y.2.1) (d2 : NatAt w b2 m2 e2 y.2.2) :
 RatsAt w (some ⟨g, 0, none⟩) 2 2 (rawF [x, y]) := by
 refine ⟨Nat.le_refl _, by simp [maxLen], .inr ⟨g, 0, rfl, hl, fun i hi => ?_⟩⟩
 match i, hi with
 | 0, _ => exact ⟨_, _, _, _, _, _, q0, q1, q2, u1, d1⟩
 | 1, _ => exact ⟨_, _, _, _, _, _, q3, q4, q5, u2, d2⟩
theorem allR2 (x y : Bool × List Nat × List Nat) : allR (rawF [x, y]) 2 = (decide (chk3 x = 0) && decide (chk3 y = 0)) := by
 show (decide (chk3 x = 0) && (decide (chk3 y = 0) && true)) = _
 rw [Bool.and_true]
end Go.Proofs.YtlkoenpdmlbhlaaGreat
