import Derived.Test.YtlkoenpdmlbhlaaGreatS0Sm
import Derived.Test.YtlkoenpdmlbhlaaGreatB3Sm
set_option linter.unusedVariables false
set_option linter.unusedSimpArgs false
namespace Go.Proofs.YtlkoenpdmlbhlaaGreat
open Go.RowKit
def rawF (L : List (Bool × List Nat × List Nat)) : Nat → Bool × List Nat × List Nat := fun i => L.getD i (false, [], [])
theorem RatsAt.raw1 {w : World} {g : Nat} {x : Bool × List Nat × List Nat} {a1 : Option Addr} {n1 c1 : Nat} {b1 : Option Addr} {m1 e1 : Nat} (hl : g < w.heap.size)
 (q0 : w.cell? ⟨g, 0, none⟩ = some (.bool x.1)) (q1 : w.cell? ⟨g, 1, none⟩ = some (.slice a1 n1 c1)) (q2 : w.cell? ⟨g, 2, none⟩ = some (.slice b1 m1 e1)) (u1 : NatAt w a1 n1 c1 x.2.1) (d1 : NatAt w b1 m1 e1 x.2.2) :
 RatsAt w (some ⟨g, 0, none⟩) 1 1 (rawF [x]) := by
 refine ⟨Nat.le_refl _, by simp [maxLen], .inr ⟨g, 0, rfl, hl, fun i hi => ?_⟩⟩
 match i, hi with
 | 0, _ => exact ⟨_, _, _, _, _, _, q0, q1, q2, u1, d1⟩
theorem allR1 (x : Bool × List Nat × List Nat) : allR (rawF [x]) 1 = decide (chk3 x = 0) := by
 show (decide (chk3 x = 0) && true) = _
 rw [Bool.and_true]
end Go.Proofs.YtlkoenpdmlbhlaaGreat
