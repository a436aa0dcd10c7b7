import Derived.Lib.MinMax
import Derived.Test.YtoecndogaklngaaGreatDoorS0Df
import Derived.Test.YtoecndogaklngaaGreatDoorTimes2Df
import Derived.Test.YtoecndogaklngaaGreatDoorLimbs6Df
set_option linter.unusedVariables false
set_option linter.unusedSimpArgs false
namespace Go.Proofs.YtoecndogaklngaaGreatDoor
open Go.RowKit
theorem D_drop_Times3 (l : List Nat) (m i : Nat) : D (l.drop m) i = D l (m + i) := by
 simp [D, List.getD_eq_getElem?_getD]
theorem NatAt.drop {w : World} {b o n c : Nat} {l : List Nat} (h : NatAt w (some ⟨b, o, none⟩) n c l) (m : Nat) (hm : m ≤ n) : NatAt w (some ⟨b, o + m, none⟩) (n - m) (c - m) (l.drop m) := by
 refine ⟨by rw [List.length_drop, h.len], by have := h.le; omega, by have := h.cle; omega, h.dig.drop m, ?_, fun e => by cases e⟩
 by_cases h0 : n - m = 0
 · exact .inl h0
 · rcases h.cell with hn | ⟨b', o', he, hc⟩
   · omega
   · cases he
     exact .inr ⟨b, o + m, rfl, fun i hi => by rw [D_drop_Times3, Nat.add_assoc]; exact hc (m + i) (by omega)⟩
end Go.Proofs.YtoecndogaklngaaGreatDoor
