import Derived.Lib.MinMax
import Derived.BigQuiet
import Derived.Deep.DeepFit
import Derived.Deep.RegionHeld3
import Derived.Deep.RegionWith
import Derived.IntWalk
import Derived.Laws.EntriesVeiled
import Derived.Test.YtoecndogaklngaaDoorS0Db
import Derived.Test.YtoecndogaklngaaDoorTimes2Db
import Derived.Test.YtoecndogaklngaaDoorLimbs6Db
import Derived.Test.YtoecndogaklngaaDoorSigned1Db
import Derived.Test.YtoecndogaklngaaDoorLimbs3Db
import Derived.Test.YtoecndogaklngaaDoorLimbs1Db
import Derived.Test.YtoecndogaklngaaDoorNumDb
import Derived.Test.YtoecndogaklngaaDoorTimes1Db
set_option linter.unusedVariables false
set_option linter.unusedSimpArgs false
namespace Go.Proofs.YtoecndogaklngaaDoor
open Go.RowKit
theorem D_drop_Times3 (l : List Nat) (m i : Nat) : D (l.drop m) i = D l (m + i) := by
 simp [D, List.getD_eq_getElem?_getD]
theorem NatAt.drop {w : World} {b o n c : Nat} {l : List Nat} (h : NatAt w (some ⟨b, o, none⟩) n c l) (m : Nat) (hm : m ≤ n) : NatAt w (some ⟨b, o + m, none⟩) (n - m) (c - m) (l.drop m) := by
 refine ⟨by rw [List.length_drop, h.len], by have := h.le; omega, by have := h.cle; omega, h.dig.drop m, ?_, fun e => by cases e⟩
 by_cases h0 : n - m = 0
 · exact .inl h0
 · rcases h.cell with hn | ⟨b', o', he, hc⟩
   · omega
   · cases he
     exact .inr ⟨b, o + m, rfl, fun i hi => by rw [D_drop_Times3, Nat.add_assoc]; exact hc (m + i) (by omega)⟩
end Go.Proofs.YtoecndogaklngaaDoor
set_option linter.unusedVariables false
set_option linter.unusedSimpArgs false
namespace Go.Proofs.YtoecndogaklngaaDoor
open Go.RowKit
theorem oneN_yes {v : Nat} (h : v < 18446744073709551616) : oneN v = v ∧ oneB v = true := ⟨if_pos h, decide_eq_true h⟩
theorem oneN_no {v : Nat} (h : ¬ v < 18446744073709551616) : oneN v = 0 ∧ oneB v = false := ⟨if_neg h, decide_eq_false h⟩
end Go.Proofs.YtoecndogaklngaaDoor
