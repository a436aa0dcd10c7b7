import Derived.Lib.MinMax
import Derived.BigRegion
import Derived.Deep.RegionWith
import Derived.LoopIn
import Derived.LoopNIn
import Derived.OwnWalkIn
import Derived.RangeFuncBound
import Derived.RangeFuncCalls
import Derived.RangeFuncLeaves
import Derived.RangeFuncNested
import Derived.Shelf.Abstract
import Derived.Shelf.RegionOpen
import Derived.TacticsInMore
import Derived.ArgAppend
import Derived.Lib.AppendZeros
import Derived.ScopeJumps
import Derived.StillTailTactics
import Derived.WalkMore
import Derived.Test.YtoecndogaklngaaS0Dn
import Derived.Test.YtoecndogaklngaaTimes2Dn
import Derived.Test.YtoecndogaklngaaLimbs3Dn
import Derived.Test.YtoecndogaklngaaLimbs2Dn
import Derived.Test.YtoecndogaklngaaQuot1Dn
import Derived.Test.YtoecndogaklngaaNumDn
import Derived.Test.YtoecndogaklngaaNum2Dn
set_option linter.unusedVariables false
set_option linter.unusedSimpArgs false
namespace Go.Proofs.Ytoecndogaklngaa
open Go.RowKit
theorem D_drop (l : List Nat) (m i : Nat) : D (l.drop m) i = D l (m + i) := by
 simp [D, List.getD_eq_getElem?_getD]
end Go.Proofs.Ytoecndogaklngaa
set_option linter.unusedVariables false
set_option linter.unusedSimpArgs false
namespace Go.Proofs.Ytoecndogaklngaa
open Go.RowKit
def RetDiv (w : World) (Q R : Nat) (e : Ending) (w' : World) : Prop :=
 ∃ a n c a' n' c', e = .returned (.tuple #[.slice a n c, .slice a' n' c', .int .i64 0]) ∧ OwnAt w' w.heap.size a n c (digs Q) ∧ OwnAt w' w.heap.size a' n' c' (digs R) ∧ Below w.heap.size w w'
theorem OwnAt.setOther {w : World} {B b o n c bu s : Nat} {l : List Nat} (h : OwnAt w B (some ⟨b, o, none⟩) n c l) (hb : b ≠ bu) (vs : List Value) : OwnAt (w.setCells bu s vs) B (some ⟨b, o, none⟩) n c l := by
 refine ⟨⟨h.len, h.le, h.cle, h.dig, ?_, h.nilc⟩, ?_⟩
 · rcases h.cell with h0 | ⟨b', o', he, hc⟩
   · exact .inl h0
   · cases he
     exact .inr ⟨b, o, rfl, fun i hi => by rw [World.cell?_setCells_out _ _ _ _ _ (fun e => absurd e hb)]; exact hc i hi⟩
 · rcases h.own with h0 | ⟨b', o', he, hB, hf⟩
   · exact .inl h0
   · cases he
     exact .inr ⟨b, o, rfl, hB, fun i hi => by rw [World.frozen?_setCells]; exact hf i hi⟩
end Go.Proofs.Ytoecndogaklngaa
