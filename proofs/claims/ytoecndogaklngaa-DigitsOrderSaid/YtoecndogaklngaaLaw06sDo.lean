import Derived.WalkLawsBesides
import Derived.Test.YtoecndogaklngaaS0Do
import Derived.Test.YtoecndogaklngaaDecDo
import Derived.Test.YtoecndogaklngaaLimbs1Do
set_option linter.unusedVariables false
set_option linter.unusedSimpArgs false
namespace Go.Proofs.Ytoecndogaklngaa
open Go.RowKit
theorem shorter_any (s t : ByteArray) (w : World) (hs : s.size ≤ 9223372036854775807) (ht : t.size ≤ 9223372036854775807) :
 Calls Try.prog 16 #[.string s, .string t] w (RetVal w (.bool (shorterB s t))) := by
 have hU : shorterB s t = (decide (s.size < t.size) || (s.size == t.size && Op.bytesLess s.toList t.toList)) := rfl
 rcases Nat.lt_trichotomy s.size t.size with h | h | h
 · have e : shorterB s t = true := by rw [hU]; simp [h]
   have E := Lib.hid e
   have t1 : decide (s.size < t.size) = true := decide_eq_true h
   clear e hU
   go_enter Try.func16, Try.ntmps16
   go_wp2
   go_ret
   exact ⟨by rw [E.out]; rfl, Below.refl _ _⟩
 · have e : shorterB s t = Op.bytesLess s.toList t.toList := by rw [hU]; simp [h]
   have E := Lib.hid e
   have t1 : decide (s.size < t.size) = false := decide_eq_false (by omega)
   have t2 : ((s.size : Int) == (t.size : Int)) = true := beq_iff_eq.2 (by omega)
   clear e hU h
   go_enter Try.func16, Try.ntmps16
   go_wp2
   go_ret
   exact ⟨by rw [E.out]; rfl, Below.refl _ _⟩
 · have e : shorterB s t = false := by rw [hU]; simp; omega
   have E := Lib.hid e
   have t1 : decide (s.size < t.size) = false := decide_eq_false (by omega)
   have t2 : ((s.size : Int) == (t.size : Int)) = false := beq_eq_false_iff_ne.2 (by omega)
   clear e hU
   go_enter Try.func16, Try.ntmps16
   go_wp2
   go_ret
   exact ⟨by rw [E.out]; rfl, Below.refl _ _⟩
end Go.Proofs.Ytoecndogaklngaa
