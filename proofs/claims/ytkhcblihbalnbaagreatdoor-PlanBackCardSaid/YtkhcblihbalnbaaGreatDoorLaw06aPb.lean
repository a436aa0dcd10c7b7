import Derived.Test.YtkhcblihbalnbaaGreatDoorDigits2Pb
import Derived.Test.YtkhcblihbalnbaaGreatDoorDigits6Pb
set_option linter.unusedVariables false
set_option linter.unusedSimpArgs false
set_option maxRecDepth 100000
namespace Go.Proofs.YtkhcblihbalnbaaGreatDoor
open Go.RowKit
def eqY (l l2:List Nat):Bool:=decide (l=l2)
theorem eqY_bytes {l l2:List Nat} (h:∀ d ∈ l,d<256) (h2:∀ d ∈ l2,d<256):((bytB l).toList == (bytB l2).toList)=eqY l l2:=by
 unfold eqY;rw [bytB_toList,bytB_toList]
 by_cases e:l=l2
 · subst e;simp
 rw [decide_eq_false e,beq_eq_false_iff_ne];exact fun h3=>e (map_inj_on (fun _ _=>byte_inj) l l2 h h2 h3)
theorem sameBytes_any (a:Option Addr) (n c:Nat) (l:List Nat) (a2:Option Addr) (n2 c2:Nat) (l2:List Nat) (w:World) (h:BytesAt w a n c l) (h2:BytesAt w a2 n2 c2 l2) :
 Calls Tryz.prog 9 #[.slice a n c,.slice a2 n2 c2] w (RetVal w (.bool (eqY l l2))):=by
 have t1:=h.text (P:=Tryz.prog) 31 5 9 Tryz.underlying31 Tryz.underlying5 Tryz.underlying9;have t2:=h2.text (P:=Tryz.prog) 31 5 9 Tryz.underlying31 Tryz.underlying5 Tryz.underlying9;have HE:=hiD (eqY_bytes h.dig h2.dig);clear h h2
 go_enter Tryz.func9,Tryz.ntmps9
 go_wp2
 go_ret
 exact ⟨by rw [← HE.out];rfl,bRf _ _⟩
end Go.Proofs.YtkhcblihbalnbaaGreatDoor
