import Derived.Test.YtoecndogaklngaaS0Do
import Derived.Test.YtoecndogaklngaaLimbs1Do
set_option linter.unusedVariables false
set_option linter.unusedSimpArgs false
namespace Go.Proofs.Ytoecndogaklngaa
open Go.RowKit
set_option maxRecDepth 100000 in
theorem trim_any (a : Option Addr) (n c : Nat) (l : List Nat) (w : World) (h : NatAt w a n c l) (hs : n ≤ 1099511627776) :
 Calls Try.prog 24 #[.slice a n c] w (RetNat w (val l)) := by
 have h1 := h.digs
 have h2 : (digs (val l)).length ≤ n := by have := digs_length_val h.dig; rw [h.len] at this; exact this
 go_enter Try.func24, Try.ntmps24
 go_wp2_with fail
 refine (trimmed_any _ _ _ _ _ h).mono ?_
 rintro e w1 ⟨rfl, rfl⟩
 go_wp2_with fail
 refine (clone_any _ _ _ _ _ h1 (by omega)).mono ?_
 rintro e w1 ⟨a1, n1, c1, rfl, h3, hb⟩
 go_wp2
 go_ret
 exact ⟨_, _, _, rfl, h3, hb⟩
theorem RetNat.of {w w1 : World} {N : Nat} (h : Below w.heap.size w w1) {e : Ending} {w' : World} (h1 : RetNat w1 N e w') : RetNat w N e w' := by
 obtain ⟨a, n, c, he, ho, hb⟩ := h1
 exact ⟨a, n, c, he, ho.mono h.size, below_later h hb⟩
set_option maxRecDepth 100000 in
theorem of_any (x : Nat) (w : World) (hx : x < 18446744073709551616) :
 Calls Try.prog 20 #[.int .u64 x] w (RetNat w x) := by
 go_enter Try.func20, Try.ntmps20
 go_wp2_with fail
 refine (trim_any _ _ _ [x] _ (lit1 w x x rfl hx).toNatAt (by decide)).mono ?_
 rintro e w1 ⟨a1, n1, c1, rfl, h3, hb⟩
 go_wp2
 go_ret
 exact RetNat.of ((Below.refl _ _).alloc (Nat.le_refl _) _) ⟨_, _, _, rfl, by simpa [val] using h3, hb⟩
end Go.Proofs.Ytoecndogaklngaa
