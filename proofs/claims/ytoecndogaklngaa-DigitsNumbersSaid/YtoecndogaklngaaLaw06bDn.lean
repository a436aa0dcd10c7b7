import Derived.Test.YtoecndogaklngaaS0Dn
import Derived.Test.YtoecndogaklngaaLaw06aDn
import Derived.Test.YtoecndogaklngaaDigits3Dn
import Derived.Test.YtoecndogaklngaaDigRef1Dn
import Derived.Test.YtoecndogaklngaaDigRef2Dn
set_option linter.unusedVariables false
set_option linter.unusedSimpArgs false
namespace Go.Proofs.Ytoecndogaklngaa
open Go.RowKit
set_option maxRecDepth 100000 in
set_option maxHeartbeats 2000000 in
theorem digitsNumbers_any (a : Option Addr) (n c : Nat) (l : List Nat) (w : World) (g1 : NatAt w a n c l) :
 Calls Try.prog 3 #[.slice a n c] w (RetVal w (.bool true)) := by
 have hcle := g1.cle
 have hle := g1.le
 by_cases h20 : 20 < n
 · have t1 : decide ((20 : Int) < (n : Int)) = true := by simp; omega
   go_enter Try.func3, Try.ntmps3
   go_wp2_with fail
   with_reducible refine (longNat_any _ _ _ _ _ (by omega)).mono ?_
   rintro e w' ⟨rfl, rfl⟩
   go_wp2_with fail
   with_reducible refine (awake06 _).mono ?_
   rintro e w1 ⟨rfl, hb⟩
   go_wp2
   go_ret
   exact ⟨rfl, hb⟩
 · have t1 : decide ((20 : Int) < (n : Int)) = false := by simp; omega
   go_enter Try.func3, Try.ntmps3
   go_wp2_with fail
   with_reducible refine (longNat_any _ _ _ _ _ (by omega)).mono ?_
   rintro e w' ⟨rfl, rfl⟩
   go_wp2_with fail
   with_reducible refine (copyNat_any _ _ _ _ _ g1 (by omega)).mono ?_
   rintro e w1 ⟨a1, n1, c1, rfl, h1, hb1⟩
   have k1 : n1 = 0 ∨ ∀ x, a1 = some x → x.block < w1.heap.size := by
    rcases h1.toNatAt.parts with h' | ⟨b, o, rfl, hlt, _⟩
    · exact .inl h'
    · exact .inr fun x hx => by cases hx; exact hlt
   have k2 : n = 0 ∨ ∀ x, a = some x → x.block < w1.heap.size := by
    have hz := hb1.size
    rcases g1.parts with h' | ⟨b, o, rfl, hlt, _⟩
    · exact .inl h'
    · exact .inr fun x hx => by cases hx; show b < w1.heap.size; omega
   have g1 := g1.past hb1
   have hz1 := hb1.size
   have hn1 : n1 = n := by rw [← h1.len, ← g1.len]
   subst hn1
   have hB := hb1
   go_wp2_with fail
   with_reducible refine (bytes_any _ _ _ _ _ h1.toNatAt (by omega)).mono ?_
   rintro e w2 ⟨a2, n2, c2, rfl, h2, hb2⟩
   have g1 := g1.past hb2
   have h1 := h1.toNatAt.past hb2
   have hB := below_later hB hb2
   have hw1 := hb2.size
   clear hb1
   go_wp2_with fail
   with_reducible refine (put_any _ _ _ _ _ h1 (by omega)).mono ?_
   rintro e w3 ⟨rfl, hb3⟩
   have g1 := g1.past hb3
   have h1 := h1.past hb3
   have h2 := h2.past hb3
   have hB := below_later hB hb3
   have hw1 := Nat.le_trans hw1 hb3.size
   go_wp2_with fail
   with_reducible refine (rput_any _ _ _ _ _ g1 (by omega)).mono ?_
   rintro e w4 ⟨rfl, hb4⟩
   have g1 := g1.past hb4
   have h1 := h1.past hb4
   have h2 := h2.past hb4
   have hB := below_later hB hb4
   have hw1 := Nat.le_trans hw1 hb4.size
   go_wp2_with fail
   with_reducible refine (rbytes_any _ _ _ _ _ g1 (by omega)).mono ?_
   rintro e w5 ⟨a5, n5, c5, rfl, h5, hb5⟩
   have g1 := g1.past hb5
   have h1 := h1.past hb5
   have h2 := h2.past hb5
   have hB := below_later hB hb5
   have hw1 := Nat.le_trans hw1 hb5.size
   go_wp2_with fail
   with_reducible refine (sameBytes_any _ _ _ _ _ _ _ _ _ h2.toBytesAt h5.toBytesAt).mono ?_
   rintro e w6 ⟨rfl, hb6⟩
   rw [eqY_self]
   have g1 := g1.past hb6
   have h1 := h1.past hb6
   have h2 := h2.past hb6
   have hB := below_later hB hb6
   have hw1 := Nat.le_trans hw1 hb6.size
   clear h5
   go_wp2_with fail
   with_reducible refine (overBytes_any _ _ _ _ _ _ h2).mono ?_
   rintro e w7 ⟨rfl, hb7⟩
   have g1 := g1.below hb7 k2
   have h1 := h1.below hb7 k1
   have hB := hB.trans (hb7.mono hz1)
   clear h2 hb7 k1 k2 hb2 hb3 hb4 hb5 hb6 hw1 hz1
   go_wp2_with fail
   with_reducible refine (sameNat_yes h1 g1).mono ?_
   rintro e w8 ⟨rfl, hb8⟩
   have hB := below_later hB hb8
   go_wp2_with fail
   with_reducible refine (awake06 _).mono ?_
   rintro e w9 ⟨rfl, hb9⟩
   have hB := below_later hB hb9
   go_wp2
   go_ret
   exact ⟨rfl, hB⟩
end Go.Proofs.Ytoecndogaklngaa
