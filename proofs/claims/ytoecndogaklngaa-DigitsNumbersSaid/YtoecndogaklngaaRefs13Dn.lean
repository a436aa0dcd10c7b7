import Derived.Deep.LoopGhost
import Derived.Test.YtoecndogaklngaaS0Dn
import Derived.Test.YtoecndogaklngaaRefs12Dn
import Derived.Test.YtoecndogaklngaaTimes3Dn
import Derived.Test.YtoecndogaklngaaKit3Dn
set_option linter.unusedVariables false
set_option linter.unusedSimpArgs false
namespace Go.Proofs.Ytoecndogaklngaa
open Go.RowKit
theorem rdiv_yes (a : Option Addr) (n c : Nat) (l : List Nat) (a2 : Option Addr) (n2 c2 : Nat) (l2 : List Nat) (w : World) (h : NatAt w a n c l) (h2 : NatAt w a2 n2 c2 l2) (hs : n ≤ 200000) (hs2 : n2 ≤ 200000) (hz : val l2 ≠ 0) :
 Calls Try.prog 46 #[.slice a n c, .slice a2 n2 c2] w (RetDiv w (val l / val l2) (val l % val l2)) := by
 rcases Nat.lt_or_ge (nbits (val l)) (nbits (val l2)) with hv | hv
 · exact rdiv_less _ _ _ l _ _ _ l2 w h h2 hs hs2 hz hv
 · exact rdiv_ge _ _ _ l _ _ _ l2 w h h2 hs hs2 hz hv
set_option maxRecDepth 100000 in
theorem rpart_yes (a : Option Addr) (n c : Nat) (l : List Nat) (x : Nat) (w : World) (g1 : NatAt w a n c l) (hs : n ≤ 200000) (hx0 : 0 < x) (hx : x < 18446744073709551616) :
 Calls Try.prog 30 #[.slice a n c, .int .u64 (x : Int)] w (RetPart w (val l / x) (val l % x)) := by
 have v1 : val [x] = x := by simp [val]
 have hz : val [x] ≠ 0 := by omega
 have ho : oneN (val (digs (val l % x))) = val l % x := by rw [val_digs]; exact if_pos (Nat.lt_trans (Nat.mod_lt _ hx0) hx)
 have kR : (digs (val l % x)).length ≤ 1 := digs_length_le.2 (by rw [Nat.pow_one]; exact Nat.lt_trans (Nat.mod_lt _ hx0) hx)
 have V1 := Lib.hid v1
 have HZ := Lib.hid hz
 have HO := Lib.hid ho
 have HX := Lib.hid hx
 have KR := Lib.hid kR
 obtain ⟨R, hR⟩ : ∃ R, val l % x = R := ⟨_, rfl⟩
 rw [hR] at HO KR ⊢
 have HR := Lib.hid hR
 clear v1 hz ho hx0 hx kR hR
 go_enter Try.func30, Try.ntmps30
 have hB := Below.refl w.heap.size w
 go_wp2_with fail
 have hlit : OwnAt (w.alloc (.cells #[.int .u64 (x : Int)] 39)) w.heap.size (some ⟨w.heap.size, 0, none⟩) 1 1 [x] := lit1 w (x : Int) x rfl HX.out
 obtain ⟨w1, hW⟩ : ∃ W, w.alloc (.cells #[.int .u64 (x : Int)] 39) = W := ⟨_, rfl⟩
 have hb1 : Below w.heap.size w w1 := by rw [← hW]; exact (Below.refl _ _).alloc (Nat.le_refl _) _
 rw [hW] at hlit ⊢
 clear hW
 have g1 := g1.past hb1
 with_reducible refine (rdiv_yes _ _ _ l _ _ _ [x] _ g1 hlit.toNatAt (by omega) (by decide) HZ.out).mono ?_
 rintro e w2 ⟨aQ, nQ, cQ, aR, nR, cR, rfl, hQ, hR, hb⟩
 rw [V1.out] at hQ hR
 rw [HR.out] at hR
 have hB := below_later hb1 hb
 have hQ := hQ.mono hb1.size
 clear hb hb1 hlit g1
 have lR := hR.len
 have KR2 : Hid (nR ≤ 1) := Lib.hid (by have := KR.out; omega)
 clear lR
 go_wp2_with fail
 with_reducible refine (rone_any _ _ _ (digs R) _ hR.toNatAt (by have := KR2.out; omega)).mono ?_
 rintro e w3 ⟨rfl, hb⟩
 rw [HO.out]
 have hQ := hQ.later hb (Nat.le_refl _)
 have hB := below_later hB hb
 clear hb hR
 go_wp2
 go_ret3
 exact ⟨_, _, _, rfl, hQ, hB⟩
end Go.Proofs.Ytoecndogaklngaa
