import Derived.Test.YtoecndogaklngaaGreatDoorS0Df
import Derived.Test.YtoecndogaklngaaGreatDoorDigits2Df
import Derived.Test.YtoecndogaklngaaGreatDoorDigits6Df
import Derived.Test.YtoecndogaklngaaGreatDoorNumDf
import Derived.Test.YtoecndogaklngaaGreatDoorLimbs1Df
import Derived.Test.YtoecndogaklngaaGreatDoorKit3Df
set_option linter.unusedVariables false
set_option linter.unusedSimpArgs false
namespace Go.Proofs.YtoecndogaklngaaGreatDoor
open Go.RowKit
set_option maxRecDepth 100000 in
set_option maxHeartbeats 1000000 in
theorem gets_yes (s : ByteArray) (a2 : Option Addr) (n2 c2 : Nat) (N E A : Nat) (w : World) (h2 : NatAt w a2 n2 c2 (digs N)) (hs : s.size ≤ 9223372036854775807) (hN : getN s.data.toList = N) (hE : getE s.data.toList = E) (hA : getA s.data.toList = A) :
 Calls Tryz.prog 14 #[.string s, .slice a2 n2 c2, .int .i64 (E : Int), .int .i64 (A : Int)] w (RetVal w (.bool true)) := by
 have hg := fun w => get_any s w hs
 rw [hN, hE, hA] at hg
 have HG := Lib.hid hg
 clear hg hN hE hA
 go_enter Tryz.func14, Tryz.ntmps14
 go_wp2_with fail
 refine (HG.out _).mono ?_
 rintro e w1 ⟨a1, n1, c1, rfl, h1, hb1⟩
 go_wp2_with fail
 obtain ⟨wA, hW, hz0, hbA, q, f⟩ := box1g w1 (w1.heap.size) (by omega) #[.int .i64 (E : Int), .int .i64 (A : Int)] 35
 try rw [hW]
 have lA : w1.heap.size < wA.heap.size := by omega
 have q0 := q 0
 have q1 := q 1
 simp only [lgA, lgZ, lgS] at q0 q1
 have h1 := h1.toNatAt.past hbA
 have h2 := (h2.past hb1).past hbA
 have hB := below_later hb1 hbA
 clear q f hW hz0 hb1 hbA HG
 refine (sameNat_yes h1 h2).mono ?_
 rintro e w2 ⟨rfl, hb⟩
 have q0 := (hb.cell (p := ⟨w1.heap.size, 0, none⟩) lA).trans q0
 have q1 := (hb.cell (p := ⟨w1.heap.size, 1, none⟩) lA).trans q1
 have hB := below_later hB hb
 go_wp2
 go_ret
 exact ⟨rfl, hB⟩
theorem two64 : digs 18446744073709551616 = [0, 1] := by decide +kernel
def tx64 : ByteArray := ⟨#[49, 56, 52, 52, 54, 55, 52, 52, 48, 55, 51, 55, 48, 57, 53, 53, 49, 54, 49, 54]⟩
theorem tx64_dec : decS (val [0, 1]) = tx64 := by decide +kernel
theorem tx64_get : getN tx64.data.toList = 18446744073709551616 ∧ getE tx64.data.toList = 0 ∧ getA tx64.data.toList = 0 := by decide +kernel
theorem tx007_get : getN [48, 48, 55] = 0 ∧ getE [48, 48, 55] = 6 ∧ getA [48, 48, 55] = 1 := by decide +kernel
set_option maxRecDepth 100000 in
set_option maxHeartbeats 1000000 in
theorem awake06 (w : World) : Calls Tryz.prog 5 #[] w (RetVal w (.bool true)) := by
 go_enter Tryz.func5, Tryz.ntmps5
 go_wp2_with fail
 obtain ⟨w1, hW, hz0, hb1, q, f⟩ := box1g w (w.heap.size) (by omega) #[.int .u64 0, .int .u64 1] 42
 have h1 : OwnAt w1 w.heap.size (some ⟨w.heap.size, 0, none⟩) 2 2 [0, 1] := by rw [← hW]; exact lit2 w 0 1 0 1 rfl (by decide) rfl (by decide)
 try rw [hW]
 clear q f hz0 hW
 have hp := put_any _ _ _ _ w1 h1.toNatAt (by decide)
 rw [tx64_dec] at hp
 refine hp.mono ?_
 rintro e w2 ⟨rfl, hb2⟩
 have hB := below_later hb1 hb2
 unfold tx64
 go_wp2_with fail
 obtain ⟨w3, hW, hz0, hb3, q, f⟩ := box1g w2 (w2.heap.size) (by omega) #[.int .u64 0, .int .u64 1] 42
 have h3 : OwnAt w3 w2.heap.size (some ⟨w2.heap.size, 0, none⟩) 2 2 (digs 18446744073709551616) := by rw [two64, ← hW]; exact lit2 w2 0 1 0 1 rfl (by decide) rfl (by decide)
 try rw [hW]
 have hB := below_later hB hb3
 clear q f hz0 hW hp h1
 refine (gets_yes tx64 _ _ _ 18446744073709551616 0 0 w3 h3.toNatAt (by decide) tx64_get.1 tx64_get.2.1 tx64_get.2.2).mono ?_
 rintro e w4 ⟨rfl, hb4⟩
 have hB := below_later hB hb4
 clear h3
 go_wp2_with fail
 refine (gets_yes ⟨#[48, 48, 55]⟩ none 0 0 0 6 1 w4 (NatAt.nil _) (by decide) tx007_get.1 tx007_get.2.1 tx007_get.2.2).mono ?_
 rintro e w5 ⟨rfl, hb5⟩
 have hB := below_later hB hb5
 go_wp2
 go_ret
 exact ⟨rfl, hB⟩
end Go.Proofs.YtoecndogaklngaaGreatDoor
