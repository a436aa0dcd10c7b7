import Derived.Test.YtoecndogaklngaaDoorS0Db
import Derived.Test.YtoecndogaklngaaDoorLaw06aDb
import Derived.Test.YtoecndogaklngaaDoorDigits3Db
import Derived.Test.YtoecndogaklngaaDoorDigits7Db
import Derived.Test.YtoecndogaklngaaDoorDigits8Db
import Derived.Test.YtoecndogaklngaaDoorDigits9Db
import Derived.Test.YtoecndogaklngaaDoorKit5Db
import Derived.Test.YtoecndogaklngaaDoorRatio3Db
set_option linter.unusedVariables false
set_option linter.unusedSimpArgs false
namespace Go.Proofs.YtoecndogaklngaaDoor
open Go.RowKit
def MaxL (w : World) : Prop := ∃ m : Int, w.cell? ⟨2, 0, none⟩ = some (.int .i64 m)
theorem MaxL.later {w w' : World} (h : MaxL w) (hb : Below w.heap.size w w') : MaxL w' := by
 obtain ⟨m, hm⟩ := h
 exact ⟨m, (hb.cell (p := ⟨2, 0, none⟩) (World.block_lt_of_cell? _ _ hm)).trans hm⟩
def RetRd (w : World) (b : Bool) (l l2 : List Nat) (E A : Int) (e : Ending) (w' : World) : Prop :=
 ∃ a n c a2 n2 c2, e = .returned (.tuple #[.agg #[.bool b, .slice a n c, .slice a2 n2 c2], .agg #[.int .i64 E, .int .i64 A]]) ∧ OwnAt w' w.heap.size a n c l ∧ OwnAt w' w.heap.size a2 n2 c2 l2 ∧ Below w.heap.size w w'
theorem read_is (s : ByteArray) (w : World) (hs : s.size ≤ 9223372036854775807) (hm : MaxL w) {b : Bool} {u d E A : Nat} (h1 : readR s.data.toList = (b, u, d)) (h2 : readE s.data.toList = E) (h3 : readA s.data.toList = A) :
 Calls Tryd.prog 24 #[.string s] w (RetRd w b (digs u) (digs d) (E : Int) (A : Int)) := by
 obtain ⟨m, hm⟩ := hm
 have h := read_any s w hs m hm
 rw [h1, h2, h3] at h
 exact h
def RetPr (w : World) (b : Bool) (l l2 : List Nat) (E : Int) (e : Ending) (w' : World) : Prop :=
 ∃ a n c a2 n2 c2, e = .returned (.tuple #[.agg #[.bool b, .slice a n c, .slice a2 n2 c2], .int .i64 E]) ∧ OwnAt w' w.heap.size a n c l ∧ OwnAt w' w.heap.size a2 n2 c2 l2 ∧ Below w.heap.size w w'
theorem pair_is (x y : Int) (w : World) (hx : -9223372036854775808 ≤ x ∧ x ≤ 9223372036854775807) (hy : -9223372036854775808 ≤ y ∧ y ≤ 9223372036854775807) {b : Bool} {l l2 : List Nat} {E : Int} (h1 : neg (pairR x y).up = b) (h2 : digs (pairR x y).up.natAbs = l) (h3 : (pairR x y).down = l2) (h4 : (pairR x y).why = E) :
 Calls Tryd.prog 7 #[.int .i64 x, .int .i64 y] w (RetPr w b l l2 E) := by
 have h := pair05_any x y w hx hy
 unfold RetAns at h
 rw [h1, h2, h3, h4] at h
 exact h
def RetFI (w : World) (l : List Nat) (E : Int) (e : Ending) (w' : World) : Prop :=
 ∃ a n c, e = .returned (.tuple #[.slice a n c, .int .i64 E]) ∧ OwnAt w' w.heap.size a n c l ∧ Below w.heap.size w w'
theorem fb_is (a : Option Addr) (n c : Nat) (L : List Nat) (w : World) (h : BytesAt w a n c L) {l : List Nat} {E : Nat} (h1 : digs (fbN L) = l) (h2 : fbE L = E) :
 Calls Tryd.prog 6 #[.slice a n c] w (RetFI w l (E : Int)) := by
 have h := frombytes_any a n c L w h
 unfold RetFB at h
 rw [h1, h2] at h
 exact h
theorem text_is (b : Bool) (a : Option Addr) (n c : Nat) (l : List Nat) (a2 : Option Addr) (n2 c2 : Nat) (l2 : List Nat) (w : World) (g1 : NatAt w a n c l) (g2 : NatAt w a2 n2 c2 l2) (hs : l.length ≤ 1073741824) (hs2 : l2.length ≤ 1073741824) {T : ByteArray} {E : Int} (h1 : textE b l l2 = T) (h2 : chkR b l l2 = E) :
 Calls Tryd.prog 8 #[.agg #[.bool b, .slice a n c, .slice a2 n2 c2]] w (RetVal w (.tuple #[.string T, .int .i64 E])) := by
 have h := text_any b a n c l a2 n2 c2 l2 w g1 g2 (by rw [← g1.len]; exact hs) (by rw [← g2.len]; exact hs2)
 rw [h1, h2] at h
 exact h
theorem put_is (a : Option Addr) (n c : Nat) (l : List Nat) (w : World) (h : NatAt w a n c l) (hs : l.length ≤ 1073741824) {T : ByteArray} (h1 : decS (val l) = T) :
 Calls Tryd.prog 9 #[.slice a n c] w (RetVal w (.string T)) := by
 have h := put_any a n c l w h (by rw [← h.len]; exact hs)
 rw [h1] at h
 exact h
theorem bytes_is (a : Option Addr) (n c : Nat) (l : List Nat) (w : World) (h : NatAt w a n c l) (hs : l.length ≤ 1073741824) {L : List Nat} (h1 : digL 256 (val l) = L) :
 Calls Tryd.prog 12 #[.slice a n c] w fun e w' => ∃ a n c, e = .returned (.slice a n c) ∧ BytesAt w' a n c L ∧ Below w.heap.size w w' := by
 have h := bytes_any a n c l w h (by rw [← h.len]; exact hs)
 rw [h1] at h
 exact h.mono fun e w' ⟨a, n, c, he, h2, hb⟩ => ⟨a, n, c, he, h2.toBytesAt, hb⟩
theorem same_is (b : Bool) (a : Option Addr) (n c : Nat) (l : List Nat) (a2 : Option Addr) (n2 c2 : Nat) (l2 : List Nat) (a3 : Option Addr) (n3 c3 : Nat) (a4 : Option Addr) (n4 c4 : Nat) (w : World) (g1 : NatAt w a n c l) (g2 : NatAt w a2 n2 c2 l2) (g3 : NatAt w a3 n3 c3 l) (g4 : NatAt w a4 n4 c4 l2) :
 Calls Tryd.prog 23 #[.agg #[.bool b, .slice a n c, .slice a2 n2 c2], .agg #[.bool b, .slice a3 n3 c3, .slice a4 n4 c4]] w (RetVal w (.bool true)) := by
 have h := sameRatio_any b a n c l a2 n2 c2 l2 b a3 n3 c3 l a4 n4 c4 l2 w g1 g2 g3 g4
 rwa [eqR_same] at h
theorem sameBytes_is (a : Option Addr) (n c : Nat) (l : List Nat) (a2 : Option Addr) (n2 c2 : Nat) (w : World) (h : BytesAt w a n c l) (h2 : BytesAt w a2 n2 c2 l) :
 Calls Tryd.prog 11 #[.slice a n c, .slice a2 n2 c2] w (RetVal w (.bool true)) := by
 have h := sameBytes_any a n c l a2 n2 c2 l w h h2
 rwa [eqY_self] at h
set_option maxRecDepth 100000 in
set_option maxHeartbeats 4000000 in
theorem reads_yes (w : World) (hm : MaxL w) : Calls Tryd.prog 15 #[.string ⟨#[45, 51, 47, 52]⟩, .int .i64 (-3), .int .i64 4] w (RetVal w (.bool true)) := by
 have e1 : readR [45, 51, 47, 52] = (true, 3, 4) ∧ readE [45, 51, 47, 52] = 0 ∧ readA [45, 51, 47, 52] = 0 := by decide +kernel
 have e2 : digs 3 = [3] ∧ digs 4 = [4] := by decide +kernel
 have hrd := fun w hm => read_is ⟨#[45, 51, 47, 52]⟩ w (by decide) hm e1.1 e1.2.1 e1.2.2
 simp only [e2.1, e2.2] at hrd
 have HRD := Lib.hid hrd
 have hpr := fun w => pair_is (-3) 4 w (by decide) (by decide) (b := true) (l := [3]) (l2 := [4]) (E := 0) (by decide +kernel) (by decide +kernel) (by decide +kernel) (by decide +kernel)
 have HPR := Lib.hid hpr
 clear e1 e2 hrd hpr
 go_enter Tryd.func15, Tryd.ntmps15
 have hB := Below.refl w.heap.size w
 go_wp2_with fail
 refine (HRD.out _ hm).mono ?_
 rintro e w1 ⟨ahAU, nhAU, chAU, ahAD, nhAD, chAD, rfl, hAU, hAD, hb⟩
 have hB := below_later hB hb
 clear hb
 go_wp2_with fail
 obtain ⟨w2, hW, hz0, hb, q, f⟩ := box1g w1 (w1.heap.size) (by omega) #[.bool true, .slice ahAU nhAU chAU, .slice ahAD nhAD chAD] 31
 rw [hW]
 clear hW
 have hAU := hAU.past hb
 have hAD := hAD.past hb
 have hB := below_later hB hb
 clear hb
 have lq : w1.heap.size < w2.heap.size := by omega
 have qq0 := q 0; have qq1 := q 1; have qq2 := q 2
 simp only [lgA, lgZ, lgS] at qq0 qq1 qq2
 clear q f
 obtain ⟨w3, hW, hz1, hb, q, f⟩ := box1g w2 (w1.heap.size + 1) (by omega) #[.int .i64 0, .int .i64 0] 48
 rw [hW]
 clear hW
 have hAU := hAU.past hb
 have hAD := hAD.past hb
 obtain ⟨qq0, qq1, qq2, lq⟩ := bq3 hb lq qq0 qq1 qq2
 have hB := below_later hB hb
 clear hb
 have lf : w1.heap.size + 1 < w3.heap.size := by omega
 have qf0 := q 0; have qf1 := q 1
 simp only [lgA, lgZ, lgS] at qf0 qf1
 clear q f
 clear hz0
 clear hz1
 refine (HPR.out _).mono ?_
 rintro e w4 ⟨ahCU, nhCU, chCU, ahCD, nhCD, chCD, rfl, hCU, hCD, hb⟩
 have hAU := hAU.past hb
 have hAD := hAD.past hb
 obtain ⟨qq0, qq1, qq2, lq⟩ := bq3 hb lq qq0 qq1 qq2
 obtain ⟨qf0, qf1, lf⟩ := bq2 hb lf qf0 qf1
 have hB := below_later hB hb
 clear hb
 go_wp2_with fail
 obtain ⟨w5, hW, hz0, hb, q, f⟩ := box1g w4 (w4.heap.size) (by omega) #[.bool true, .slice ahCU nhCU chCU, .slice ahCD nhCD chCD] 31
 rw [hW]
 clear hW
 have hAU := hAU.past hb
 have hAD := hAD.past hb
 have hCU := hCU.past hb
 have hCD := hCD.past hb
 obtain ⟨qq0, qq1, qq2, lq⟩ := bq3 hb lq qq0 qq1 qq2
 obtain ⟨qf0, qf1, lf⟩ := bq2 hb lf qf0 qf1
 have hB := below_later hB hb
 clear hb
 have lp : w4.heap.size < w5.heap.size := by omega
 have qp0 := q 0; have qp1 := q 1; have qp2 := q 2
 simp only [lgA, lgZ, lgS] at qp0 qp1 qp2
 clear q f
 clear hz0
 refine (same_is _ _ _ _ _ _ _ _ _ _ _ _ _ _ _ _ hAU.toNatAt hAD.toNatAt hCU.toNatAt hCD.toNatAt).mono ?_
 rintro e w6 ⟨rfl, hb⟩
 have hAU := hAU.past hb
 have hAD := hAD.past hb
 have hCU := hCU.past hb
 have hCD := hCD.past hb
 obtain ⟨qq0, qq1, qq2, lq⟩ := bq3 hb lq qq0 qq1 qq2
 obtain ⟨qf0, qf1, lf⟩ := bq2 hb lf qf0 qf1
 obtain ⟨qp0, qp1, qp2, lp⟩ := bq3 hb lp qp0 qp1 qp2
 have hB := below_later hB hb
 clear hb
 go_wp2
 go_ret
 exact ⟨rfl, hB⟩
set_option maxRecDepth 100000 in
set_option maxHeartbeats 4000000 in
theorem none_yes (s : ByteArray) (w : World) (hs : s.size ≤ 9223372036854775807) (hm : MaxL w) (h1 : readR s.data.toList = (false, 0, 0)) (h2 : readE s.data.toList = 6) (h3 : readA s.data.toList = 0) : Calls Tryd.prog 16 #[.string s] w (RetVal w (.bool true)) := by
 have hrd := fun w hm => read_is s w hs hm h1 h2 h3
 simp only [digs_zero] at hrd
 have HRD := Lib.hid hrd
 clear hrd h1 h2 h3
 go_enter Tryd.func16, Tryd.ntmps16
 have hB := Below.refl w.heap.size w
 go_wp2_with fail
 refine (HRD.out _ hm).mono ?_
 rintro e w1 ⟨ahAU, nhAU, chAU, ahAD, nhAD, chAD, rfl, hAU, hAD, hb⟩
 have hB := below_later hB hb
 clear hb
 go_wp2_with fail
 obtain ⟨w2, hW, hz0, hb, q, f⟩ := box1g w1 (w1.heap.size) (by omega) #[.bool false, .slice ahAU nhAU chAU, .slice ahAD nhAD chAD] 31
 rw [hW]
 clear hW
 have hAU := hAU.past hb
 have hAD := hAD.past hb
 have hB := below_later hB hb
 clear hb
 have lq : w1.heap.size < w2.heap.size := by omega
 have qq0 := q 0; have qq1 := q 1; have qq2 := q 2
 simp only [lgA, lgZ, lgS] at qq0 qq1 qq2
 clear q f
 obtain ⟨w3, hW, hz1, hb, q, f⟩ := box1g w2 (w1.heap.size + 1) (by omega) #[.int .i64 6, .int .i64 0] 48
 rw [hW]
 clear hW
 have hAU := hAU.past hb
 have hAD := hAD.past hb
 obtain ⟨qq0, qq1, qq2, lq⟩ := bq3 hb lq qq0 qq1 qq2
 have hB := below_later hB hb
 clear hb
 have lf : w1.heap.size + 1 < w3.heap.size := by omega
 have qf0 := q 0; have qf1 := q 1
 simp only [lgA, lgZ, lgS] at qf0 qf1
 clear q f
 clear hz0
 clear hz1
 refine (same_is _ _ _ _ _ _ _ _ _ _ _ _ _ _ _ _ hAU.toNatAt hAD.toNatAt (NatAt.nil _) (NatAt.nil _)).mono ?_
 rintro e w4 ⟨rfl, hb⟩
 have hAU := hAU.past hb
 have hAD := hAD.past hb
 obtain ⟨qq0, qq1, qq2, lq⟩ := bq3 hb lq qq0 qq1 qq2
 obtain ⟨qf0, qf1, lf⟩ := bq2 hb lf qf0 qf1
 have hB := below_later hB hb
 clear hb
 go_wp2
 go_ret
 exact ⟨rfl, hB⟩
theorem none_is (w : World) (hm : MaxL w) (l : List UInt8) (hl : l.length ≤ 10) (h : readR l = (false, 0, 0)) (h2 : readE l = 6) (h3 : readA l = 0) : Calls Tryd.prog 16 #[.string ⟨l.toArray⟩] w (RetVal w (.bool true)) :=
 none_yes ⟨l.toArray⟩ w (by show l.toArray.size ≤ _; simp; omega) hm h h2 h3
set_option maxRecDepth 100000 in
set_option maxHeartbeats 8000000 in
theorem digitsKnown_any (w : World) (hm : MaxL w) : Calls Tryd.prog 3 #[] w (RetVal w (.bool true)) := by
 have hfb1 := fun w a n c h => fb_is a n c [1, 2] w h (l := [258]) (E := 0) (by decide +kernel) (by decide +kernel)
 have hfb2 := fun w a n c h => fb_is a n c [0, 1] w h (l := []) (E := 6) (by decide +kernel) (by decide +kernel)
 have hfb3 := fun w => fb_is none 0 0 [] w (BytesAt.nil _) (l := []) (E := 0) (by decide +kernel) (by decide +kernel)
 have hpr1 := fun w => pair_is (-3) 4 w (by decide) (by decide) (b := true) (l := [3]) (l2 := [4]) (E := 0) (by decide +kernel) (by decide +kernel) (by decide +kernel) (by decide +kernel)
 have hpr2 := fun w => pair_is 5 1 w (by decide) (by decide) (b := false) (l := [5]) (l2 := [1]) (E := 0) (by decide +kernel) (by decide +kernel) (by decide +kernel) (by decide +kernel)
 have htx1 := fun a n c a2 n2 c2 w g1 g2 => text_is true a n c [3] a2 n2 c2 [4] w g1 g2 (by decide) (by decide) (T := ⟨#[45, 51, 47, 52]⟩) (E := 0) (by decide +kernel) (by decide +kernel)
 have htx2 := fun a n c a2 n2 c2 w g1 g2 => text_is false a n c [5] a2 n2 c2 [1] w g1 g2 (by decide) (by decide) (T := ⟨#[53]⟩) (E := 0) (by decide +kernel) (by decide +kernel)
 have hput := fun w => put_is none 0 0 [] w (NatAt.nil _) (by decide) (T := ⟨#[48]⟩) (by decide +kernel)
 have hgt1 := fun w => gets_yes ⟨#[]⟩ none 0 0 0 6 0 w (NatAt.nil _) (by decide) (by decide +kernel) (by decide +kernel) (by decide +kernel)
 have hgt2 := fun w => gets_yes ⟨#[49, 97]⟩ none 0 0 0 6 1 w (NatAt.nil _) (by decide) (by decide +kernel) (by decide +kernel) (by decide +kernel)
 have hby1 := fun w a n c h => bytes_is a n c [258] w h (by decide) (L := [1, 2]) (by decide +kernel)
 have hby2 := fun w => bytes_is none 0 0 [] w (NatAt.nil _) (by decide) (L := []) (by decide +kernel)
 have hn1 := fun w hm => none_is w hm [54, 47, 56] (by decide) (by decide +kernel) (by decide +kernel) (by decide +kernel)
 have hn2 := fun w hm => none_is w hm [53, 47, 49] (by decide) (by decide +kernel) (by decide +kernel) (by decide +kernel)
 have hn3 := fun w hm => none_is w hm [45, 48] (by decide) (by decide +kernel) (by decide +kernel) (by decide +kernel)
 have hn4 := fun w hm => none_is w hm [51, 47] (by decide) (by decide +kernel) (by decide +kernel) (by decide +kernel)
 have HFB1 := Lib.hid hfb1
 have HFB2 := Lib.hid hfb2
 have HFB3 := Lib.hid hfb3
 have HPR1 := Lib.hid hpr1
 have HPR2 := Lib.hid hpr2
 have HTX1 := Lib.hid htx1
 have HTX2 := Lib.hid htx2
 have HPUT := Lib.hid hput
 have HGT1 := Lib.hid hgt1
 have HGT2 := Lib.hid hgt2
 have HBY1 := Lib.hid hby1
 have HBY2 := Lib.hid hby2
 have HN1 := Lib.hid hn1
 have HN2 := Lib.hid hn2
 have HN3 := Lib.hid hn3
 have HN4 := Lib.hid hn4
 clear hfb1 hfb2 hfb3 hpr1 hpr2 htx1 htx2 hput hgt1 hgt2 hby1 hby2 hn1 hn2 hn3 hn4
 go_enter Tryd.func3, Tryd.ntmps3
 have hB := Below.refl w.heap.size w
 go_wp2_with fail
 obtain ⟨w1, hW, hz0, hb, q, f⟩ := box1g w (w.heap.size) (by omega) #[.int .u8 1, .int .u8 2] 5
 have h0x1 : BytesAt w1 (some ⟨w.heap.size, 0, none⟩) 2 2 [1, 2] := by rw [← hW]; exact (litB _ _ _ [1, 2] 2 (by omega) rfl rfl (by decide) (by decide)).toBytesAt
 rw [hW]
 clear hW hz0 q f
 have hB := below_later hB hb
 clear hb
 have x1 := h0x1
 clear h0x1
 go_wp2_with fail
 refine (HFB1.out _ _ _ _ x1).mono ?_
 rintro e w2 ⟨ah1, nh1, ch1, rfl, h1, hb⟩
 have x1 := x1.past hb
 have hB := below_later hB hb
 clear hb
 go_wp2_with fail
 obtain ⟨w3, hW, hz0, hb, q, f⟩ := box1g w2 (w2.heap.size) (by omega) #[.int .u8 0, .int .u8 1] 5
 have h0x2 : BytesAt w3 (some ⟨w2.heap.size, 0, none⟩) 2 2 [0, 1] := by rw [← hW]; exact (litB _ _ _ [0, 1] 2 (by omega) rfl rfl (by decide) (by decide)).toBytesAt
 rw [hW]
 clear hW hz0 q f
 have h1 := h1.past hb
 have hB := below_later hB hb
 clear hb
 have x2 := h0x2
 clear h0x2
 go_wp2_with fail
 refine (HFB2.out _ _ _ _ x2).mono ?_
 rintro e w4 ⟨ah2, nh2, ch2, rfl, h2, hb⟩
 have h1 := h1.past hb
 have x2 := x2.past hb
 have hB := below_later hB hb
 clear hb
 go_wp2_with fail
 refine (HFB3.out _).mono ?_
 rintro e w5 ⟨ah3, nh3, ch3, rfl, h3, hb⟩
 have h1 := h1.past hb
 have hB := below_later hB hb
 clear hb
 have l3 := h3.len
 obtain rfl : nh3 = 0 := l3.symm
 clear l3
 go_wp2_with fail
 refine (HPR1.out _).mono ?_
 rintro e w6 ⟨ahAU, nhAU, chAU, ahAD, nhAD, chAD, rfl, hAU, hAD, hb⟩
 have h1 := h1.past hb
 have hB := below_later hB hb
 clear hb
 go_wp2_with fail
 obtain ⟨w7, hW, hz0, hb, q, f⟩ := box1g w6 (w6.heap.size) (by omega) #[.bool true, .slice ahAU nhAU chAU, .slice ahAD nhAD chAD] 31
 rw [hW]
 clear hW
 have h1 := h1.past hb
 have hAU := hAU.past hb
 have hAD := hAD.past hb
 have hB := below_later hB hb
 clear hb
 have lp1 : w6.heap.size < w7.heap.size := by omega
 have qp10 := q 0; have qp11 := q 1; have qp12 := q 2
 simp only [lgA, lgZ, lgS] at qp10 qp11 qp12
 clear q f
 clear hz0
 refine (HTX1.out _ _ _ _ _ _ _ hAU.toNatAt hAD.toNatAt).mono ?_
 rintro e w8 ⟨rfl, hb⟩
 have h1 := h1.past hb
 have hAU := hAU.past hb
 have hAD := hAD.past hb
 obtain ⟨qp10, qp11, qp12, lp1⟩ := bq3 hb lp1 qp10 qp11 qp12
 have hB := below_later hB hb
 clear hb
 go_wp2_with fail
 refine (HPR2.out _).mono ?_
 rintro e w9 ⟨ahCU, nhCU, chCU, ahCD, nhCD, chCD, rfl, hCU, hCD, hb⟩
 have h1 := h1.past hb
 obtain ⟨qp10, qp11, qp12, lp1⟩ := bq3 hb lp1 qp10 qp11 qp12
 have hB := below_later hB hb
 clear hb
 go_wp2_with fail
 obtain ⟨w10, hW, hz0, hb, q, f⟩ := box1g w9 (w9.heap.size) (by omega) #[.bool false, .slice ahCU nhCU chCU, .slice ahCD nhCD chCD] 31
 rw [hW]
 clear hW
 have h1 := h1.past hb
 have hCU := hCU.past hb
 have hCD := hCD.past hb
 obtain ⟨qp10, qp11, qp12, lp1⟩ := bq3 hb lp1 qp10 qp11 qp12
 have hB := below_later hB hb
 clear hb
 have lp2 : w9.heap.size < w10.heap.size := by omega
 have qp20 := q 0; have qp21 := q 1; have qp22 := q 2
 simp only [lgA, lgZ, lgS] at qp20 qp21 qp22
 clear q f
 clear hz0
 refine (HTX2.out _ _ _ _ _ _ _ hCU.toNatAt hCD.toNatAt).mono ?_
 rintro e w11 ⟨rfl, hb⟩
 have h1 := h1.past hb
 have hCU := hCU.past hb
 have hCD := hCD.past hb
 obtain ⟨qp10, qp11, qp12, lp1⟩ := bq3 hb lp1 qp10 qp11 qp12
 obtain ⟨qp20, qp21, qp22, lp2⟩ := bq3 hb lp2 qp20 qp21 qp22
 have hB := below_later hB hb
 clear hb
 go_wp2_with fail
 refine (HPUT.out _).mono ?_
 rintro e w12 ⟨rfl, hb⟩
 have h1 := h1.past hb
 obtain ⟨qp10, qp11, qp12, lp1⟩ := bq3 hb lp1 qp10 qp11 qp12
 obtain ⟨qp20, qp21, qp22, lp2⟩ := bq3 hb lp2 qp20 qp21 qp22
 have hB := below_later hB hb
 clear hb
 go_wp2_with fail
 refine (HGT1.out _).mono ?_
 rintro e w13 ⟨rfl, hb⟩
 have h1 := h1.past hb
 obtain ⟨qp10, qp11, qp12, lp1⟩ := bq3 hb lp1 qp10 qp11 qp12
 obtain ⟨qp20, qp21, qp22, lp2⟩ := bq3 hb lp2 qp20 qp21 qp22
 have hB := below_later hB hb
 clear hb
 go_wp2_with fail
 refine (HGT2.out _).mono ?_
 rintro e w14 ⟨rfl, hb⟩
 have h1 := h1.past hb
 obtain ⟨qp10, qp11, qp12, lp1⟩ := bq3 hb lp1 qp10 qp11 qp12
 obtain ⟨qp20, qp21, qp22, lp2⟩ := bq3 hb lp2 qp20 qp21 qp22
 have hB := below_later hB hb
 clear hb
 go_wp2_with fail
 obtain ⟨w15, hW, hz0, hb, q, f⟩ := box1g w14 (w14.heap.size) (by omega) #[.int .u64 258] 40
 have h0y1 : OwnAt w15 w14.heap.size (some ⟨w14.heap.size, 0, none⟩) 1 1 [258] := by rw [← hW]; exact litG _ _ _ [258] 1 (by omega) rfl rfl (by decide) (by first | decide | (simp; omega))
 rw [hW]
 clear hW
 have h1 := h1.past hb
 obtain ⟨qp10, qp11, qp12, lp1⟩ := bq3 hb lp1 qp10 qp11 qp12
 obtain ⟨qp20, qp21, qp22, lp2⟩ := bq3 hb lp2 qp20 qp21 qp22
 have hB := below_later hB hb
 clear hb
 have y1 := h0y1
 clear h0y1
 clear q f
 clear hz0
 refine (HBY1.out _ _ _ _ y1.toNatAt).mono ?_
 rintro e w16 ⟨ab1, nb1, cb1, rfl, b1, hb⟩
 have h1 := h1.past hb
 have y1 := y1.past hb
 obtain ⟨qp10, qp11, qp12, lp1⟩ := bq3 hb lp1 qp10 qp11 qp12
 obtain ⟨qp20, qp21, qp22, lp2⟩ := bq3 hb lp2 qp20 qp21 qp22
 have hB := below_later hB hb
 clear hb
 go_wp2_with fail
 obtain ⟨w17, hW, hz0, hb, q, f⟩ := box1g w16 (w16.heap.size) (by omega) #[.int .u8 1, .int .u8 2] 5
 have h0x3 : BytesAt w17 (some ⟨w16.heap.size, 0, none⟩) 2 2 [1, 2] := by rw [← hW]; exact (litB _ _ _ [1, 2] 2 (by omega) rfl rfl (by decide) (by decide)).toBytesAt
 rw [hW]
 clear hW hz0 q f
 have h1 := h1.past hb
 have b1 := b1.past hb
 obtain ⟨qp10, qp11, qp12, lp1⟩ := bq3 hb lp1 qp10 qp11 qp12
 obtain ⟨qp20, qp21, qp22, lp2⟩ := bq3 hb lp2 qp20 qp21 qp22
 have hB := below_later hB hb
 clear hb
 have x3 := h0x3
 clear h0x3
 go_wp2_with fail
 refine (sameBytes_is _ _ _ _ _ _ _ _ b1 x3).mono ?_
 rintro e w18 ⟨rfl, hb⟩
 have h1 := h1.past hb
 have b1 := b1.past hb
 have x3 := x3.past hb
 obtain ⟨qp10, qp11, qp12, lp1⟩ := bq3 hb lp1 qp10 qp11 qp12
 obtain ⟨qp20, qp21, qp22, lp2⟩ := bq3 hb lp2 qp20 qp21 qp22
 have hB := below_later hB hb
 clear hb
 go_wp2_with fail
 refine (HBY2.out _).mono ?_
 rintro e w19 ⟨ab2, nb2, cb2, rfl, b2, hb⟩
 have h1 := h1.past hb
 obtain ⟨qp10, qp11, qp12, lp1⟩ := bq3 hb lp1 qp10 qp11 qp12
 obtain ⟨qp20, qp21, qp22, lp2⟩ := bq3 hb lp2 qp20 qp21 qp22
 have hB := below_later hB hb
 clear hb
 have l2 := b2.len
 obtain rfl : nb2 = 0 := l2.symm
 clear l2 b2
 go_wp2_with fail
 obtain ⟨w20, hW, hz0, hb, q, f⟩ := box1g w19 (w19.heap.size) (by omega) #[.int .u64 258] 40
 have h0y2 : OwnAt w20 w19.heap.size (some ⟨w19.heap.size, 0, none⟩) 1 1 [258] := by rw [← hW]; exact litG _ _ _ [258] 1 (by omega) rfl rfl (by decide) (by first | decide | (simp; omega))
 rw [hW]
 clear hW
 have h1 := h1.past hb
 obtain ⟨qp10, qp11, qp12, lp1⟩ := bq3 hb lp1 qp10 qp11 qp12
 obtain ⟨qp20, qp21, qp22, lp2⟩ := bq3 hb lp2 qp20 qp21 qp22
 have hB := below_later hB hb
 clear hb
 have y2 := h0y2
 clear h0y2
 clear q f
 clear hz0
 refine (sameNat_yes h1.toNatAt y2.toNatAt).mono ?_
 rintro e w21 ⟨rfl, hb⟩
 have h1 := h1.past hb
 have y2 := y2.past hb
 obtain ⟨qp10, qp11, qp12, lp1⟩ := bq3 hb lp1 qp10 qp11 qp12
 obtain ⟨qp20, qp21, qp22, lp2⟩ := bq3 hb lp2 qp20 qp21 qp22
 have hB := below_later hB hb
 clear hb
 go_wp2_with fail
 refine (awake06 _).mono ?_
 rintro e w22 ⟨rfl, hb⟩
 obtain ⟨qp10, qp11, qp12, lp1⟩ := bq3 hb lp1 qp10 qp11 qp12
 obtain ⟨qp20, qp21, qp22, lp2⟩ := bq3 hb lp2 qp20 qp21 qp22
 have hB := below_later hB hb
 clear hb
 go_wp2_with fail
 refine (reads_yes _ (hm.later hB)).mono ?_
 rintro e w23 ⟨rfl, hb⟩
 obtain ⟨qp10, qp11, qp12, lp1⟩ := bq3 hb lp1 qp10 qp11 qp12
 obtain ⟨qp20, qp21, qp22, lp2⟩ := bq3 hb lp2 qp20 qp21 qp22
 have hB := below_later hB hb
 clear hb
 go_wp2_with fail
 refine (HN1.out _ (hm.later hB)).mono ?_
 rintro e w24 ⟨rfl, hb⟩
 obtain ⟨qp10, qp11, qp12, lp1⟩ := bq3 hb lp1 qp10 qp11 qp12
 obtain ⟨qp20, qp21, qp22, lp2⟩ := bq3 hb lp2 qp20 qp21 qp22
 have hB := below_later hB hb
 clear hb
 go_wp2_with fail
 refine (HN2.out _ (hm.later hB)).mono ?_
 rintro e w25 ⟨rfl, hb⟩
 obtain ⟨qp10, qp11, qp12, lp1⟩ := bq3 hb lp1 qp10 qp11 qp12
 obtain ⟨qp20, qp21, qp22, lp2⟩ := bq3 hb lp2 qp20 qp21 qp22
 have hB := below_later hB hb
 clear hb
 go_wp2_with fail
 refine (HN3.out _ (hm.later hB)).mono ?_
 rintro e w26 ⟨rfl, hb⟩
 obtain ⟨qp10, qp11, qp12, lp1⟩ := bq3 hb lp1 qp10 qp11 qp12
 obtain ⟨qp20, qp21, qp22, lp2⟩ := bq3 hb lp2 qp20 qp21 qp22
 have hB := below_later hB hb
 clear hb
 go_wp2_with fail
 refine (HN4.out _ (hm.later hB)).mono ?_
 rintro e w27 ⟨rfl, hb⟩
 obtain ⟨qp10, qp11, qp12, lp1⟩ := bq3 hb lp1 qp10 qp11 qp12
 obtain ⟨qp20, qp21, qp22, lp2⟩ := bq3 hb lp2 qp20 qp21 qp22
 have hB := below_later hB hb
 clear hb
 go_wp2
 go_ret
 exact ⟨rfl, hB⟩
end Go.Proofs.YtoecndogaklngaaDoor
