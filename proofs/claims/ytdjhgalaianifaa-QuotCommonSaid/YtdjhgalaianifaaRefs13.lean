/- the reference of quot, third part: Div, Part, Gcd, Divides. -/
import Derived.Test.YtdjhgalaianifaaRefs12
import Derived.Test.YtdjhgalaianifaaQuot4
import Derived.Test.YtdjhgalaianifaaKit3
set_option linter.unusedVariables false
set_option linter.unusedSimpArgs false
namespace Go.Proofs.Ytdjhgalaianifaa
open Go.RowKit

theorem rdiv_yes (a : Option Addr) (n c : Nat) (l : List Nat) (a2 : Option Addr) (n2 c2 : Nat) (l2 : List Nat) (w : World) (h : NatAt w a n c l) (h2 : NatAt w a2 n2 c2 l2) (hs : n ≤ 200000) (hs2 : n2 ≤ 200000) (hz : val l2 ≠ 0) :
    Calls Try.prog 29 #[.slice a n c, .slice a2 n2 c2] w (RetDiv w (val l / val l2) (val l % val l2)) := by
  rcases Nat.lt_or_ge (nbits (val l)) (nbits (val l2)) with hv | hv
  · exact rdiv_less _ _ _ l _ _ _ l2 w h h2 hs hs2 hz hv
  · exact rdiv_ge _ _ _ l _ _ _ l2 w h h2 hs hs2 hz hv

set_option maxRecDepth 100000 in
set_option maxHeartbeats 2000000 in
theorem rgcd_any (a : Option Addr) (n c : Nat) (l : List Nat) (a2 : Option Addr) (n2 c2 : Nat) (l2 : List Nat) (w : World) (h : NatAt w a n c l) (h2 : NatAt w a2 n2 c2 l2) (hs : n ≤ 200000) (hs2 : n2 ≤ 200000) :
    Calls Try.prog 20 #[.slice a n c, .slice a2 n2 c2] w (RetNat w (Nat.gcd (val l) (val l2))) := by
  go_enter Try.func20, Try.ntmps20
  go_wp2_with fail
  with_reducible refine (rtrim_any _ _ _ l _ h (by omega)).mono ?_
  rintro e w1 ⟨a1, n1, c1, rfl, h3, hb1⟩
  have h2 := h2.later hb1 (Nat.le_refl _)
  go_wp2_with fail
  with_reducible refine (rtrim_any _ _ _ l2 _ h2 (by omega)).mono ?_
  rintro e w2 ⟨a4, n4, c4, rfl, h4, hb2⟩
  have b1 : n1 ≤ n := by have e1 := h3.len; have e2 := digs_length_val h.dig; rw [h.len] at e2; omega
  have b4 : n4 ≤ n2 := by have e1 := h4.len; have e2 := digs_length_val h2.dig; rw [h2.len] at e2; omega
  have h3 := h3.later hb2 (Nat.le_refl _)
  have hb := below_later hb1 hb2
  have h4 := h4.mono hb1.size
  clear hb1 hb2 h2 h
  go_wp2_with fail
  go_loopg [0, 1] (val l2) (fun k s0 s1 wr => ∃ (x : Nat) (a : Option Addr) (n c : Nat) (a2 : Option Addr) (n2 c2 : Nat), s0 = .slice a n c ∧ s1 = .slice a2 n2 c2 ∧ OwnAt wr w.heap.size a n c (digs x) ∧ OwnAt wr w.heap.size a2 n2 c2 (digs k) ∧ Nat.gcd x k = Nat.gcd (val l) (val l2) ∧ n ≤ 200000 ∧ n2 ≤ 200000 ∧ Below w.heap.size w wr)
  case atStart => exact ⟨val l, _, _, _, _, _, _, rfl, rfl, h3, h4, rfl, by omega, by omega, hb⟩
  case round =>
    clear h3 h4 hb b1 b4
    obtain ⟨x, a5, n5, c5, a6, n6, c6, rfl, rfl, h5, h6, hg, b5, b6, hb⟩ := hrel
    have hl6 := h6.len
    by_cases hk : gk = 0
    · subst hk
      rw [Nat.gcd_zero_right] at hg
      rw [hg] at h5
      obtain rfl : n6 = 0 := hl6.symm
      have h5 := h5
      clear hg h6 hl6
      go_wp2
      go_ret
      exact ⟨_, _, _, rfl, h5, hb⟩
    · have hn6 : 0 < n6 := by
        rcases Nat.eq_zero_or_pos n6 with h0 | h0
        · exact absurd (digs_len0.1 (hl6.trans h0)) hk
        · exact h0
      have HK := Lib.hid hk
      have HG := Lib.hid hg
      clear hl6 hk hg
      go_wp2_with fail
      with_reducible refine (rdiv_yes _ _ _ (digs x) _ _ _ (digs gk) _ h5.toNatAt h6.toNatAt (by omega) (by omega) (by rw [val_digs]; exact HK.out)).mono ?_
      rintro e w7 ⟨a7, n7, c7, a8, n8, c8, rfl, h7, h8, hb8⟩
      rw [val_digs, val_digs] at h8
      have h9 := h6.later hb8 (Nat.le_refl _)
      have h8 := h8.mono hb.size
      have b8 : n8 ≤ 200000 := by
        have e1 := h8.len
        have e2 := digs_len_mono (Nat.le_of_lt (Nat.mod_lt x (Nat.pos_of_ne_zero HK.out)))
        have e3 := h6.len
        omega
      have hb9 := below_later hb hb8
      clear hb8 h7 h5 h6 hb b5
      have hg2 : Nat.gcd gk (x % gk) = Nat.gcd (val l) (val l2) := by rw [← HG.out, Nat.gcd_comm gk, ← Nat.gcd_rec, Nat.gcd_comm]
      have HG2 := Lib.hid hg2
      have hlt : x % gk < gk := Nat.mod_lt _ (Nat.pos_of_ne_zero HK.out)
      have HLT := Lib.hid hlt
      clear hg2 hlt
      go_wp2
      go_roundg (x % gk)
      case measure => exact HLT.out
      case rel => exact ⟨gk, _, _, _, _, _, _, rfl, rfl, h9, h8, HG2.out, b6, b8, hb9⟩

theorem rdivides_any (a : Option Addr) (n c : Nat) (l : List Nat) (a2 : Option Addr) (n2 c2 : Nat) (l2 : List Nat) (w : World) (h : NatAt w a n c l) (h2 : NatAt w a2 n2 c2 l2) (hs : n ≤ 200000) (hs2 : n2 ≤ 200000) :
    Calls Try.prog 33 #[.slice a n c, .slice a2 n2 c2] w (RetVal w (.bool (dvdB (val l) (val l2)))) := by
  by_cases hz : val l = 0
  · rw [hz, dvdB_zero]
    have HZ := Lib.hid hz
    clear hz
    go_enter Try.func33, Try.ntmps33
    go_wp2_with fail
    with_reducible refine (rdiv_zero _ _ _ l2 _ _ _ l _ h2 h (by omega) (by omega) HZ.out).mono ?_
    rintro e w1 ⟨rfl, hb1⟩
    have h2 := h2.later hb1 (Nat.le_refl _)
    go_wp2_with fail
    with_reducible refine (rtrim_any _ _ _ l2 _ h2 (by omega)).mono ?_
    rintro e w2 ⟨a4, n4, c4, rfl, h4, hb2⟩
    have hl := h4.len
    have h0 := digs_len0 (n := val l2)
    have hb := below_later hb1 hb2
    have e : ((n4 : Int) == 0) = decide (val l2 = 0) := by
      rw [Bool.eq_iff_iff]; simp; omega
    have E := Lib.hid e
    clear hl h0 h4 hb1 hb2 e
    go_wp2
    go_ret
    exact ⟨ret_bool E.out, hb⟩
  · rw [dvdB_pos]
    have HZ := Lib.hid hz
    clear hz
    go_enter Try.func33, Try.ntmps33
    go_wp2_with fail
    with_reducible refine (rdiv_yes _ _ _ l2 _ _ _ l _ h2 h (by omega) (by omega) HZ.out).mono ?_
    rintro e w1 ⟨a7, n7, c7, a8, n8, c8, rfl, h7, h8, hb1⟩
    have hl := h8.len
    have h0 := digs_len0 (n := val l2 % val l)
    have e : ((n8 : Int) == 0) = decide (val l2 % val l = 0) := by
      rw [Bool.eq_iff_iff]; simp; omega
    have E := Lib.hid e
    clear hl h0 h8 h7 e
    go_wp2
    go_ret
    exact ⟨ret_bool E.out, hb1⟩

theorem rpart_zero (a : Option Addr) (n c : Nat) (l : List Nat) (w : World) (g1 : NatAt w a n c l) (hs : n ≤ 200000) :
    Calls Try.prog 31 #[.slice a n c, .int .u64 0] w (RetVal w (.tuple #[.slice none 0 0, .int .u64 0, .int .i64 5])) := by
  go_enter Try.func31, Try.ntmps31
  have hB := Below.refl w.heap.size w
  go_wp2_with fail
  obtain ⟨w1, hW, hz0, hb, q, f⟩ := box1g w (w.heap.size) (by omega) #[.int .u64 0] 37
  have h0x1 : OwnAt w1 w.heap.size (some ⟨w.heap.size, 0, none⟩) 1 1 [0] := by rw [← hW]; exact litG _ _ _ [0] 1 (by omega) rfl rfl (by decide) (by decide)
  rw [hW]
  clear hW
  have g1 := g1.past hb
  have hB := below_later hB hb
  clear hb
  have x1 := h0x1
  clear h0x1
  clear q f
  clear hz0
  refine (rdiv_zero _ _ _ l _ _ _ [0] _ g1 x1.toNatAt (by omega) (by decide) (by decide)).mono ?_
  rintro e w2 ⟨rfl, hb⟩
  have g1 := g1.past hb
  have x1 := x1.past hb
  have hB := below_later hB hb
  clear hb
  go_wp2_with fail
  refine (rone_any _ _ _ [] _ (NatAt.nil _) (by decide)).mono ?_
  rintro e w3 ⟨rfl, hb⟩
  have hB := below_later hB hb
  clear hb
  go_wp2
  go_ret3
  exact ⟨rfl, hB⟩

set_option maxRecDepth 100000 in
theorem rpart_yes (a : Option Addr) (n c : Nat) (l : List Nat) (x : Nat) (w : World) (g1 : NatAt w a n c l) (hs : n ≤ 200000) (hx0 : 0 < x) (hx : x < 18446744073709551616) :
    Calls Try.prog 31 #[.slice a n c, .int .u64 (x : Int)] w (RetPart w (val l / x) (val l % x)) := by
  have v1 : val [x] = x := by simp [val]
  have hz : val [x] ≠ 0 := by omega
  have ho : oneN (val (digs (val l % x))) = val l % x := by rw [val_digs]; exact if_pos (Nat.lt_trans (Nat.mod_lt _ hx0) hx)
  have kR : (digs (val l % x)).length ≤ 1 := digs_length_le.2 (by rw [Nat.pow_one]; exact Nat.lt_trans (Nat.mod_lt _ hx0) hx)
  have V1 := Lib.hid v1
  have HZ := Lib.hid hz
  have HO := Lib.hid ho
  have HX := Lib.hid hx
  have KR := Lib.hid kR
  obtain ⟨R, hR⟩ : ∃ R, val l % x = R := ⟨_, rfl⟩
  rw [hR] at HO KR ⊢
  have HR := Lib.hid hR
  clear v1 hz ho hx0 hx kR hR
  go_enter Try.func31, Try.ntmps31
  have hB := Below.refl w.heap.size w
  go_wp2_with fail
  have hlit : OwnAt (w.alloc (.cells #[.int .u64 (x : Int)] 37)) w.heap.size (some ⟨w.heap.size, 0, none⟩) 1 1 [x] := lit1 w (x : Int) x rfl HX.out
  obtain ⟨w1, hW⟩ : ∃ W, w.alloc (.cells #[.int .u64 (x : Int)] 37) = W := ⟨_, rfl⟩
  have hb1 : Below w.heap.size w w1 := by rw [← hW]; exact (Below.refl _ _).alloc (Nat.le_refl _) _
  rw [hW] at hlit ⊢
  clear hW
  have g1 := g1.past hb1
  with_reducible refine (rdiv_yes _ _ _ l _ _ _ [x] _ g1 hlit.toNatAt (by omega) (by decide) HZ.out).mono ?_
  rintro e w2 ⟨aQ, nQ, cQ, aR, nR, cR, rfl, hQ, hR, hb⟩
  rw [V1.out] at hQ hR
  rw [HR.out] at hR
  have hB := below_later hb1 hb
  have hQ := hQ.mono hb1.size
  clear hb hb1 hlit g1
  have lR := hR.len
  have KR2 : Hid (nR ≤ 1) := Lib.hid (by have := KR.out; omega)
  clear lR
  go_wp2_with fail
  with_reducible refine (rone_any _ _ _ (digs R) _ hR.toNatAt (by have := KR2.out; omega)).mono ?_
  rintro e w3 ⟨rfl, hb⟩
  rw [HO.out]
  have hQ := hQ.later hb (Nat.le_refl _)
  have hB := below_later hB hb
  clear hb hR
  go_wp2
  go_ret3
  exact ⟨_, _, _, rfl, hQ, hB⟩

end Go.Proofs.Ytdjhgalaianifaa
