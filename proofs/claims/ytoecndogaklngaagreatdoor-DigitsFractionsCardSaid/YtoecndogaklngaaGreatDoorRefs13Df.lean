import Derived.Deep.LoopGhost
import Derived.Test.YtoecndogaklngaaGreatDoorS0Df
import Derived.Test.YtoecndogaklngaaGreatDoorRefs12Df
import Derived.Test.YtoecndogaklngaaGreatDoorQuot4Df
import Derived.Test.YtoecndogaklngaaGreatDoorKit3Df
import Derived.Test.YtoecndogaklngaaGreatDoorNumDf
set_option linter.unusedVariables false
set_option linter.unusedSimpArgs false
namespace Go.Proofs.YtoecndogaklngaaGreatDoor
open Go.RowKit
theorem rdiv_yes (a : Option Addr) (n c : Nat) (l : List Nat) (a2 : Option Addr) (n2 c2 : Nat) (l2 : List Nat) (w : World) (h : NatAt w a n c l) (h2 : NatAt w a2 n2 c2 l2) (hs : n ≤ 200000) (hs2 : n2 ≤ 200000) (hz : val l2 ≠ 0) :
 Calls Tryz.prog 67 #[.slice a n c, .slice a2 n2 c2] w (RetDiv w (val l / val l2) (val l % val l2)) := by
 rcases Nat.lt_or_ge (nbits (val l)) (nbits (val l2)) with hv | hv
 · exact rdiv_less _ _ _ l _ _ _ l2 w h h2 hs hs2 hz hv
 · exact rdiv_ge _ _ _ l _ _ _ l2 w h h2 hs hs2 hz hv
set_option maxRecDepth 100000 in
set_option maxHeartbeats 2000000 in
theorem rgcd_any (a : Option Addr) (n c : Nat) (l : List Nat) (a2 : Option Addr) (n2 c2 : Nat) (l2 : List Nat) (w : World) (h : NatAt w a n c l) (h2 : NatAt w a2 n2 c2 l2) (hs : n ≤ 200000) (hs2 : n2 ≤ 200000) :
 Calls Tryz.prog 44 #[.slice a n c, .slice a2 n2 c2] w (RetNat w (Nat.gcd (val l) (val l2))) := by
 go_enter Tryz.func44, Tryz.ntmps44
 go_wp2_with fail
 with_reducible refine (rtrim_any _ _ _ l _ h (by omega)).mono ?_
 rintro e w1 ⟨a1, n1, c1, rfl, h3, hb1⟩
 have h2 := h2.later hb1 (Nat.le_refl _)
 go_wp2_with fail
 with_reducible refine (rtrim_any _ _ _ l2 _ h2 (by omega)).mono ?_
 rintro e w2 ⟨a4, n4, c4, rfl, h4, hb2⟩
 have b1 : n1 ≤ n := by have e1 := h3.len; have e2 := digs_length_val h.dig; rw [h.len] at e2; omega
 have b4 : n4 ≤ n2 := by have e1 := h4.len; have e2 := digs_length_val h2.dig; rw [h2.len] at e2; omega
 have h3 := h3.later hb2 (Nat.le_refl _)
 have hb := below_later hb1 hb2
 have h4 := h4.mono hb1.size
 clear hb1 hb2 h2 h
 go_wp2_with fail
 go_loopg [0, 1] (val l2) (fun k s0 s1 wr => ∃ (x : Nat) (a : Option Addr) (n c : Nat) (a2 : Option Addr) (n2 c2 : Nat), s0 = .slice a n c ∧ s1 = .slice a2 n2 c2 ∧ OwnAt wr w.heap.size a n c (digs x) ∧ OwnAt wr w.heap.size a2 n2 c2 (digs k) ∧ Nat.gcd x k = Nat.gcd (val l) (val l2) ∧ n ≤ 200000 ∧ n2 ≤ 200000 ∧ Below w.heap.size w wr)
 case atStart => exact ⟨val l, _, _, _, _, _, _, rfl, rfl, h3, h4, rfl, by omega, by omega, hb⟩
 case round =>
  clear h3 h4 hb b1 b4
  obtain ⟨x, a5, n5, c5, a6, n6, c6, rfl, rfl, h5, h6, hg, b5, b6, hb⟩ := hrel
  have hl6 := h6.len
  by_cases hk : gk = 0
  · subst hk
    rw [Nat.gcd_zero_right] at hg
    rw [hg] at h5
    obtain rfl : n6 = 0 := hl6.symm
    have h5 := h5
    clear hg h6 hl6
    go_wp2
    go_ret
    exact ⟨_, _, _, rfl, h5, hb⟩
  · have hn6 : 0 < n6 := by
     rcases Nat.eq_zero_or_pos n6 with h0 | h0
     · exact absurd (digs_len0.1 (hl6.trans h0)) hk
     · exact h0
    have HK := Lib.hid hk
    have HG := Lib.hid hg
    clear hl6 hk hg
    go_wp2_with fail
    with_reducible refine (rdiv_yes _ _ _ (digs x) _ _ _ (digs gk) _ h5.toNatAt h6.toNatAt (by omega) (by omega) (by rw [val_digs]; exact HK.out)).mono ?_
    rintro e w7 ⟨a7, n7, c7, a8, n8, c8, rfl, h7, h8, hb8⟩
    rw [val_digs, val_digs] at h8
    have h9 := h6.later hb8 (Nat.le_refl _)
    have h8 := h8.mono hb.size
    have b8 : n8 ≤ 200000 := by
     have e1 := h8.len
     have e2 := digs_len_mono (Nat.le_of_lt (Nat.mod_lt x (Nat.pos_of_ne_zero HK.out)))
     have e3 := h6.len
     omega
    have hb9 := below_later hb hb8
    clear hb8 h7 h5 h6 hb b5
    have hg2 : Nat.gcd gk (x % gk) = Nat.gcd (val l) (val l2) := by rw [← HG.out, Nat.gcd_comm gk, ← Nat.gcd_rec, Nat.gcd_comm]
    have HG2 := Lib.hid hg2
    have hlt : x % gk < gk := Nat.mod_lt _ (Nat.pos_of_ne_zero HK.out)
    have HLT := Lib.hid hlt
    clear hg2 hlt
    go_wp2
    go_roundg (x % gk)
    case measure => exact HLT.out
    case rel => exact ⟨gk, _, _, _, _, _, _, rfl, rfl, h9, h8, HG2.out, b6, b8, hb9⟩
set_option maxRecDepth 100000 in
theorem rpart_yes (a : Option Addr) (n c : Nat) (l : List Nat) (x : Nat) (w : World) (g1 : NatAt w a n c l) (hs : n ≤ 200000) (hx0 : 0 < x) (hx : x < 18446744073709551616) :
 Calls Tryz.prog 47 #[.slice a n c, .int .u64 (x : Int)] w (RetPart w (val l / x) (val l % x)) := by
 have v1 : val [x] = x := by simp [val]
 have hz : val [x] ≠ 0 := by omega
 have ho : oneN (val (digs (val l % x))) = val l % x := by rw [val_digs]; exact if_pos (Nat.lt_trans (Nat.mod_lt _ hx0) hx)
 have kR : (digs (val l % x)).length ≤ 1 := digs_length_le.2 (by rw [Nat.pow_one]; exact Nat.lt_trans (Nat.mod_lt _ hx0) hx)
 have V1 := Lib.hid v1
 have HZ := Lib.hid hz
 have HO := Lib.hid ho
 have HX := Lib.hid hx
 have KR := Lib.hid kR
 obtain ⟨R, hR⟩ : ∃ R, val l % x = R := ⟨_, rfl⟩
 rw [hR] at HO KR ⊢
 have HR := Lib.hid hR
 clear v1 hz ho hx0 hx kR hR
 go_enter Tryz.func47, Tryz.ntmps47
 have hB := Below.refl w.heap.size w
 go_wp2_with fail
 have hlit : OwnAt (w.alloc (.cells #[.int .u64 (x : Int)] 42)) w.heap.size (some ⟨w.heap.size, 0, none⟩) 1 1 [x] := lit1 w (x : Int) x rfl HX.out
 obtain ⟨w1, hW⟩ : ∃ W, w.alloc (.cells #[.int .u64 (x : Int)] 42) = W := ⟨_, rfl⟩
 have hb1 : Below w.heap.size w w1 := by rw [← hW]; exact (Below.refl _ _).alloc (Nat.le_refl _) _
 rw [hW] at hlit ⊢
 clear hW
 have g1 := g1.past hb1
 with_reducible refine (rdiv_yes _ _ _ l _ _ _ [x] _ g1 hlit.toNatAt (by omega) (by decide) HZ.out).mono ?_
 rintro e w2 ⟨aQ, nQ, cQ, aR, nR, cR, rfl, hQ, hR, hb⟩
 rw [V1.out] at hQ hR
 rw [HR.out] at hR
 have hB := below_later hb1 hb
 have hQ := hQ.mono hb1.size
 clear hb hb1 hlit g1
 have lR := hR.len
 have KR2 : Hid (nR ≤ 1) := Lib.hid (by have := KR.out; omega)
 clear lR
 go_wp2_with fail
 with_reducible refine (rone_any _ _ _ (digs R) _ hR.toNatAt (by have := KR2.out; omega)).mono ?_
 rintro e w3 ⟨rfl, hb⟩
 rw [HO.out]
 have hQ := hQ.later hb (Nat.le_refl _)
 have hB := below_later hB hb
 clear hb hR
 go_wp2
 go_ret3
 exact ⟨_, _, _, rfl, hQ, hB⟩
end Go.Proofs.YtoecndogaklngaaGreatDoor
set_option linter.unusedVariables false
set_option linter.unusedSimpArgs false
namespace Go.Proofs.YtoecndogaklngaaGreatDoor
open Go.RowKit
theorem rpart_ten (a : Option Addr) (n c : Nat) (N : Nat) (w : World) (h : NatAt w a n c (digs N)) (hs : n ≤ 200000) :
 Calls Tryz.prog 47 #[.slice a n c, .int .u64 10] w (RetPart w (N / 10) (N % 10)) := by
 have := rpart_yes a n c (digs N) 10 w h hs (by decide) (by decide)
 rw [val_digs] at this
 exact this
theorem one_text (R : Nat) (hR : R < 10) (w : World) : (convert 70 9 (.slice (some ⟨w.heap.size, 0, none⟩) 1 1)).run Tryz.prog (w.alloc (.cells #[.int .u8 (48 + (R : Int))] 5)) = .ok (.string (strB [R])) (w.alloc (.cells #[.int .u8 (48 + (R : Int))] 5)) := by
 have h := litB (E := 5) w w.heap.size #[.int .u8 (48 + (R : Int))] (chrs [R]) 1 rfl rfl rfl (by decide) (by simp [chrs]; omega)
 have := h.toBytesAt.text (P := Tryz.prog) 70 5 9 Tryz.underlying70 Tryz.underlying5 Tryz.underlying9
 rw [bytB_chrs] at this
 exact this
def RPutI (w : World) (N : Nat) (k : Nat) (s0 s3 : Value) (wr : World) : Prop :=
 ∃ (a : Option Addr) (n c : Nat) (L : List Nat), s0 = .slice a n c ∧ s3 = .string (strB L) ∧ OwnAt wr w.heap.size a n c (digs k) ∧ digL 10 N = digL 10 k ++ L ∧ n ≤ 100000 ∧ Below w.heap.size w wr
set_option maxRecDepth 100000 in
set_option maxHeartbeats 2000000 in
theorem rput_any (a : Option Addr) (n c : Nat) (l : List Nat) (w : World) (h : NatAt w a n c l) (hs : n ≤ 100000) :
 Calls Tryz.prog 20 #[.slice a n c] w (RetVal w (.string (decS (val l)))) := by
 have hlim : (digL 10 (val l)).length ≤ 2000000 := by have := digL_limbs h.dig; have := h.len; omega
 go_enter Tryz.func20, Tryz.ntmps20
 go_wp2_with fail
 with_reducible refine (rtrim_any _ _ _ _ _ h (by omega)).mono ?_
 rintro e w1 ⟨a1, n1, c1, rfl, h1, hb1⟩
 have hl1 := h1.len
 have hn1 : n1 ≤ n := by have := h.short; omega
 by_cases h0 : val l = 0
 · have hn0 : n1 = 0 := by rw [← hl1]; exact digs_len0.2 h0
   subst hn0
   have e : decS (val l) = ⟨#[48]⟩ := by rw [h0]; decide +kernel
   have E := Lib.hid e
   clear h1 hl1 h0 e
   go_wp2
   go_ret
   exact ⟨by rw [E.out]; rfl, hb1⟩
 · have hn0 : 0 < n1 := by
    rcases Nat.eq_zero_or_pos n1 with h2 | h2
    · exact absurd (digs_len0.1 (hl1.trans h2)) h0
    · exact h2
   have H0 := Lib.hid h0
   have hnb : ((n1 : Int) == 0) = false := beq_eq_false_iff_ne.2 (by omega)
   clear h0 hl1
   go_wp2_with fail
   go_loopg [0, 3] (val l) (fun k s0 s3 wr => RPutI w (val l) k s0 s3 wr)
   case atStart => exact ⟨_, _, _, [], rfl, rfl, h1, by simp, by omega, hb1⟩
   case round =>
    clear h1 hb1 hn1 hn0
    obtain ⟨a2, n2, c2, L, rfl, rfl, h2, hdig, hn2, hb⟩ := hrel
    have hl2 := h2.len
    by_cases hk : gk = 0
    · subst hk
      obtain rfl : n2 = 0 := hl2.symm
      rw [digL_zero, List.nil_append] at hdig
      have e : decS (val l) = strB L := by unfold decS decL; rw [if_neg H0.out, hdig]
      have E := Lib.hid e
      clear h2 hdig hl2 e
      go_wp2
      go_ret
      exact ⟨by rw [E.out]; rfl, hb⟩
    · have hn : 0 < n2 := by
       rcases Nat.eq_zero_or_pos n2 with h3 | h3
       · exact absurd (digs_len0.1 (hl2.trans h3)) hk
       · exact h3
      have hst := digL_step (b := 10) (by decide) hk
      have hR : gk % 10 < 10 := Nat.mod_lt _ (by decide)
      have hlt : gk / 10 < gk := Nat.div_lt_self (by omega) (by decide)
      have hpart := fun w => rpart_ten a2 n2 c2 gk w
      obtain ⟨M, hM⟩ : ∃ M, gk / 10 = M := ⟨_, rfl⟩
      obtain ⟨R, hRe⟩ : ∃ R, gk % 10 = R := ⟨_, rfl⟩
      simp only [hM, hRe] at hpart hst hR hlt
      have hkk : (digs M).length ≤ (digs gk).length := digs_length_le.2 (Nat.lt_trans hlt (by have := val_lt (dig_digs gk); rwa [val_digs] at this))
      have hcv := fun w => one_text R hR w
      have hsz : (strB [R]).size + (strB L).size ≤ 9223372036854775807 := by
       have e1 := congrArg List.length hdig
       rw [List.length_append] at e1
       rw [strB_size, strB_size]
       have e2 : [R].length = 1 := rfl
       omega
      have HST := Lib.hid hst
      have HLT := Lib.hid hlt
      have HD := Lib.hid hdig
      have HKK := Lib.hid hkk
      have HP := Lib.hid hpart
      clear hst hlt hdig hM hRe hl2 hk hkk hpart
      go_wp2_with fail
      with_reducible refine (HP.out _ h2.toNatAt (by omega)).mono ?_
      rintro e w5 ⟨a3, n3, c3, rfl, h3, hb5⟩
      have h3 := h3.mono hb.size
      have hb := below_later hb hb5
      have hl3 := h3.len
      have hn3 : n3 ≤ 100000 := by have := HKK.out; have := h2.len; omega
      clear h2 hb5 HP HKK hn hl3
      go_wp2
      have hal := (Below.refl w5.heap.size w5).alloc (Nat.le_refl _) (.cells #[.int .u8 (48 + (R : Int))] 5)
      go_roundg M
      case measure => exact HLT.out
      case rel =>
       refine ⟨a3, _, c3, R :: L, rfl, ?_, h3.later hal (Nat.le_refl _), ?_, hn3, below_alloc hb _⟩
       · rw [strB_append]; rfl
       · rw [HD.out, HST.out, List.append_assoc]
         rfl
end Go.Proofs.YtoecndogaklngaaGreatDoor
