import Derived.Deep.LoopGhost
import Derived.Test.YtoecndogaklngaaS0Dn
import Derived.Test.YtoecndogaklngaaDecDn
import Derived.Test.YtoecndogaklngaaRefs13Dn
set_option linter.unusedVariables false
set_option linter.unusedSimpArgs false
namespace Go.Proofs.Ytoecndogaklngaa
open Go.RowKit
theorem rpart_ten (a : Option Addr) (n c : Nat) (N : Nat) (w : World) (h : NatAt w a n c (digs N)) (hs : n ≤ 200000) :
 Calls Try.prog 30 #[.slice a n c, .int .u64 10] w (RetPart w (N / 10) (N % 10)) := by
 have := rpart_yes a n c (digs N) 10 w h hs (by decide) (by decide)
 rw [val_digs] at this
 exact this
theorem one_text (R : Nat) (hR : R < 10) (w : World) : (convert 27 9 (.slice (some ⟨w.heap.size, 0, none⟩) 1 1)).run Try.prog (w.alloc (.cells #[.int .u8 (48 + (R : Int))] 5)) = .ok (.string (strB [R])) (w.alloc (.cells #[.int .u8 (48 + (R : Int))] 5)) := by
 have h := litB (E := 5) w w.heap.size #[.int .u8 (48 + (R : Int))] (chrs [R]) 1 rfl rfl rfl (by decide) (by simp [chrs]; omega)
 have := h.toBytesAt.text (P := Try.prog) 27 5 9 Try.underlying27 Try.underlying5 Try.underlying9
 rw [bytB_chrs] at this
 exact this
def RPutI (w : World) (N : Nat) (k : Nat) (s0 s3 : Value) (wr : World) : Prop :=
 ∃ (a : Option Addr) (n c : Nat) (L : List Nat), s0 = .slice a n c ∧ s3 = .string (strB L) ∧ OwnAt wr w.heap.size a n c (digs k) ∧ digL 10 N = digL 10 k ++ L ∧ n ≤ 100000 ∧ Below w.heap.size w wr
set_option maxRecDepth 100000 in
set_option maxHeartbeats 2000000 in
theorem rput_any (a : Option Addr) (n c : Nat) (l : List Nat) (w : World) (h : NatAt w a n c l) (hs : n ≤ 100000) :
 Calls Try.prog 10 #[.slice a n c] w (RetVal w (.string (decS (val l)))) := by
 have hlim : (digL 10 (val l)).length ≤ 2000000 := by have := digL_limbs h.dig; have := h.len; omega
 go_enter Try.func10, Try.ntmps10
 go_wp2_with fail
 with_reducible refine (rtrim_any _ _ _ _ _ h (by omega)).mono ?_
 rintro e w1 ⟨a1, n1, c1, rfl, h1, hb1⟩
 have hl1 := h1.len
 have hn1 : n1 ≤ n := by have := h.short; omega
 by_cases h0 : val l = 0
 · have hn0 : n1 = 0 := by rw [← hl1]; exact digs_len0.2 h0
   subst hn0
   have e : decS (val l) = ⟨#[48]⟩ := by rw [h0]; decide +kernel
   have E := Lib.hid e
   clear h1 hl1 h0 e
   go_wp2
   go_ret
   exact ⟨by rw [E.out]; rfl, hb1⟩
 · have hn0 : 0 < n1 := by
    rcases Nat.eq_zero_or_pos n1 with h2 | h2
    · exact absurd (digs_len0.1 (hl1.trans h2)) h0
    · exact h2
   have H0 := Lib.hid h0
   have hnb : ((n1 : Int) == 0) = false := beq_eq_false_iff_ne.2 (by omega)
   clear h0 hl1
   go_wp2_with fail
   go_loopg [0, 3] (val l) (fun k s0 s3 wr => RPutI w (val l) k s0 s3 wr)
   case atStart => exact ⟨_, _, _, [], rfl, rfl, h1, by simp, by omega, hb1⟩
   case round =>
    clear h1 hb1 hn1 hn0
    obtain ⟨a2, n2, c2, L, rfl, rfl, h2, hdig, hn2, hb⟩ := hrel
    have hl2 := h2.len
    by_cases hk : gk = 0
    · subst hk
      obtain rfl : n2 = 0 := hl2.symm
      rw [digL_zero, List.nil_append] at hdig
      have e : decS (val l) = strB L := by unfold decS decL; rw [if_neg H0.out, hdig]
      have E := Lib.hid e
      clear h2 hdig hl2 e
      go_wp2
      go_ret
      exact ⟨by rw [E.out]; rfl, hb⟩
    · have hn : 0 < n2 := by
       rcases Nat.eq_zero_or_pos n2 with h3 | h3
       · exact absurd (digs_len0.1 (hl2.trans h3)) hk
       · exact h3
      have hst := digL_step (b := 10) (by decide) hk
      have hR : gk % 10 < 10 := Nat.mod_lt _ (by decide)
      have hlt : gk / 10 < gk := Nat.div_lt_self (by omega) (by decide)
      have hpart := fun w => rpart_ten a2 n2 c2 gk w
      obtain ⟨M, hM⟩ : ∃ M, gk / 10 = M := ⟨_, rfl⟩
      obtain ⟨R, hRe⟩ : ∃ R, gk % 10 = R := ⟨_, rfl⟩
      simp only [hM, hRe] at hpart hst hR hlt
      have hkk : (digs M).length ≤ (digs gk).length := digs_length_le.2 (Nat.lt_trans hlt (by have := val_lt (dig_digs gk); rwa [val_digs] at this))
      have hcv := fun w => one_text R hR w
      have hsz : (strB [R]).size + (strB L).size ≤ 9223372036854775807 := by
       have e1 := congrArg List.length hdig
       rw [List.length_append] at e1
       rw [strB_size, strB_size]
       have e2 : [R].length = 1 := rfl
       omega
      have HST := Lib.hid hst
      have HLT := Lib.hid hlt
      have HD := Lib.hid hdig
      have HKK := Lib.hid hkk
      have HP := Lib.hid hpart
      clear hst hlt hdig hM hRe hl2 hk hkk hpart
      go_wp2_with fail
      with_reducible refine (HP.out _ h2.toNatAt (by omega)).mono ?_
      rintro e w5 ⟨a3, n3, c3, rfl, h3, hb5⟩
      have h3 := h3.mono hb.size
      have hb := below_later hb hb5
      have hl3 := h3.len
      have hn3 : n3 ≤ 100000 := by have := HKK.out; have := h2.len; omega
      clear h2 hb5 HP HKK hn hl3
      go_wp2
      have hal := (Below.refl w5.heap.size w5).alloc (Nat.le_refl _) (.cells #[.int .u8 (48 + (R : Int))] 5)
      go_roundg M
      case measure => exact HLT.out
      case rel =>
       refine ⟨a3, _, c3, R :: L, rfl, ?_, h3.later hal (Nat.le_refl _), ?_, hn3, below_alloc hb _⟩
       · rw [strB_append]; rfl
       · rw [HD.out, HST.out, List.append_assoc]
         rfl
end Go.Proofs.Ytoecndogaklngaa
