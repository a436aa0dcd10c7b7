import Derived.Test.YtoecndogaklngaaDoorS0Db
import Derived.Test.YtoecndogaklngaaDoorLaw06dDb
import Derived.Test.YtoecndogaklngaaDoorLimbs1Db
import Derived.Test.YtoecndogaklngaaDoorRow2Db
import Derived.Test.YtoecndogaklngaaDoorNumDb
set_option linter.unusedVariables false
set_option linter.unusedSimpArgs false
namespace Go.Proofs.YtoecndogaklngaaDoor
open Go.RowKit
theorem bytesAt_row {w : World} {a : Option Addr} {len cap : Nat} {zs : List Int} (h : RowIn .u8 w a len cap zs) : BytesAt w a len cap (digitsOf zs len) := by
 rcases h with ⟨rfl, rfl, rfl, rfl⟩ | ⟨x, rfl, h1, h2, h3, h4, h5⟩
 · exact BytesAt.nil w
 · have hz : ∀ n ∈ zs, 0 ≤ n ∧ n < 256 := by
    intro n hn
    have := h5 n hn
    simp only [Lit.wf, IntKind.min, IntKind.max, IntKind.signed, IntKind.bits, Bool.and_eq_true, decide_eq_true_eq] at this
    obtain ⟨t1, t2⟩ := this
    simp at t1 t2
    omega
   have hlen : (digitsOf zs len).length = len := by simp [digitsOf]; omega
   refine ⟨hlen, h1, h2, ?_, ?_, fun e => by cases e⟩
   · intro d hd
     obtain ⟨n, hn, rfl⟩ := List.mem_map.1 hd
     have := hz n (List.mem_of_mem_take hn)
     omega
   · by_cases h0 : len = 0
     · exact .inl h0
     · have hc0 := h4 0 (by omega)
       have hsp : x.spot = none := by
        rw [show x.add 0 = x from rfl] at hc0
        unfold World.cell? at hc0
        split at hc0
        · cases hs : x.spot with
          | none => rfl
          | some s => simp [hs] at hc0
        · simp at hc0
       obtain ⟨b, o, s⟩ := x
       cases hsp
       refine .inr ⟨b, o, rfl, fun i hi => ?_⟩
       have hc := h4 i (by omega)
       rw [addr_add] at hc
       rw [hc]
       have hi' : i < zs.length := by omega
       have hD : ((D (digitsOf zs len) i : Nat) : Int) = zs.getD i 0 := by
        unfold D digitsOf
        rw [List.getD_eq_getElem?_getD, List.getElem?_map, List.getElem?_take, if_pos hi, List.getElem?_eq_getElem hi', List.getD_eq_getElem?_getD, List.getElem?_eq_getElem hi']
        have := hz zs[i] (List.getElem_mem hi')
        simp
        omega
       rw [hD]
theorem fb_back {l : List Nat} (hl : Dig l) (h : l.length ≤ 20) : fbN (digL 256 (val l)) = val l ∧ fbE (digL 256 (val l)) = 0 := by
 have h1 := digL8_limbs hl
 have h2 : ¬ 10000 < (digL 256 (val l)).length := by omega
 have h3 := digL_head (b := 256) (by decide) (val l)
 unfold fbN fbE
 rw [if_neg h2, if_neg h3, if_neg h2, if_neg h3, valL_digL (by decide)]
 exact ⟨rfl, rfl⟩
theorem get_back {l : List Nat} (hl : Dig l) (h : l.length ≤ 20) : (decS (val l)).size ≤ 9223372036854775807 ∧ getN (decS (val l)).data.toList = val l ∧ getE (decS (val l)).data.toList = 0 ∧ getA (decS (val l)).data.toList = 0 := by
 have h1 := digL_limbs hl
 have h2 : (decL (val l)).length ≤ 10000 := by
  unfold decL
  split
  · decide
  · omega
 have h3 := okL_dec h2
 have h4 := decB_len (val l)
 rw [decS_list]
 refine ⟨by rw [← size_list, decS_list]; omega, h3.2, (getE_ok _).2 h3.1, ?_⟩
 unfold getA
 have h5 : fineL (decB (val l)) = true := fine_dec _
 rw [if_neg (by omega), h5]
 rfl
theorem put_back {s : ByteArray} (h : getE s.data.toList = 0) : decS (getN s.data.toList) = s := by
 have h2 := okL_back ((getE_ok _).1 h)
 have h3 := decS_list (getN s.data.toList)
 rw [h2] at h3
 have : ∀ x y : ByteArray, x.data.toList = y.data.toList → x = y := by
  intro x y e
  cases x; cases y
  congr 1
  exact Array.toList_inj.1 e
 exact this _ _ h3
theorem get_none {L : List UInt8} (h : getE L ≠ 0) : getN L = 0 := by
 unfold getN
 rw [if_neg]
 intro e
 exact h ((getE_ok L).2 e)
theorem check_is (a : Option Addr) (n c : Nat) (N : Nat) (w : World) (h : NatAt w a n c (digs N)) :
 Calls Tryd.prog 20 #[.slice a n c] w (RetVal w (.int .i64 0)) := by
 have h := check_any a n c (digs N) w h
 rw [chk_top.2 (top_digs N)] at h
 exact h.mono fun e w' ⟨he, hw⟩ => by subst hw; exact ⟨he, Below.refl _ _⟩
set_option maxRecDepth 100000 in
set_option maxHeartbeats 8000000 in
theorem digitsBack_long1 (a : Option Addr) (n c : Nat) (l : List Nat) (s : ByteArray) (a2 : Option Addr) (n2 c2 : Nat) (L : List Nat) (w : World) (g1 : NatAt w a n c l) (g2 : BytesAt w a2 n2 c2 L) (hs : s.size ≤ 9223372036854775807) (hm : MaxL w) (k1 : 20 < n) :
 Calls Tryd.prog 4 #[.slice a n c, .string s, .slice a2 n2 c2] w (RetVal w (.bool true)) := by
 have hcle := g1.cle
 have hle := g1.le
 have hcle2 := g2.cle
 have hle2 := g2.le
 have t1 : decide ((20 : Int) < (n : Int)) = true := decide_eq_true (by omega)
 go_enter Tryd.func4, Tryd.ntmps4
 have hB := Below.refl w.heap.size w
 go_wp2_with fail
 refine (digitsKnown_any _ (hm.later hB)).mono ?_
 rintro e w1 ⟨rfl, hb⟩
 have g1 := g1.past hb
 have g2 := g2.past hb
 have hB := below_later hB hb
 clear hb
 go_wp2_with fail
 with_reducible refine (longNat_any _ _ _ _ _ (by omega)).mono ?_
 rintro e w' ⟨rfl, rfl⟩
 go_wp2
 go_ret
 exact ⟨rfl, hB⟩
set_option maxRecDepth 100000 in
set_option maxHeartbeats 8000000 in
theorem digitsBack_long2 (a : Option Addr) (n c : Nat) (l : List Nat) (s : ByteArray) (a2 : Option Addr) (n2 c2 : Nat) (L : List Nat) (w : World) (g1 : NatAt w a n c l) (g2 : BytesAt w a2 n2 c2 L) (hs : s.size ≤ 9223372036854775807) (hm : MaxL w) (k1 : ¬ 20 < n) (k2 : 300 < s.size) :
 Calls Tryd.prog 4 #[.slice a n c, .string s, .slice a2 n2 c2] w (RetVal w (.bool true)) := by
 have hcle := g1.cle
 have hle := g1.le
 have hcle2 := g2.cle
 have hle2 := g2.le
 have t1 : decide ((20 : Int) < (n : Int)) = false := decide_eq_false (by omega)
 have t2 : decide ((300 : Int) < (s.size : Int)) = true := decide_eq_true (by omega)
 go_enter Tryd.func4, Tryd.ntmps4
 have hB := Below.refl w.heap.size w
 go_wp2_with fail
 refine (digitsKnown_any _ (hm.later hB)).mono ?_
 rintro e w1 ⟨rfl, hb⟩
 have g1 := g1.past hb
 have g2 := g2.past hb
 have hB := below_later hB hb
 clear hb
 go_wp2_with fail
 with_reducible refine (longNat_any _ _ _ _ _ (by omega)).mono ?_
 rintro e w' ⟨rfl, rfl⟩
 go_wp2
 go_ret
 exact ⟨rfl, hB⟩
set_option maxRecDepth 100000 in
set_option maxHeartbeats 8000000 in
theorem digitsBack_long3 (a : Option Addr) (n c : Nat) (l : List Nat) (s : ByteArray) (a2 : Option Addr) (n2 c2 : Nat) (L : List Nat) (w : World) (g1 : NatAt w a n c l) (g2 : BytesAt w a2 n2 c2 L) (hs : s.size ≤ 9223372036854775807) (hm : MaxL w) (k1 : ¬ 20 < n) (k2 : ¬ 300 < s.size) (k3 : 300 < n2) :
 Calls Tryd.prog 4 #[.slice a n c, .string s, .slice a2 n2 c2] w (RetVal w (.bool true)) := by
 have hcle := g1.cle
 have hle := g1.le
 have hcle2 := g2.cle
 have hle2 := g2.le
 have t1 : decide ((20 : Int) < (n : Int)) = false := decide_eq_false (by omega)
 have t2 : decide ((300 : Int) < (s.size : Int)) = false := decide_eq_false (by omega)
 have t3 : decide ((300 : Int) < (n2 : Int)) = true := decide_eq_true (by omega)
 go_enter Tryd.func4, Tryd.ntmps4
 have hB := Below.refl w.heap.size w
 go_wp2_with fail
 refine (digitsKnown_any _ (hm.later hB)).mono ?_
 rintro e w1 ⟨rfl, hb⟩
 have g1 := g1.past hb
 have g2 := g2.past hb
 have hB := below_later hB hb
 clear hb
 go_wp2_with fail
 with_reducible refine (longNat_any _ _ _ _ _ (by omega)).mono ?_
 rintro e w' ⟨rfl, rfl⟩
 go_wp2
 go_ret
 exact ⟨rfl, hB⟩
set_option maxRecDepth 100000 in
set_option maxHeartbeats 8000000 in
theorem digitsBack_m0e (a : Option Addr) (n c : Nat) (l : List Nat) (s : ByteArray) (a2 : Option Addr) (n2 c2 : Nat) (L : List Nat) (w : World) (g1 : NatAt w a n c l) (g2 : BytesAt w a2 n2 c2 L) (hs : s.size ≤ 9223372036854775807) (hm : MaxL w) (k1 : ¬ 20 < n) (k2 : ¬ 300 < s.size) (k3 : ¬ 300 < n2) (hE : getE s.data.toList = 0) (h0 : L.head? ≠ some 0) (k4 : n2 = 0) :
 Calls Tryd.prog 4 #[.slice a n c, .string s, .slice a2 n2 c2] w (RetVal w (.bool true)) := by
 have hcle := g1.cle
 have hle := g1.le
 have hcle2 := g2.cle
 have hle2 := g2.le
 have t1 : decide ((20 : Int) < (n : Int)) = false := decide_eq_false (by omega)
 have t2 : decide ((300 : Int) < (s.size : Int)) = false := decide_eq_false (by omega)
 have t3 : decide ((300 : Int) < (n2 : Int)) = false := decide_eq_false (by omega)
 have hl20 : l.length ≤ 20 := by rw [g1.len]; omega
 have hgl := get_back g1.dig hl20
 have hfl := fb_back g1.dig hl20
 have hll := digs_length_le (n := val l) (k := l.length) |>.2 (val_lt g1.dig)
 have hll2 : (digs (val l)).length ≤ 1073741824 := by omega
 obtain ⟨V, hV⟩ : ∃ V, val l = V := ⟨_, rfl⟩
 have htr := fun w g1 => trim_any a n c l w g1 (by omega)
 simp only [hV] at hgl hfl hll2 htr
 have hby := fun w a n c h => bytes_is a n c (digs V) w h hll2 (L := digL 256 V) (by rw [val_digs])
 have hfb := fun w a n c h => fb_is a n c (digL 256 V) w h (l := digs V) (E := 0) (by rw [hfl.1]) hfl.2
 have hput := fun w a n c h => put_is a n c (digs V) w h hll2 (T := decS V) (by rw [val_digs])
 have hgt := fun w a n c h => gets_yes (decS V) a n c V 0 0 w h hgl.1 hgl.2.1 hgl.2.2.1 hgl.2.2.2
 have hgs := fun w => get_any s w hs
 have hnl := getN_len s.data.toList
 have HTR := Lib.hid htr
 have HBY := Lib.hid hby
 have HFB := Lib.hid hfb
 have HPUT := Lib.hid hput
 have HGT := Lib.hid hgt
 obtain ⟨NS, hNS⟩ : ∃ x, getN s.data.toList = x := ⟨_, rfl⟩
 obtain ⟨AS, hAS⟩ : ∃ x, getA s.data.toList = x := ⟨_, rfl⟩
 have hpz := fun w a n c h => put_is a n c (digs NS) w h (by rw [← hNS]; omega) (T := s) (by rw [val_digs, ← hNS]; exact put_back hE)
 simp only [hNS, hE, hAS] at hgs
 have HGS := Lib.hid hgs
 have HPZ := Lib.hid hpz
 clear hgs hpz hNS hAS hE hnl htr hby hfb hput hgt hll hll2 hgl hfl hV
 subst k4
 have hfv := fun w a n c h => fb_is a n c L w h (l := digs (valL 256 L)) (E := 0) (by unfold fbN; rw [if_neg (by rw [g2.len]; omega), if_neg h0]) (by unfold fbE; rw [if_neg (by rw [g2.len]; omega), if_neg h0])
 have hbd : (digs (valL 256 L)).length ≤ 1073741824 := by
  have h1 := valL_lt (b := 256) L g2.dig
  have h2 : (digs (valL 256 L)).length ≤ L.length := digs_length_le.2 (Nat.lt_of_lt_of_le h1 (Nat.pow_le_pow_left (by decide) _))
  rw [g2.len] at h2
  omega
 have hbv := fun w a n c h => bytes_is a n c (digs (valL 256 L)) w h hbd (L := L) (by rw [val_digs]; exact digL_valL (by decide) L g2.dig h0)
 have HFV := Lib.hid hfv
 have HBV := Lib.hid hbv
 clear hfv hbd hbv
 clear h0
 go_enter Tryd.func4, Tryd.ntmps4
 have hB := Below.refl w.heap.size w
 go_wp2_with fail
 refine (digitsKnown_any _ (hm.later hB)).mono ?_
 rintro e w1 ⟨rfl, hb⟩
 have g1 := g1.past hb
 have g2 := g2.past hb
 have hB := below_later hB hb
 clear hb
 go_wp2_with fail
 with_reducible refine (longNat_any _ _ _ _ _ (by omega)).mono ?_
 rintro e w' ⟨rfl, rfl⟩
 go_wp2_with fail
 refine (HTR.out _ g1).mono ?_
 rintro e w2 ⟨ah1, nh1, ch1, rfl, h1, hb⟩
 have g1 := g1.past hb
 have g2 := g2.past hb
 have hB := below_later hB hb
 clear hb
 go_wp2_with fail
 refine (HBY.out _ _ _ _ h1.toNatAt).mono ?_
 rintro e w3 ⟨ab1, nb1, cb1, rfl, b1, hb⟩
 have g2 := g2.past hb
 have h1 := h1.past hb
 have hB := below_later hB hb
 clear hb
 go_wp2_with fail
 refine (HFB.out _ _ _ _ b1).mono ?_
 rintro e w4 ⟨ah2, nh2, ch2, rfl, h2, hb⟩
 have g2 := g2.past hb
 have h1 := h1.past hb
 have b1 := b1.past hb
 have hB := below_later hB hb
 clear hb
 go_wp2_with fail
 refine (HPUT.out _ _ _ _ h1.toNatAt).mono ?_
 rintro e w5 ⟨rfl, hb⟩
 have g2 := g2.past hb
 have h1 := h1.past hb
 have h2 := h2.past hb
 have hB := below_later hB hb
 clear hb
 go_wp2_with fail
 refine (HGT.out _ _ _ _ h1.toNatAt).mono ?_
 rintro e w6 ⟨rfl, hb⟩
 have g2 := g2.past hb
 have h1 := h1.past hb
 have h2 := h2.past hb
 have hB := below_later hB hb
 clear hb
 go_wp2_with fail
 refine (sameNat_yes h2.toNatAt h1.toNatAt).mono ?_
 rintro e w7 ⟨rfl, hb⟩
 have g2 := g2.past hb
 have h1 := h1.past hb
 have h2 := h2.past hb
 have hB := below_later hB hb
 clear hb
 go_wp2_with fail
 refine (HGS.out _).mono ?_
 rintro e w8 ⟨ah3, nh3, ch3, rfl, h3, hb⟩
 have g2 := g2.past hb
 have hB := below_later hB hb
 clear hb
 go_wp2_with fail
 obtain ⟨w9, hW, hz0, hb, q, f⟩ := box1g w8 (w8.heap.size) (by omega) #[.int .i64 0, .int .i64 (AS : Int)] 48
 rw [hW]
 clear hW
 have g2 := g2.past hb
 have h3 := h3.past hb
 have hB := below_later hB hb
 clear hb
 have lf : w8.heap.size < w9.heap.size := by omega
 have qf0 := q 0; have qf1 := q 1
 simp only [lgA, lgZ, lgS] at qf0 qf1
 clear q f
 clear hz0
 refine (HPZ.out _ _ _ _ h3.toNatAt).mono ?_
 rintro e w10 ⟨rfl, hb⟩
 have g2 := g2.past hb
 have h3 := h3.past hb
 obtain ⟨qf0, qf1, lf⟩ := bq2 hb lf qf0 qf1
 have hB := below_later hB hb
 clear hb
 go_wp2_with fail
 refine (HFV.out _ _ _ _ g2).mono ?_
 rintro e w11 ⟨ah4, nh4, ch4, rfl, h4, hb⟩
 have g2 := g2.past hb
 obtain ⟨qf0, qf1, lf⟩ := bq2 hb lf qf0 qf1
 have hB := below_later hB hb
 clear hb
 go_wp2_with fail
 refine (HBV.out _ _ _ _ h4.toNatAt).mono ?_
 rintro e w12 ⟨ab5, nb5, cb5, rfl, b5, hb⟩
 have g2 := g2.past hb
 have h4 := h4.past hb
 obtain ⟨qf0, qf1, lf⟩ := bq2 hb lf qf0 qf1
 have hB := below_later hB hb
 clear hb
 go_wp2_with fail
 refine (sameBytes_is _ _ _ _ _ _ _ _ b5 g2).mono ?_
 rintro e w13 ⟨rfl, hb⟩
 have g2 := g2.past hb
 have h4 := h4.past hb
 have b5 := b5.past hb
 obtain ⟨qf0, qf1, lf⟩ := bq2 hb lf qf0 qf1
 have hB := below_later hB hb
 clear hb
 go_wp2_with fail
 refine (check_is _ _ _ _ _ h4.toNatAt).mono ?_
 rintro e w14 ⟨rfl, hb⟩
 have g2 := g2.past hb
 have h4 := h4.past hb
 obtain ⟨qf0, qf1, lf⟩ := bq2 hb lf qf0 qf1
 have hB := below_later hB hb
 clear hb
 go_wp2
 go_ret
 exact ⟨rfl, hB⟩
set_option maxRecDepth 100000 in
set_option maxHeartbeats 8000000 in
theorem digitsBack_m0z (a : Option Addr) (n c : Nat) (l : List Nat) (s : ByteArray) (a2 : Option Addr) (n2 c2 : Nat) (L : List Nat) (w : World) (g1 : NatAt w a n c l) (g2 : BytesAt w a2 n2 c2 L) (hs : s.size ≤ 9223372036854775807) (hm : MaxL w) (k1 : ¬ 20 < n) (k2 : ¬ 300 < s.size) (k3 : ¬ 300 < n2) (hE : getE s.data.toList = 0) (h0 : L.head? = some 0) :
 Calls Tryd.prog 4 #[.slice a n c, .string s, .slice a2 n2 c2] w (RetVal w (.bool true)) := by
 have hcle := g1.cle
 have hle := g1.le
 have hcle2 := g2.cle
 have hle2 := g2.le
 have t1 : decide ((20 : Int) < (n : Int)) = false := decide_eq_false (by omega)
 have t2 : decide ((300 : Int) < (s.size : Int)) = false := decide_eq_false (by omega)
 have t3 : decide ((300 : Int) < (n2 : Int)) = false := decide_eq_false (by omega)
 have hl20 : l.length ≤ 20 := by rw [g1.len]; omega
 have hgl := get_back g1.dig hl20
 have hfl := fb_back g1.dig hl20
 have hll := digs_length_le (n := val l) (k := l.length) |>.2 (val_lt g1.dig)
 have hll2 : (digs (val l)).length ≤ 1073741824 := by omega
 obtain ⟨V, hV⟩ : ∃ V, val l = V := ⟨_, rfl⟩
 have htr := fun w g1 => trim_any a n c l w g1 (by omega)
 simp only [hV] at hgl hfl hll2 htr
 have hby := fun w a n c h => bytes_is a n c (digs V) w h hll2 (L := digL 256 V) (by rw [val_digs])
 have hfb := fun w a n c h => fb_is a n c (digL 256 V) w h (l := digs V) (E := 0) (by rw [hfl.1]) hfl.2
 have hput := fun w a n c h => put_is a n c (digs V) w h hll2 (T := decS V) (by rw [val_digs])
 have hgt := fun w a n c h => gets_yes (decS V) a n c V 0 0 w h hgl.1 hgl.2.1 hgl.2.2.1 hgl.2.2.2
 have hgs := fun w => get_any s w hs
 have hnl := getN_len s.data.toList
 have HTR := Lib.hid htr
 have HBY := Lib.hid hby
 have HFB := Lib.hid hfb
 have HPUT := Lib.hid hput
 have HGT := Lib.hid hgt
 obtain ⟨NS, hNS⟩ : ∃ x, getN s.data.toList = x := ⟨_, rfl⟩
 obtain ⟨AS, hAS⟩ : ∃ x, getA s.data.toList = x := ⟨_, rfl⟩
 have hpz := fun w a n c h => put_is a n c (digs NS) w h (by rw [← hNS]; omega) (T := s) (by rw [val_digs, ← hNS]; exact put_back hE)
 simp only [hNS, hE, hAS] at hgs
 have HGS := Lib.hid hgs
 have HPZ := Lib.hid hpz
 clear hgs hpz hNS hAS hE hnl htr hby hfb hput hgt hll hll2 hgl hfl hV
 have hfv := fun w a n c h => fb_is a n c L w h (l := []) (E := 6) (by unfold fbN; rw [if_neg (by rw [g2.len]; omega), if_pos h0]; exact digs_zero) (by unfold fbE; rw [if_neg (by rw [g2.len]; omega), if_pos h0])
 have HFV := Lib.hid hfv
 have hn2 : 0 < n2 := by rw [← g2.len]; cases L with | nil => simp at h0 | cons x r => simp
 have hx0 : D L 0 = 0 := by cases L with | nil => simp at h0 | cons x r => simp at h0; simp [D, h0]
 clear hfv h0
 go_enter Tryd.func4, Tryd.ntmps4
 have hB := Below.refl w.heap.size w
 go_wp2_with fail
 refine (digitsKnown_any _ (hm.later hB)).mono ?_
 rintro e w1 ⟨rfl, hb⟩
 have g1 := g1.past hb
 have g2 := g2.past hb
 have hB := below_later hB hb
 clear hb
 go_wp2_with fail
 with_reducible refine (longNat_any _ _ _ _ _ (by omega)).mono ?_
 rintro e w' ⟨rfl, rfl⟩
 go_wp2_with fail
 refine (HTR.out _ g1).mono ?_
 rintro e w2 ⟨ah1, nh1, ch1, rfl, h1, hb⟩
 have g1 := g1.past hb
 have g2 := g2.past hb
 have hB := below_later hB hb
 clear hb
 go_wp2_with fail
 refine (HBY.out _ _ _ _ h1.toNatAt).mono ?_
 rintro e w3 ⟨ab1, nb1, cb1, rfl, b1, hb⟩
 have g2 := g2.past hb
 have h1 := h1.past hb
 have hB := below_later hB hb
 clear hb
 go_wp2_with fail
 refine (HFB.out _ _ _ _ b1).mono ?_
 rintro e w4 ⟨ah2, nh2, ch2, rfl, h2, hb⟩
 have g2 := g2.past hb
 have h1 := h1.past hb
 have b1 := b1.past hb
 have hB := below_later hB hb
 clear hb
 go_wp2_with fail
 refine (HPUT.out _ _ _ _ h1.toNatAt).mono ?_
 rintro e w5 ⟨rfl, hb⟩
 have g2 := g2.past hb
 have h1 := h1.past hb
 have h2 := h2.past hb
 have hB := below_later hB hb
 clear hb
 go_wp2_with fail
 refine (HGT.out _ _ _ _ h1.toNatAt).mono ?_
 rintro e w6 ⟨rfl, hb⟩
 have g2 := g2.past hb
 have h1 := h1.past hb
 have h2 := h2.past hb
 have hB := below_later hB hb
 clear hb
 go_wp2_with fail
 refine (sameNat_yes h2.toNatAt h1.toNatAt).mono ?_
 rintro e w7 ⟨rfl, hb⟩
 have g2 := g2.past hb
 have h1 := h1.past hb
 have h2 := h2.past hb
 have hB := below_later hB hb
 clear hb
 go_wp2_with fail
 refine (HGS.out _).mono ?_
 rintro e w8 ⟨ah3, nh3, ch3, rfl, h3, hb⟩
 have g2 := g2.past hb
 have hB := below_later hB hb
 clear hb
 go_wp2_with fail
 obtain ⟨w9, hW, hz0, hb, q, f⟩ := box1g w8 (w8.heap.size) (by omega) #[.int .i64 0, .int .i64 (AS : Int)] 48
 rw [hW]
 clear hW
 have g2 := g2.past hb
 have h3 := h3.past hb
 have hB := below_later hB hb
 clear hb
 have lf : w8.heap.size < w9.heap.size := by omega
 have qf0 := q 0; have qf1 := q 1
 simp only [lgA, lgZ, lgS] at qf0 qf1
 clear q f
 clear hz0
 refine (HPZ.out _ _ _ _ h3.toNatAt).mono ?_
 rintro e w10 ⟨rfl, hb⟩
 have g2 := g2.past hb
 have h3 := h3.past hb
 obtain ⟨qf0, qf1, lf⟩ := bq2 hb lf qf0 qf1
 have hB := below_later hB hb
 clear hb
 go_wp2_with fail
 refine (HFV.out _ _ _ _ g2).mono ?_
 rintro e w11 ⟨ah4, nh4, ch4, rfl, h4, hb⟩
 have g2 := g2.past hb
 obtain ⟨qf0, qf1, lf⟩ := bq2 hb lf qf0 qf1
 have hB := below_later hB hb
 clear hb
 obtain ⟨bw2, ow2, rfl, hbl2, hcl2⟩ : ∃ b o, a2 = some ⟨b, o, none⟩ ∧ b < w11.heap.size ∧ ∀ i, i < n2 → w11.cell? ⟨b, o + i, none⟩ = some (.int .u8 ((D L i : Nat) : Int)) := (g2.parts).resolve_left (by omega)
 have hq2 := hcl2 0 hn2
 rw [Nat.add_zero, hx0] at hq2
 clear hcl2
 have t9 : ((n2 : Int) == 0) = false := beq_eq_false_iff_ne.2 (by omega)
 have t8 : (0 : Int) < (n2 : Int) := by omega
 go_wp2
 go_ret
 exact ⟨rfl, hB⟩
set_option maxRecDepth 100000 in
set_option maxHeartbeats 8000000 in
theorem digitsBack_m0n (a : Option Addr) (n c : Nat) (l : List Nat) (s : ByteArray) (a2 : Option Addr) (n2 c2 : Nat) (L : List Nat) (w : World) (g1 : NatAt w a n c l) (g2 : BytesAt w a2 n2 c2 L) (hs : s.size ≤ 9223372036854775807) (hm : MaxL w) (k1 : ¬ 20 < n) (k2 : ¬ 300 < s.size) (k3 : ¬ 300 < n2) (hE : getE s.data.toList = 0) (h0 : L.head? ≠ some 0) (k4 : n2 ≠ 0) :
 Calls Tryd.prog 4 #[.slice a n c, .string s, .slice a2 n2 c2] w (RetVal w (.bool true)) := by
 have hcle := g1.cle
 have hle := g1.le
 have hcle2 := g2.cle
 have hle2 := g2.le
 have t1 : decide ((20 : Int) < (n : Int)) = false := decide_eq_false (by omega)
 have t2 : decide ((300 : Int) < (s.size : Int)) = false := decide_eq_false (by omega)
 have t3 : decide ((300 : Int) < (n2 : Int)) = false := decide_eq_false (by omega)
 have hl20 : l.length ≤ 20 := by rw [g1.len]; omega
 have hgl := get_back g1.dig hl20
 have hfl := fb_back g1.dig hl20
 have hll := digs_length_le (n := val l) (k := l.length) |>.2 (val_lt g1.dig)
 have hll2 : (digs (val l)).length ≤ 1073741824 := by omega
 obtain ⟨V, hV⟩ : ∃ V, val l = V := ⟨_, rfl⟩
 have htr := fun w g1 => trim_any a n c l w g1 (by omega)
 simp only [hV] at hgl hfl hll2 htr
 have hby := fun w a n c h => bytes_is a n c (digs V) w h hll2 (L := digL 256 V) (by rw [val_digs])
 have hfb := fun w a n c h => fb_is a n c (digL 256 V) w h (l := digs V) (E := 0) (by rw [hfl.1]) hfl.2
 have hput := fun w a n c h => put_is a n c (digs V) w h hll2 (T := decS V) (by rw [val_digs])
 have hgt := fun w a n c h => gets_yes (decS V) a n c V 0 0 w h hgl.1 hgl.2.1 hgl.2.2.1 hgl.2.2.2
 have hgs := fun w => get_any s w hs
 have hnl := getN_len s.data.toList
 have HTR := Lib.hid htr
 have HBY := Lib.hid hby
 have HFB := Lib.hid hfb
 have HPUT := Lib.hid hput
 have HGT := Lib.hid hgt
 obtain ⟨NS, hNS⟩ : ∃ x, getN s.data.toList = x := ⟨_, rfl⟩
 obtain ⟨AS, hAS⟩ : ∃ x, getA s.data.toList = x := ⟨_, rfl⟩
 have hpz := fun w a n c h => put_is a n c (digs NS) w h (by rw [← hNS]; omega) (T := s) (by rw [val_digs, ← hNS]; exact put_back hE)
 simp only [hNS, hE, hAS] at hgs
 have HGS := Lib.hid hgs
 have HPZ := Lib.hid hpz
 clear hgs hpz hNS hAS hE hnl htr hby hfb hput hgt hll hll2 hgl hfl hV
 have hfv := fun w a n c h => fb_is a n c L w h (l := digs (valL 256 L)) (E := 0) (by unfold fbN; rw [if_neg (by rw [g2.len]; omega), if_neg h0]) (by unfold fbE; rw [if_neg (by rw [g2.len]; omega), if_neg h0])
 have hbd : (digs (valL 256 L)).length ≤ 1073741824 := by
  have h1 := valL_lt (b := 256) L g2.dig
  have h2 : (digs (valL 256 L)).length ≤ L.length := digs_length_le.2 (Nat.lt_of_lt_of_le h1 (Nat.pow_le_pow_left (by decide) _))
  rw [g2.len] at h2
  omega
 have hbv := fun w a n c h => bytes_is a n c (digs (valL 256 L)) w h hbd (L := L) (by rw [val_digs]; exact digL_valL (by decide) L g2.dig h0)
 have HFV := Lib.hid hfv
 have HBV := Lib.hid hbv
 clear hfv hbd hbv
 have hn2 : 0 < n2 := by omega
 have hx0 : D L 0 ≠ 0 := by
  have hl := g2.len
  cases L with
  | nil => simp at hl; omega
  | cons x r => simp at h0; simpa [D] using h0
 clear h0
 go_enter Tryd.func4, Tryd.ntmps4
 have hB := Below.refl w.heap.size w
 go_wp2_with fail
 refine (digitsKnown_any _ (hm.later hB)).mono ?_
 rintro e w1 ⟨rfl, hb⟩
 have g1 := g1.past hb
 have g2 := g2.past hb
 have hB := below_later hB hb
 clear hb
 go_wp2_with fail
 with_reducible refine (longNat_any _ _ _ _ _ (by omega)).mono ?_
 rintro e w' ⟨rfl, rfl⟩
 go_wp2_with fail
 refine (HTR.out _ g1).mono ?_
 rintro e w2 ⟨ah1, nh1, ch1, rfl, h1, hb⟩
 have g1 := g1.past hb
 have g2 := g2.past hb
 have hB := below_later hB hb
 clear hb
 go_wp2_with fail
 refine (HBY.out _ _ _ _ h1.toNatAt).mono ?_
 rintro e w3 ⟨ab1, nb1, cb1, rfl, b1, hb⟩
 have g2 := g2.past hb
 have h1 := h1.past hb
 have hB := below_later hB hb
 clear hb
 go_wp2_with fail
 refine (HFB.out _ _ _ _ b1).mono ?_
 rintro e w4 ⟨ah2, nh2, ch2, rfl, h2, hb⟩
 have g2 := g2.past hb
 have h1 := h1.past hb
 have b1 := b1.past hb
 have hB := below_later hB hb
 clear hb
 go_wp2_with fail
 refine (HPUT.out _ _ _ _ h1.toNatAt).mono ?_
 rintro e w5 ⟨rfl, hb⟩
 have g2 := g2.past hb
 have h1 := h1.past hb
 have h2 := h2.past hb
 have hB := below_later hB hb
 clear hb
 go_wp2_with fail
 refine (HGT.out _ _ _ _ h1.toNatAt).mono ?_
 rintro e w6 ⟨rfl, hb⟩
 have g2 := g2.past hb
 have h1 := h1.past hb
 have h2 := h2.past hb
 have hB := below_later hB hb
 clear hb
 go_wp2_with fail
 refine (sameNat_yes h2.toNatAt h1.toNatAt).mono ?_
 rintro e w7 ⟨rfl, hb⟩
 have g2 := g2.past hb
 have h1 := h1.past hb
 have h2 := h2.past hb
 have hB := below_later hB hb
 clear hb
 go_wp2_with fail
 refine (HGS.out _).mono ?_
 rintro e w8 ⟨ah3, nh3, ch3, rfl, h3, hb⟩
 have g2 := g2.past hb
 have hB := below_later hB hb
 clear hb
 go_wp2_with fail
 obtain ⟨w9, hW, hz0, hb, q, f⟩ := box1g w8 (w8.heap.size) (by omega) #[.int .i64 0, .int .i64 (AS : Int)] 48
 rw [hW]
 clear hW
 have g2 := g2.past hb
 have h3 := h3.past hb
 have hB := below_later hB hb
 clear hb
 have lf : w8.heap.size < w9.heap.size := by omega
 have qf0 := q 0; have qf1 := q 1
 simp only [lgA, lgZ, lgS] at qf0 qf1
 clear q f
 clear hz0
 refine (HPZ.out _ _ _ _ h3.toNatAt).mono ?_
 rintro e w10 ⟨rfl, hb⟩
 have g2 := g2.past hb
 have h3 := h3.past hb
 obtain ⟨qf0, qf1, lf⟩ := bq2 hb lf qf0 qf1
 have hB := below_later hB hb
 clear hb
 go_wp2_with fail
 refine (HFV.out _ _ _ _ g2).mono ?_
 rintro e w11 ⟨ah4, nh4, ch4, rfl, h4, hb⟩
 have g2 := g2.past hb
 obtain ⟨qf0, qf1, lf⟩ := bq2 hb lf qf0 qf1
 have hB := below_later hB hb
 clear hb
 obtain ⟨bw2, ow2, rfl, hbl2, hcl2⟩ : ∃ b o, a2 = some ⟨b, o, none⟩ ∧ b < w11.heap.size ∧ ∀ i, i < n2 → w11.cell? ⟨b, o + i, none⟩ = some (.int .u8 ((D L i : Nat) : Int)) := (g2.parts).resolve_left (by omega)
 have hq2 := hcl2 0 hn2
 rw [Nat.add_zero] at hq2
 clear hcl2
 have t9 : ((n2 : Int) == 0) = false := beq_eq_false_iff_ne.2 (by omega)
 have t8 : (0 : Int) < (n2 : Int) := by omega
 have t7 : ((D L 0 : Int) != 0) = true := bne_iff_ne.2 (by omega)
 go_wp2_with fail
 refine (HBV.out _ _ _ _ h4.toNatAt).mono ?_
 rintro e w12 ⟨ab5, nb5, cb5, rfl, b5, hb⟩
 have g2 := g2.past hb
 have h4 := h4.past hb
 obtain ⟨qf0, qf1, lf⟩ := bq2 hb lf qf0 qf1
 have hB := below_later hB hb
 clear hb
 go_wp2_with fail
 refine (sameBytes_is _ _ _ _ _ _ _ _ b5 g2).mono ?_
 rintro e w13 ⟨rfl, hb⟩
 have g2 := g2.past hb
 have h4 := h4.past hb
 have b5 := b5.past hb
 obtain ⟨qf0, qf1, lf⟩ := bq2 hb lf qf0 qf1
 have hB := below_later hB hb
 clear hb
 go_wp2_with fail
 refine (check_is _ _ _ _ _ h4.toNatAt).mono ?_
 rintro e w14 ⟨rfl, hb⟩
 have g2 := g2.past hb
 have h4 := h4.past hb
 obtain ⟨qf0, qf1, lf⟩ := bq2 hb lf qf0 qf1
 have hB := below_later hB hb
 clear hb
 go_wp2
 go_ret
 exact ⟨rfl, hB⟩
set_option maxRecDepth 100000 in
set_option maxHeartbeats 8000000 in
theorem digitsBack_m1e (a : Option Addr) (n c : Nat) (l : List Nat) (s : ByteArray) (a2 : Option Addr) (n2 c2 : Nat) (L : List Nat) (w : World) (g1 : NatAt w a n c l) (g2 : BytesAt w a2 n2 c2 L) (hs : s.size ≤ 9223372036854775807) (hm : MaxL w) (k1 : ¬ 20 < n) (k2 : ¬ 300 < s.size) (k3 : ¬ 300 < n2) (hE : getE s.data.toList ≠ 0) (h0 : L.head? ≠ some 0) (k4 : n2 = 0) :
 Calls Tryd.prog 4 #[.slice a n c, .string s, .slice a2 n2 c2] w (RetVal w (.bool true)) := by
 have hcle := g1.cle
 have hle := g1.le
 have hcle2 := g2.cle
 have hle2 := g2.le
 have t1 : decide ((20 : Int) < (n : Int)) = false := decide_eq_false (by omega)
 have t2 : decide ((300 : Int) < (s.size : Int)) = false := decide_eq_false (by omega)
 have t3 : decide ((300 : Int) < (n2 : Int)) = false := decide_eq_false (by omega)
 have hl20 : l.length ≤ 20 := by rw [g1.len]; omega
 have hgl := get_back g1.dig hl20
 have hfl := fb_back g1.dig hl20
 have hll := digs_length_le (n := val l) (k := l.length) |>.2 (val_lt g1.dig)
 have hll2 : (digs (val l)).length ≤ 1073741824 := by omega
 obtain ⟨V, hV⟩ : ∃ V, val l = V := ⟨_, rfl⟩
 have htr := fun w g1 => trim_any a n c l w g1 (by omega)
 simp only [hV] at hgl hfl hll2 htr
 have hby := fun w a n c h => bytes_is a n c (digs V) w h hll2 (L := digL 256 V) (by rw [val_digs])
 have hfb := fun w a n c h => fb_is a n c (digL 256 V) w h (l := digs V) (E := 0) (by rw [hfl.1]) hfl.2
 have hput := fun w a n c h => put_is a n c (digs V) w h hll2 (T := decS V) (by rw [val_digs])
 have hgt := fun w a n c h => gets_yes (decS V) a n c V 0 0 w h hgl.1 hgl.2.1 hgl.2.2.1 hgl.2.2.2
 have hgs := fun w => get_any s w hs
 have hnl := getN_len s.data.toList
 have HTR := Lib.hid htr
 have HBY := Lib.hid hby
 have HFB := Lib.hid hfb
 have HPUT := Lib.hid hput
 have HGT := Lib.hid hgt
 obtain ⟨NS, hNS⟩ : ∃ x, getN s.data.toList = x := ⟨_, rfl⟩
 obtain ⟨AS, hAS⟩ : ∃ x, getA s.data.toList = x := ⟨_, rfl⟩
 obtain ⟨ES, hES⟩ : ∃ x, getE s.data.toList = x := ⟨_, rfl⟩
 have hN0 : NS = 0 := by rw [← hNS]; exact get_none hE
 rw [hES] at hE
 have tE : ((ES : Int) != 0) = true := bne_iff_ne.2 (by omega)
 have tE2 : ((ES : Int) == 0) = false := beq_eq_false_iff_ne.2 (by omega)
 simp only [hNS, hES, hAS, hN0] at hgs
 have HGS := Lib.hid hgs
 clear hgs hNS hAS hE hES hnl htr hby hfb hput hgt hll hll2 hgl hfl hV hN0
 subst k4
 have hfv := fun w a n c h => fb_is a n c L w h (l := digs (valL 256 L)) (E := 0) (by unfold fbN; rw [if_neg (by rw [g2.len]; omega), if_neg h0]) (by unfold fbE; rw [if_neg (by rw [g2.len]; omega), if_neg h0])
 have hbd : (digs (valL 256 L)).length ≤ 1073741824 := by
  have h1 := valL_lt (b := 256) L g2.dig
  have h2 : (digs (valL 256 L)).length ≤ L.length := digs_length_le.2 (Nat.lt_of_lt_of_le h1 (Nat.pow_le_pow_left (by decide) _))
  rw [g2.len] at h2
  omega
 have hbv := fun w a n c h => bytes_is a n c (digs (valL 256 L)) w h hbd (L := L) (by rw [val_digs]; exact digL_valL (by decide) L g2.dig h0)
 have HFV := Lib.hid hfv
 have HBV := Lib.hid hbv
 clear hfv hbd hbv
 clear h0
 go_enter Tryd.func4, Tryd.ntmps4
 have hB := Below.refl w.heap.size w
 go_wp2_with fail
 refine (digitsKnown_any _ (hm.later hB)).mono ?_
 rintro e w1 ⟨rfl, hb⟩
 have g1 := g1.past hb
 have g2 := g2.past hb
 have hB := below_later hB hb
 clear hb
 go_wp2_with fail
 with_reducible refine (longNat_any _ _ _ _ _ (by omega)).mono ?_
 rintro e w' ⟨rfl, rfl⟩
 go_wp2_with fail
 refine (HTR.out _ g1).mono ?_
 rintro e w2 ⟨ah1, nh1, ch1, rfl, h1, hb⟩
 have g1 := g1.past hb
 have g2 := g2.past hb
 have hB := below_later hB hb
 clear hb
 go_wp2_with fail
 refine (HBY.out _ _ _ _ h1.toNatAt).mono ?_
 rintro e w3 ⟨ab1, nb1, cb1, rfl, b1, hb⟩
 have g2 := g2.past hb
 have h1 := h1.past hb
 have hB := below_later hB hb
 clear hb
 go_wp2_with fail
 refine (HFB.out _ _ _ _ b1).mono ?_
 rintro e w4 ⟨ah2, nh2, ch2, rfl, h2, hb⟩
 have g2 := g2.past hb
 have h1 := h1.past hb
 have b1 := b1.past hb
 have hB := below_later hB hb
 clear hb
 go_wp2_with fail
 refine (HPUT.out _ _ _ _ h1.toNatAt).mono ?_
 rintro e w5 ⟨rfl, hb⟩
 have g2 := g2.past hb
 have h1 := h1.past hb
 have h2 := h2.past hb
 have hB := below_later hB hb
 clear hb
 go_wp2_with fail
 refine (HGT.out _ _ _ _ h1.toNatAt).mono ?_
 rintro e w6 ⟨rfl, hb⟩
 have g2 := g2.past hb
 have h1 := h1.past hb
 have h2 := h2.past hb
 have hB := below_later hB hb
 clear hb
 go_wp2_with fail
 refine (sameNat_yes h2.toNatAt h1.toNatAt).mono ?_
 rintro e w7 ⟨rfl, hb⟩
 have g2 := g2.past hb
 have h1 := h1.past hb
 have h2 := h2.past hb
 have hB := below_later hB hb
 clear hb
 go_wp2_with fail
 refine (HGS.out _).mono ?_
 rintro e w8 ⟨ah3, nh3, ch3, rfl, h3, hb⟩
 have g2 := g2.past hb
 have hB := below_later hB hb
 clear hb
 have l3 := h3.len
 rw [digs_zero] at l3
 obtain rfl : nh3 = 0 := l3.symm
 clear l3
 go_wp2_with fail
 obtain ⟨w9, hW, hz0, hb, q, f⟩ := box1g w8 (w8.heap.size) (by omega) #[.int .i64 (ES : Int), .int .i64 (AS : Int)] 48
 rw [hW]
 clear hW
 have g2 := g2.past hb
 have hB := below_later hB hb
 clear hb
 have lf : w8.heap.size < w9.heap.size := by omega
 have qf0 := q 0; have qf1 := q 1
 simp only [lgA, lgZ, lgS] at qf0 qf1
 clear q f
 clear hz0
 refine (HFV.out _ _ _ _ g2).mono ?_
 rintro e w10 ⟨ah4, nh4, ch4, rfl, h4, hb⟩
 have g2 := g2.past hb
 obtain ⟨qf0, qf1, lf⟩ := bq2 hb lf qf0 qf1
 have hB := below_later hB hb
 clear hb
 go_wp2_with fail
 refine (HBV.out _ _ _ _ h4.toNatAt).mono ?_
 rintro e w11 ⟨ab5, nb5, cb5, rfl, b5, hb⟩
 have g2 := g2.past hb
 have h4 := h4.past hb
 obtain ⟨qf0, qf1, lf⟩ := bq2 hb lf qf0 qf1
 have hB := below_later hB hb
 clear hb
 go_wp2_with fail
 refine (sameBytes_is _ _ _ _ _ _ _ _ b5 g2).mono ?_
 rintro e w12 ⟨rfl, hb⟩
 have g2 := g2.past hb
 have h4 := h4.past hb
 have b5 := b5.past hb
 obtain ⟨qf0, qf1, lf⟩ := bq2 hb lf qf0 qf1
 have hB := below_later hB hb
 clear hb
 go_wp2_with fail
 refine (check_is _ _ _ _ _ h4.toNatAt).mono ?_
 rintro e w13 ⟨rfl, hb⟩
 have g2 := g2.past hb
 have h4 := h4.past hb
 obtain ⟨qf0, qf1, lf⟩ := bq2 hb lf qf0 qf1
 have hB := below_later hB hb
 clear hb
 go_wp2
 go_ret
 exact ⟨rfl, hB⟩
set_option maxRecDepth 100000 in
set_option maxHeartbeats 8000000 in
theorem digitsBack_m1z (a : Option Addr) (n c : Nat) (l : List Nat) (s : ByteArray) (a2 : Option Addr) (n2 c2 : Nat) (L : List Nat) (w : World) (g1 : NatAt w a n c l) (g2 : BytesAt w a2 n2 c2 L) (hs : s.size ≤ 9223372036854775807) (hm : MaxL w) (k1 : ¬ 20 < n) (k2 : ¬ 300 < s.size) (k3 : ¬ 300 < n2) (hE : getE s.data.toList ≠ 0) (h0 : L.head? = some 0) :
 Calls Tryd.prog 4 #[.slice a n c, .string s, .slice a2 n2 c2] w (RetVal w (.bool true)) := by
 have hcle := g1.cle
 have hle := g1.le
 have hcle2 := g2.cle
 have hle2 := g2.le
 have t1 : decide ((20 : Int) < (n : Int)) = false := decide_eq_false (by omega)
 have t2 : decide ((300 : Int) < (s.size : Int)) = false := decide_eq_false (by omega)
 have t3 : decide ((300 : Int) < (n2 : Int)) = false := decide_eq_false (by omega)
 have hl20 : l.length ≤ 20 := by rw [g1.len]; omega
 have hgl := get_back g1.dig hl20
 have hfl := fb_back g1.dig hl20
 have hll := digs_length_le (n := val l) (k := l.length) |>.2 (val_lt g1.dig)
 have hll2 : (digs (val l)).length ≤ 1073741824 := by omega
 obtain ⟨V, hV⟩ : ∃ V, val l = V := ⟨_, rfl⟩
 have htr := fun w g1 => trim_any a n c l w g1 (by omega)
 simp only [hV] at hgl hfl hll2 htr
 have hby := fun w a n c h => bytes_is a n c (digs V) w h hll2 (L := digL 256 V) (by rw [val_digs])
 have hfb := fun w a n c h => fb_is a n c (digL 256 V) w h (l := digs V) (E := 0) (by rw [hfl.1]) hfl.2
 have hput := fun w a n c h => put_is a n c (digs V) w h hll2 (T := decS V) (by rw [val_digs])
 have hgt := fun w a n c h => gets_yes (decS V) a n c V 0 0 w h hgl.1 hgl.2.1 hgl.2.2.1 hgl.2.2.2
 have hgs := fun w => get_any s w hs
 have hnl := getN_len s.data.toList
 have HTR := Lib.hid htr
 have HBY := Lib.hid hby
 have HFB := Lib.hid hfb
 have HPUT := Lib.hid hput
 have HGT := Lib.hid hgt
 obtain ⟨NS, hNS⟩ : ∃ x, getN s.data.toList = x := ⟨_, rfl⟩
 obtain ⟨AS, hAS⟩ : ∃ x, getA s.data.toList = x := ⟨_, rfl⟩
 obtain ⟨ES, hES⟩ : ∃ x, getE s.data.toList = x := ⟨_, rfl⟩
 have hN0 : NS = 0 := by rw [← hNS]; exact get_none hE
 rw [hES] at hE
 have tE : ((ES : Int) != 0) = true := bne_iff_ne.2 (by omega)
 have tE2 : ((ES : Int) == 0) = false := beq_eq_false_iff_ne.2 (by omega)
 simp only [hNS, hES, hAS, hN0] at hgs
 have HGS := Lib.hid hgs
 clear hgs hNS hAS hE hES hnl htr hby hfb hput hgt hll hll2 hgl hfl hV hN0
 have hfv := fun w a n c h => fb_is a n c L w h (l := []) (E := 6) (by unfold fbN; rw [if_neg (by rw [g2.len]; omega), if_pos h0]; exact digs_zero) (by unfold fbE; rw [if_neg (by rw [g2.len]; omega), if_pos h0])
 have HFV := Lib.hid hfv
 have hn2 : 0 < n2 := by rw [← g2.len]; cases L with | nil => simp at h0 | cons x r => simp
 have hx0 : D L 0 = 0 := by cases L with | nil => simp at h0 | cons x r => simp at h0; simp [D, h0]
 clear hfv h0
 go_enter Tryd.func4, Tryd.ntmps4
 have hB := Below.refl w.heap.size w
 go_wp2_with fail
 refine (digitsKnown_any _ (hm.later hB)).mono ?_
 rintro e w1 ⟨rfl, hb⟩
 have g1 := g1.past hb
 have g2 := g2.past hb
 have hB := below_later hB hb
 clear hb
 go_wp2_with fail
 with_reducible refine (longNat_any _ _ _ _ _ (by omega)).mono ?_
 rintro e w' ⟨rfl, rfl⟩
 go_wp2_with fail
 refine (HTR.out _ g1).mono ?_
 rintro e w2 ⟨ah1, nh1, ch1, rfl, h1, hb⟩
 have g1 := g1.past hb
 have g2 := g2.past hb
 have hB := below_later hB hb
 clear hb
 go_wp2_with fail
 refine (HBY.out _ _ _ _ h1.toNatAt).mono ?_
 rintro e w3 ⟨ab1, nb1, cb1, rfl, b1, hb⟩
 have g2 := g2.past hb
 have h1 := h1.past hb
 have hB := below_later hB hb
 clear hb
 go_wp2_with fail
 refine (HFB.out _ _ _ _ b1).mono ?_
 rintro e w4 ⟨ah2, nh2, ch2, rfl, h2, hb⟩
 have g2 := g2.past hb
 have h1 := h1.past hb
 have b1 := b1.past hb
 have hB := below_later hB hb
 clear hb
 go_wp2_with fail
 refine (HPUT.out _ _ _ _ h1.toNatAt).mono ?_
 rintro e w5 ⟨rfl, hb⟩
 have g2 := g2.past hb
 have h1 := h1.past hb
 have h2 := h2.past hb
 have hB := below_later hB hb
 clear hb
 go_wp2_with fail
 refine (HGT.out _ _ _ _ h1.toNatAt).mono ?_
 rintro e w6 ⟨rfl, hb⟩
 have g2 := g2.past hb
 have h1 := h1.past hb
 have h2 := h2.past hb
 have hB := below_later hB hb
 clear hb
 go_wp2_with fail
 refine (sameNat_yes h2.toNatAt h1.toNatAt).mono ?_
 rintro e w7 ⟨rfl, hb⟩
 have g2 := g2.past hb
 have h1 := h1.past hb
 have h2 := h2.past hb
 have hB := below_later hB hb
 clear hb
 go_wp2_with fail
 refine (HGS.out _).mono ?_
 rintro e w8 ⟨ah3, nh3, ch3, rfl, h3, hb⟩
 have g2 := g2.past hb
 have hB := below_later hB hb
 clear hb
 have l3 := h3.len
 rw [digs_zero] at l3
 obtain rfl : nh3 = 0 := l3.symm
 clear l3
 go_wp2_with fail
 obtain ⟨w9, hW, hz0, hb, q, f⟩ := box1g w8 (w8.heap.size) (by omega) #[.int .i64 (ES : Int), .int .i64 (AS : Int)] 48
 rw [hW]
 clear hW
 have g2 := g2.past hb
 have hB := below_later hB hb
 clear hb
 have lf : w8.heap.size < w9.heap.size := by omega
 have qf0 := q 0; have qf1 := q 1
 simp only [lgA, lgZ, lgS] at qf0 qf1
 clear q f
 clear hz0
 refine (HFV.out _ _ _ _ g2).mono ?_
 rintro e w10 ⟨ah4, nh4, ch4, rfl, h4, hb⟩
 have g2 := g2.past hb
 obtain ⟨qf0, qf1, lf⟩ := bq2 hb lf qf0 qf1
 have hB := below_later hB hb
 clear hb
 obtain ⟨bw2, ow2, rfl, hbl2, hcl2⟩ : ∃ b o, a2 = some ⟨b, o, none⟩ ∧ b < w10.heap.size ∧ ∀ i, i < n2 → w10.cell? ⟨b, o + i, none⟩ = some (.int .u8 ((D L i : Nat) : Int)) := (g2.parts).resolve_left (by omega)
 have hq2 := hcl2 0 hn2
 rw [Nat.add_zero, hx0] at hq2
 clear hcl2
 have t9 : ((n2 : Int) == 0) = false := beq_eq_false_iff_ne.2 (by omega)
 have t8 : (0 : Int) < (n2 : Int) := by omega
 go_wp2
 go_ret
 exact ⟨rfl, hB⟩
set_option maxRecDepth 100000 in
set_option maxHeartbeats 8000000 in
theorem digitsBack_m1n (a : Option Addr) (n c : Nat) (l : List Nat) (s : ByteArray) (a2 : Option Addr) (n2 c2 : Nat) (L : List Nat) (w : World) (g1 : NatAt w a n c l) (g2 : BytesAt w a2 n2 c2 L) (hs : s.size ≤ 9223372036854775807) (hm : MaxL w) (k1 : ¬ 20 < n) (k2 : ¬ 300 < s.size) (k3 : ¬ 300 < n2) (hE : getE s.data.toList ≠ 0) (h0 : L.head? ≠ some 0) (k4 : n2 ≠ 0) :
 Calls Tryd.prog 4 #[.slice a n c, .string s, .slice a2 n2 c2] w (RetVal w (.bool true)) := by
 have hcle := g1.cle
 have hle := g1.le
 have hcle2 := g2.cle
 have hle2 := g2.le
 have t1 : decide ((20 : Int) < (n : Int)) = false := decide_eq_false (by omega)
 have t2 : decide ((300 : Int) < (s.size : Int)) = false := decide_eq_false (by omega)
 have t3 : decide ((300 : Int) < (n2 : Int)) = false := decide_eq_false (by omega)
 have hl20 : l.length ≤ 20 := by rw [g1.len]; omega
 have hgl := get_back g1.dig hl20
 have hfl := fb_back g1.dig hl20
 have hll := digs_length_le (n := val l) (k := l.length) |>.2 (val_lt g1.dig)
 have hll2 : (digs (val l)).length ≤ 1073741824 := by omega
 obtain ⟨V, hV⟩ : ∃ V, val l = V := ⟨_, rfl⟩
 have htr := fun w g1 => trim_any a n c l w g1 (by omega)
 simp only [hV] at hgl hfl hll2 htr
 have hby := fun w a n c h => bytes_is a n c (digs V) w h hll2 (L := digL 256 V) (by rw [val_digs])
 have hfb := fun w a n c h => fb_is a n c (digL 256 V) w h (l := digs V) (E := 0) (by rw [hfl.1]) hfl.2
 have hput := fun w a n c h => put_is a n c (digs V) w h hll2 (T := decS V) (by rw [val_digs])
 have hgt := fun w a n c h => gets_yes (decS V) a n c V 0 0 w h hgl.1 hgl.2.1 hgl.2.2.1 hgl.2.2.2
 have hgs := fun w => get_any s w hs
 have hnl := getN_len s.data.toList
 have HTR := Lib.hid htr
 have HBY := Lib.hid hby
 have HFB := Lib.hid hfb
 have HPUT := Lib.hid hput
 have HGT := Lib.hid hgt
 obtain ⟨NS, hNS⟩ : ∃ x, getN s.data.toList = x := ⟨_, rfl⟩
 obtain ⟨AS, hAS⟩ : ∃ x, getA s.data.toList = x := ⟨_, rfl⟩
 obtain ⟨ES, hES⟩ : ∃ x, getE s.data.toList = x := ⟨_, rfl⟩
 have hN0 : NS = 0 := by rw [← hNS]; exact get_none hE
 rw [hES] at hE
 have tE : ((ES : Int) != 0) = true := bne_iff_ne.2 (by omega)
 have tE2 : ((ES : Int) == 0) = false := beq_eq_false_iff_ne.2 (by omega)
 simp only [hNS, hES, hAS, hN0] at hgs
 have HGS := Lib.hid hgs
 clear hgs hNS hAS hE hES hnl htr hby hfb hput hgt hll hll2 hgl hfl hV hN0
 have hfv := fun w a n c h => fb_is a n c L w h (l := digs (valL 256 L)) (E := 0) (by unfold fbN; rw [if_neg (by rw [g2.len]; omega), if_neg h0]) (by unfold fbE; rw [if_neg (by rw [g2.len]; omega), if_neg h0])
 have hbd : (digs (valL 256 L)).length ≤ 1073741824 := by
  have h1 := valL_lt (b := 256) L g2.dig
  have h2 : (digs (valL 256 L)).length ≤ L.length := digs_length_le.2 (Nat.lt_of_lt_of_le h1 (Nat.pow_le_pow_left (by decide) _))
  rw [g2.len] at h2
  omega
 have hbv := fun w a n c h => bytes_is a n c (digs (valL 256 L)) w h hbd (L := L) (by rw [val_digs]; exact digL_valL (by decide) L g2.dig h0)
 have HFV := Lib.hid hfv
 have HBV := Lib.hid hbv
 clear hfv hbd hbv
 have hn2 : 0 < n2 := by omega
 have hx0 : D L 0 ≠ 0 := by
  have hl := g2.len
  cases L with
  | nil => simp at hl; omega
  | cons x r => simp at h0; simpa [D] using h0
 clear h0
 go_enter Tryd.func4, Tryd.ntmps4
 have hB := Below.refl w.heap.size w
 go_wp2_with fail
 refine (digitsKnown_any _ (hm.later hB)).mono ?_
 rintro e w1 ⟨rfl, hb⟩
 have g1 := g1.past hb
 have g2 := g2.past hb
 have hB := below_later hB hb
 clear hb
 go_wp2_with fail
 with_reducible refine (longNat_any _ _ _ _ _ (by omega)).mono ?_
 rintro e w' ⟨rfl, rfl⟩
 go_wp2_with fail
 refine (HTR.out _ g1).mono ?_
 rintro e w2 ⟨ah1, nh1, ch1, rfl, h1, hb⟩
 have g1 := g1.past hb
 have g2 := g2.past hb
 have hB := below_later hB hb
 clear hb
 go_wp2_with fail
 refine (HBY.out _ _ _ _ h1.toNatAt).mono ?_
 rintro e w3 ⟨ab1, nb1, cb1, rfl, b1, hb⟩
 have g2 := g2.past hb
 have h1 := h1.past hb
 have hB := below_later hB hb
 clear hb
 go_wp2_with fail
 refine (HFB.out _ _ _ _ b1).mono ?_
 rintro e w4 ⟨ah2, nh2, ch2, rfl, h2, hb⟩
 have g2 := g2.past hb
 have h1 := h1.past hb
 have b1 := b1.past hb
 have hB := below_later hB hb
 clear hb
 go_wp2_with fail
 refine (HPUT.out _ _ _ _ h1.toNatAt).mono ?_
 rintro e w5 ⟨rfl, hb⟩
 have g2 := g2.past hb
 have h1 := h1.past hb
 have h2 := h2.past hb
 have hB := below_later hB hb
 clear hb
 go_wp2_with fail
 refine (HGT.out _ _ _ _ h1.toNatAt).mono ?_
 rintro e w6 ⟨rfl, hb⟩
 have g2 := g2.past hb
 have h1 := h1.past hb
 have h2 := h2.past hb
 have hB := below_later hB hb
 clear hb
 go_wp2_with fail
 refine (sameNat_yes h2.toNatAt h1.toNatAt).mono ?_
 rintro e w7 ⟨rfl, hb⟩
 have g2 := g2.past hb
 have h1 := h1.past hb
 have h2 := h2.past hb
 have hB := below_later hB hb
 clear hb
 go_wp2_with fail
 refine (HGS.out _).mono ?_
 rintro e w8 ⟨ah3, nh3, ch3, rfl, h3, hb⟩
 have g2 := g2.past hb
 have hB := below_later hB hb
 clear hb
 have l3 := h3.len
 rw [digs_zero] at l3
 obtain rfl : nh3 = 0 := l3.symm
 clear l3
 go_wp2_with fail
 obtain ⟨w9, hW, hz0, hb, q, f⟩ := box1g w8 (w8.heap.size) (by omega) #[.int .i64 (ES : Int), .int .i64 (AS : Int)] 48
 rw [hW]
 clear hW
 have g2 := g2.past hb
 have hB := below_later hB hb
 clear hb
 have lf : w8.heap.size < w9.heap.size := by omega
 have qf0 := q 0; have qf1 := q 1
 simp only [lgA, lgZ, lgS] at qf0 qf1
 clear q f
 clear hz0
 refine (HFV.out _ _ _ _ g2).mono ?_
 rintro e w10 ⟨ah4, nh4, ch4, rfl, h4, hb⟩
 have g2 := g2.past hb
 obtain ⟨qf0, qf1, lf⟩ := bq2 hb lf qf0 qf1
 have hB := below_later hB hb
 clear hb
 obtain ⟨bw2, ow2, rfl, hbl2, hcl2⟩ : ∃ b o, a2 = some ⟨b, o, none⟩ ∧ b < w10.heap.size ∧ ∀ i, i < n2 → w10.cell? ⟨b, o + i, none⟩ = some (.int .u8 ((D L i : Nat) : Int)) := (g2.parts).resolve_left (by omega)
 have hq2 := hcl2 0 hn2
 rw [Nat.add_zero] at hq2
 clear hcl2
 have t9 : ((n2 : Int) == 0) = false := beq_eq_false_iff_ne.2 (by omega)
 have t8 : (0 : Int) < (n2 : Int) := by omega
 have t7 : ((D L 0 : Int) != 0) = true := bne_iff_ne.2 (by omega)
 go_wp2_with fail
 refine (HBV.out _ _ _ _ h4.toNatAt).mono ?_
 rintro e w11 ⟨ab5, nb5, cb5, rfl, b5, hb⟩
 have g2 := g2.past hb
 have h4 := h4.past hb
 obtain ⟨qf0, qf1, lf⟩ := bq2 hb lf qf0 qf1
 have hB := below_later hB hb
 clear hb
 go_wp2_with fail
 refine (sameBytes_is _ _ _ _ _ _ _ _ b5 g2).mono ?_
 rintro e w12 ⟨rfl, hb⟩
 have g2 := g2.past hb
 have h4 := h4.past hb
 have b5 := b5.past hb
 obtain ⟨qf0, qf1, lf⟩ := bq2 hb lf qf0 qf1
 have hB := below_later hB hb
 clear hb
 go_wp2_with fail
 refine (check_is _ _ _ _ _ h4.toNatAt).mono ?_
 rintro e w13 ⟨rfl, hb⟩
 have g2 := g2.past hb
 have h4 := h4.past hb
 obtain ⟨qf0, qf1, lf⟩ := bq2 hb lf qf0 qf1
 have hB := below_later hB hb
 clear hb
 go_wp2
 go_ret
 exact ⟨rfl, hB⟩
theorem digitsBack_any (a : Option Addr) (n c : Nat) (l : List Nat) (s : ByteArray) (a2 : Option Addr) (n2 c2 : Nat) (L : List Nat) (w : World) (g1 : NatAt w a n c l) (g2 : BytesAt w a2 n2 c2 L) (hs : s.size ≤ 9223372036854775807) (hm : MaxL w) :
 Calls Tryd.prog 4 #[.slice a n c, .string s, .slice a2 n2 c2] w (RetVal w (.bool true)) := by
 by_cases k1 : 20 < n
 · exact digitsBack_long1 a n c l s a2 n2 c2 L w g1 g2 hs hm k1
 · by_cases k2 : 300 < s.size
   · exact digitsBack_long2 a n c l s a2 n2 c2 L w g1 g2 hs hm k1 k2
   · by_cases k3 : 300 < n2
     · exact digitsBack_long3 a n c l s a2 n2 c2 L w g1 g2 hs hm k1 k2 k3
     · by_cases hE : getE s.data.toList = 0 <;> by_cases h0 : L.head? = some 0
       · exact digitsBack_m0z a n c l s a2 n2 c2 L w g1 g2 hs hm k1 k2 k3 hE h0
       · by_cases k4 : n2 = 0
         · exact digitsBack_m0e a n c l s a2 n2 c2 L w g1 g2 hs hm k1 k2 k3 hE h0 k4
         · exact digitsBack_m0n a n c l s a2 n2 c2 L w g1 g2 hs hm k1 k2 k3 hE h0 k4
       · exact digitsBack_m1z a n c l s a2 n2 c2 L w g1 g2 hs hm k1 k2 k3 hE h0
       · by_cases k4 : n2 = 0
         · exact digitsBack_m1e a n c l s a2 n2 c2 L w g1 g2 hs hm k1 k2 k3 hE h0 k4
         · exact digitsBack_m1n a n c l s a2 n2 c2 L w g1 g2 hs hm k1 k2 k3 hE h0 k4
end Go.Proofs.YtoecndogaklngaaDoor
