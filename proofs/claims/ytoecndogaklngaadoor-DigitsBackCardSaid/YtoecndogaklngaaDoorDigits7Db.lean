import Derived.RegionTactic
import Derived.Outline
import Derived.Test.YtoecndogaklngaaDoorS0Db
import Derived.Test.YtoecndogaklngaaDoorNumDb
import Derived.Test.YtoecndogaklngaaDoorByt3Db
import Derived.Test.YtoecndogaklngaaDoorLimbs7Db
set_option linter.unusedVariables false
set_option linter.unusedSimpArgs false
namespace Go.Proofs.YtoecndogaklngaaDoor
open Go.RowKit
def fbN (L : List Nat) : Nat := if 10000 < L.length then 0 else if L.head? = some 0 then 0 else valL 256 L
def fbE (L : List Nat) : Nat := if 10000 < L.length then 4 else if L.head? = some 0 then 6 else 0
def RetFB (w : World) (N E : Nat) (e : Ending) (w' : World) : Prop :=
 ∃ a n c, e = .returned (.tuple #[.slice a n c, .int .i64 (E : Int)]) ∧ OwnAt w' w.heap.size a n c (digs N) ∧ Below w.heap.size w w'
theorem pow8_le {x j : Nat} (hx : x < 256 ^ j) (hj : j ≤ 8) : x < 18446744073709551616 :=
 Nat.lt_of_lt_of_le hx (Nat.le_trans (Nat.pow_le_pow_right (by decide) hj) (by decide))
theorem fb_step {x c j : Nat} (hx : x < 256 ^ j) (hj : j < 8) (hc : c < 256) : IntKind.u64.wrap ((x : Int) * 256) = ((x * 256 : Nat) : Int) ∧ bits .or .u64 ((x * 256 : Nat) : Int) (c : Int) = ((x * 256 + c : Nat) : Int) ∧ x * 256 + c < 256 ^ (j + 1) := by
 have h1 : x * 256 + c < 256 ^ (j + 1) := by rw [Nat.pow_succ]; omega
 have h2 := pow8_le h1 hj
 refine ⟨by clear h1 hx; rw [IntKind.wrap_u64]; omega, ?_, h1⟩
 clear h1 hx
 have h4 : x * 256 < 18446744073709551616 := Nat.lt_of_le_of_lt (Nat.le_add_right _ _) h2
 have h5 : c < 18446744073709551616 := Nat.lt_of_le_of_lt (Nat.le_add_left _ _) h2
 have h3 : (x * 256) ||| c = x * 256 + c := by
  have := or_add (a := c) (b := x) (k := 8) hc
  rw [Nat.or_comm, Nat.mul_comm x 256]
  rw [show (2 : Nat) ^ 8 = 256 by decide] at this
  rw [this]
  omega
 rw [← h3]
 exact u64_or_nat (x * 256) c h4 h5
theorem valL_take_more {L : List Nat} {lo j : Nat} (h : lo + j < L.length) : valL 256 ((L.drop lo).take (j + 1)) = valL 256 ((L.drop lo).take j) * 256 + D L (lo + j) := by
 have e : (L.drop lo).take (j + 1) = (L.drop lo).take j ++ [D L (lo + j)] := by
  rw [List.take_add_one, List.getElem?_drop, List.getElem?_eq_getElem h]
  simp [D, List.getD_eq_getElem?_getD, List.getElem?_eq_getElem h]
 rw [e, valL_snoc]
theorem valL_part {L : List Nat} {lo m k : Nat} (hlo : lo ≤ m) (hm : m ≤ L.length) (hk : L.length - m = 8 * k) : valL 256 (L.drop lo) = valL 256 (L.drop m) + 18446744073709551616 ^ k * valL 256 ((L.drop lo).take (m - lo)) := by
 have e : L.drop lo = (L.drop lo).take (m - lo) ++ L.drop m := by
  have := List.take_append_drop (m - lo) (L.drop lo)
  rw [List.drop_drop, show lo + (m - lo) = m by omega] at this
  exact this.symm
 conv => lhs; rw [e]
 rw [valL_append, List.length_drop, hk, show (18446744073709551616 : Nat) ^ k = 256 ^ (8 * k) by rw [Nat.pow_mul], Nat.mul_comm]
 omega
theorem fb_top {L os : List Nat} {k : Nat} (h0 : L.head? ≠ some 0) (hd : Dig os) (hk : os.length = k) (hl : 8 * k < L.length + 8) (hv : val os = valL 256 L) : Top os := by
 unfold Top
 intro e
 obtain ⟨init, rfl⟩ : ∃ init, os = init ++ [0] := by
  rcases List.eq_nil_or_concat os with h1 | ⟨i, x, h1⟩
  · rw [h1] at e; simp at e
  · rw [h1] at e
    rw [List.concat_eq_append, List.getLast?_concat] at e
    cases e
    exact ⟨i, by rw [h1, List.concat_eq_append]⟩
 rw [val_append] at hv
 have h1 := val_lt (dig_append.1 hd).1
 rw [List.length_append] at hk
 simp at hk
 cases L with
 | nil => simp at hl; omega
 | cons x r =>
   have hx : x ≠ 0 := by intro e2; subst e2; simp at h0
   have h2 : valL 256 (x :: r) = x * 256 ^ r.length + valL 256 r := rfl
   have h3 : 256 ^ (8 * init.length) ≤ 256 ^ r.length := Nat.pow_le_pow_right (by decide) (by simp at hl; omega)
   rw [Nat.pow_mul] at h3
   have h4 : 256 ^ r.length ≤ x * 256 ^ r.length := Nat.le_mul_of_pos_left _ (by omega)
   have h5 : val [0] = 0 := rfl
   rw [h5, Nat.mul_zero] at hv
   have h6 : (256 : Nat) ^ 8 = 18446744073709551616 := by decide
   rw [h6] at h3
   omega
theorem grown_row7 {E : Nat} {w w1 : World} {B n : Nat} {a a' : Option Addr} {c c' : Nat} {l : List Nat} {x : Nat} (o : Obj) (hB : Below B w w1) (hle : B ≤ w1.heap.size) (hrow : w1.ownsRow B E 1 (.slice a n c) n (dv l)) {w2 : World}
 (hown : w2.ownsRow B E 1 (.slice a' (n + 1) c') (n + 1) (dv l ++ dv [x])) (hgrow : (w1.alloc o).grownBy w2 (Value.slice a n c).ownBlock) :
 w2.ownsRow B E 1 (.slice a' (n + 1) c') (n + 1) (dv (l ++ [x])) ∧ Below B w w2 :=
 ⟨by rw [dv_append]; exact hown, (hB.alloc hle o).grown hgrow (by simp; omega) (fun k hk => (hrow.lt k hk).1)⟩
set_option maxRecDepth 100000 in
set_option maxHeartbeats 4000000 in
theorem frombytes_long (a : Option Addr) (n c : Nat) (w : World) (h : 10000 < n) (hn : n ≤ 9223372036854775807) :
 Calls Tryd.prog 6 #[.slice a n c] w (RetFB w 0 4) := by
 have t1 : decide ((10000 : Int) < (n : Int)) = true := decide_eq_true (by omega)
 go_enter Tryd.func6, Tryd.ntmps6
 go_wp2
 go_ret2
 exact ⟨none, 0, 0, rfl, OwnAt.nil _ _, Below.refl _ _⟩
set_option maxRecDepth 100000 in
set_option maxHeartbeats 4000000 in
theorem frombytes_bad (a : Option Addr) (n c : Nat) (L : List Nat) (w : World) (h : BytesAt w a n c L) (hn : n ≤ 10000) (h0 : L.head? = some 0) :
 Calls Tryd.prog 6 #[.slice a n c] w (RetFB w 0 6) := by
 have t1 : decide ((10000 : Int) < (n : Int)) = false := decide_eq_false (by omega)
 have hl := h.len
 obtain ⟨r, rfl⟩ : ∃ r, L = 0 :: r := by cases L with | nil => simp at h0 | cons x r => simp at h0; exact ⟨r, by rw [h0]⟩
 simp at hl
 rcases h.parts with hn0 | ⟨b, o, rfl, hbl, hcl⟩
 · omega
 · have hc0 := hcl 0 (by omega)
   rw [Nat.add_zero, show D (0 :: r) 0 = 0 from rfl] at hc0
   have t2 : decide ((0 : Int) < (n : Int)) = true := decide_eq_true (by omega)
   have t3 : (0 : Int) < (n : Int) := by omega
   have t4 : 0 < n := by omega
   go_enter Tryd.func6, Tryd.ntmps6
   go_wp2
   go_ret2
   exact ⟨none, 0, 0, rfl, OwnAt.nil _ _, Below.refl _ _⟩
set_option maxRecDepth 100000 in
set_option maxHeartbeats 4000000 in
theorem frombytes_none (a : Option Addr) (c : Nat) (w : World) :
 Calls Tryd.prog 6 #[.slice a 0 c] w (RetFB w 0 0) := by
 go_enter Tryd.func6, Tryd.ntmps6
 go_wp2_with fail
 go_loopw [4, 5] (fun s4 s5 wr => s4 = .slice none 0 0 ∧ s5 = .int .i64 0 ∧ wr = w) (fun _ _ _ => 0)
 case atStart => exact ⟨rfl, rfl, rfl⟩
 case round =>
  obtain ⟨rfl, rfl, rfl⟩ := hrel
  go_wp2
  go_ret2
  exact ⟨none, 0, 0, rfl, OwnAt.nil _ _, Below.refl _ _⟩
set_option maxRecDepth 100000 in
set_option maxHeartbeats 4000000 in
theorem frombytes_yes (b o n c : Nat) (L : List Nat) (w : World) (hL : L.length = n) (hdg : ∀ d ∈ L, d < 256) (hle : n ≤ c) (hcle : c ≤ 9223372036854775807) (hcl : ∀ i, i < n → w.cell? ⟨b, o + i, none⟩ = some (.int .u8 ((D L i : Nat) : Int))) (hbl : b < w.heap.size) (hn : n ≤ 10000) (hn0 : n ≠ 0) (h0 : L.head? ≠ some 0) :
 Calls Tryd.prog 6 #[.slice (some ⟨b, o, none⟩) n c] w (RetFB w (valL 256 L) 0) := by
 obtain ⟨i0, hi, hz0, hz1, hz2⟩ := info_parts info40
 have t1 : decide ((10000 : Int) < (n : Int)) = false := decide_eq_false (by omega)
 have t2 : decide ((0 : Int) < (n : Int)) = true := decide_eq_true (by omega)
 have hc0 := hcl 0 (by omega)
 rw [Nat.add_zero] at hc0
 have hd0 : D L 0 ≠ 0 := by
  intro e
  apply h0
  cases L with
  | nil => simp at hL; omega
  | cons x r => simp [D] at e; simp [e]
 have t3 : ((D L 0 : Int) == 0) = false := beq_eq_false_iff_ne.2 (by omega)
 have HCL := Lib.hid hcl
 have HL := Lib.hid hL
 have HDG := Lib.hid hdg
 have H0 := Lib.hid h0
 clear hcl hL hdg h0 hd0
 go_enter Tryd.func6, Tryd.ntmps6
 go_wp2_with fail
 go_loopw [4, 5] (fun s4 s5 wr => ∃ (k : Nat) (os : List Nat) (bb : Option Addr) (cc : Nat), 8 * k < n + 8 ∧ s5 = .int .i64 ((n : Int) - 8 * (k : Int)) ∧ s4 = .slice bb k cc ∧ Dig os ∧ os.length = k ∧ wr.ownsRow w.heap.size 40 1 (.slice bb k cc) k (dv os) ∧ val os = valL 256 (L.drop (n - 8 * k)) ∧ Below w.heap.size w wr) (fun _ s5 _ => (intOf s5).toNat)
 case atStart => exact ⟨0, [], none, 0, by omega, by simp, rfl, dig_nil, rfl, World.ownsRow_nil _ _ _ _, by have := HL.out; simp [← this]; rfl, Below.refl _ _⟩
 case round =>
  clear t3 hc0
  obtain ⟨k, os, bb, cc, hk, rfl, rfl, hdo, hlo, hrow, h5, h6⟩ := hrel
  have H5 := Lib.hid h5
  have HLO := Lib.hid hlo
  have HDO := Lib.hid hdo
  clear h5 hlo hdo
  by_cases hlt : 8 * k < n
  · obtain ⟨m, hm⟩ : ∃ m, n - 8 * k = m := ⟨_, rfl⟩
    have em : (n : Int) - 8 * (k : Int) = (m : Int) := by omega
    rw [em]
    have hm1 : 0 < m := by omega
    have hmn : m ≤ n := by omega
    have HM := Lib.hid hm
    have HEM := Lib.hid em
    clear hm em
    obtain ⟨lo, hlo⟩ : ∃ lo, m - 8 = lo := ⟨_, rfl⟩
    have hlom : lo ≤ m := by omega
    have hc8 : m - lo ≤ 8 := by omega
    have hln : lo = n - 8 * (k + 1) := by have := HM.out; omega
    have e8 : IntKind.i64.wrap ((m : Int) - 8) = (m : Int) - 8 := by rw [IntKind.wrap_i64]; omega
    have e9 : max ((m : Int) - 8) 0 = (lo : Int) := by omega
    have HLN := Lib.hid hln
    clear hln
    go_wp2_with fail
    go_loopw [6, 36] (fun s6 s36 wq => ∃ j x : Nat, j ≤ m - lo ∧ s36 = .int .i64 (j : Int) ∧ s6 = .int .u64 (x : Int) ∧ x < 256 ^ j ∧ x = valL 256 ((L.drop lo).take j) ∧ wq = wr) (fun _ s36 _ => (m - lo) - (intOf s36).toNat)
    case atStart => exact ⟨0, 0, Nat.zero_le _, by go_num, by go_num, by decide, by simp; rfl, rfl⟩
    case round =>
     obtain ⟨j, x, hj, rfl, rfl, hx, hv, rfl⟩ := hrel
     have HX := Lib.hid hx
     have HV := Lib.hid hv
     clear hx hv
     by_cases hlt2 : j < m - lo
     · have hcw := HCL.out (lo + j) (by omega)
       have hcv := (h6.cell (p := ⟨b, o + (lo + j), none⟩) hbl).trans hcw
       rw [← Nat.add_assoc] at hcv
       have hdl : D L (lo + j) < 256 := HDG.out _ (by
        rw [show D L (lo + j) = L[lo + j]'(by have := HL.out; omega) by simp [D, List.getD_eq_getElem?_getD, List.getElem?_eq_getElem (show lo + j < L.length by have := HL.out; omega)]]
        exact List.getElem_mem _)
       have hvm := valL_take_more (L := L) (lo := lo) (j := j) (by have := HL.out; omega)
       rw [← HV.out] at hvm
       obtain ⟨X, hX⟩ : ∃ X, D L (lo + j) = X := ⟨_, rfl⟩
       rw [hX] at hcv hdl hvm
       obtain ⟨e1, e2, e3⟩ := fb_step HX.out (by omega : j < 8) hdl
       have E1 := Lib.hid e1
       have E2 := Lib.hid e2
       have E3 := Lib.hid e3
       have HVM := Lib.hid hvm
       have hwx : IntKind.u64.wrap (X : Int) = (X : Int) := by rw [IntKind.wrap_u64]; omega
       have hj1 : (j : Int) < ((m - lo : Nat) : Int) := by omega
       clear hcw e1 e2 e3 hvm hX
       go_wp2_with fail
       rw [E1.out, E2.out]
       refine ⟨⟨j + 1, x * 256 + X, by omega, by go_num, rfl, E3.out, HVM.out.symm, trivial⟩, ?_⟩
       simp [intOf] <;> omega
     · obtain rfl : j = m - lo := by omega
       have hpx := pow8_le HX.out hc8
       have h61 := h6.size
       have hval : val (os ++ [x]) = valL 256 (L.drop (n - 8 * (k + 1))) := by
        have e1 := valL_part (L := L) (lo := lo) (m := m) (k := k) hlom (by have := HL.out; omega) (by have := HL.out; have := HM.out; omega)
        rw [← HLN.out, e1, val_append, HLO.out, H5.out, HM.out, HV.out]
        rfl
       have hdo := dig_snoc HDO.out hpx
       have hol : (os ++ [x]).length = k + 1 := by rw [List.length_append, HLO.out]; rfl
       have HVL := Lib.hid hval
       have HDO2 := Lib.hid hdo
       have HOL := Lib.hid hol
       have e10 : IntKind.i64.wrap ((m : Int) - 8) = (m : Int) - 8 := by rw [IntKind.wrap_i64]; omega
       clear hval hdo hol
       go_wp2_with (at_builtin; refine wpList_append_nat rfl _ _ 23 rfl w.heap.size 40 i0 Tryd.underlying23 hi hz0 hz1 hz2 _ k (dv os) rfl (hrow.alloc _) _ 1 1 [x] rfl (lit1 _ x x rfl hpx).toNatAt (by omega) (by simp; omega) ?_; intro b2 cc2 w2 hown2 hgrow2)
       obtain ⟨hr2, hb2⟩ := grown_row7 _ h6 h6.size hrow hown2 hgrow2
       go_wp2_with fail
       go_roundw
       case rel => exact ⟨k + 1, os ++ [x], b2, cc2, by omega, by have := HEM.out; go_num, rfl, HDO2.out, HOL.out, hr2, HVL.out, hb2⟩
       case measure => have := HEM.out; simp [intOf]; omega
  · have hT := fb_top H0.out HDO.out HLO.out (by rw [HL.out]; exact hk) (by rw [H5.out, show n - 8 * k = 0 by omega, List.drop_zero])
    have hdv := dig_digs_eq HDO.out hT
    rw [H5.out, show n - 8 * k = 0 by omega, List.drop_zero] at hdv
    obtain ⟨a5, c5, e5, h8⟩ := OwnAt.ofRow hrow HDO.out
    cases e5
    rw [← hdv] at h8
    have HX := Lib.hid h8
    have t9 : ¬ (0 : Int) < (n : Int) - 8 * (k : Int) := by omega
    have t10 : decide ((0 : Int) < (n : Int) - 8 * (k : Int)) = false := decide_eq_false t9
    clear hdv h8
    go_wp2_with fail
    go_ret2
    exact ⟨_, _, _, rfl, HX.out, h6⟩
theorem frombytes_any (a : Option Addr) (n c : Nat) (L : List Nat) (w : World) (h : BytesAt w a n c L) :
 Calls Tryd.prog 6 #[.slice a n c] w (RetFB w (fbN L) (fbE L)) := by
 have hl := h.len
 have hle := h.le
 have hcle := h.cle
 unfold fbN fbE
 by_cases h1 : 10000 < L.length
 · rw [if_pos h1, if_pos h1]
   exact frombytes_long a n c w (by omega) (by omega)
 · rw [if_neg h1, if_neg h1]
   by_cases h0 : L.head? = some 0
   · rw [if_pos h0, if_pos h0]
     exact frombytes_bad a n c L w h (by omega) h0
   · rw [if_neg h0, if_neg h0]
     by_cases hn : n = 0
     · subst hn
       obtain rfl := List.length_eq_zero_iff.1 hl
       exact frombytes_none a c w
     · rcases h.parts with h2 | ⟨b, o, rfl, hbl, hcl⟩
       · exact absurd h2 hn
       · exact frombytes_yes b o n c L w hl h.dig hle hcle hcl hbl (by omega) hn h0
end Go.Proofs.YtoecndogaklngaaDoor
