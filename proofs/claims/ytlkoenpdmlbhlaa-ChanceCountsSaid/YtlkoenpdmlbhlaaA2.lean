/- several texts as one: Limbs1, Limbs2, Limbs3, Limbs4, Limbs5, Limbs6, Limbs7, Limbs8, AppZ. -/
import Derived.Test.YtlkoenpdmlbhlaaA1
import Derived.Test.YtlkoenpdmlbhlaaProg
import Derived.Lib.AppendZeros
import Derived.Lib.SliceRun
import Derived.BigQuiet
import Derived.Deep.QuietTactic
import Derived.Deep.AppendSrc
import Derived.WalkSpells
import Derived.Lib.MinMax
import Derived.RangeFuncNested
import Derived.RangeFuncBound
import Derived.RangeFuncCalls
import Derived.RangeFuncLeaves
import Derived.Shelf.Abstract
import Derived.Shelf.RegionOpen
import Derived.OwnWalkIn
import Derived.TacticsInMore
import Derived.LoopNIn
import Derived.LoopIn
import Derived.Deep.RegionWith
import Derived.BigRegion
import Derived.StillTailTactics
import Derived.ArgAppend

/- limbs, first part: digit, trimmed, room, Clone, Clip, Trim, Of, One, Check: what each comes to. -/
set_option linter.unusedVariables false
set_option linter.unusedSimpArgs false
namespace Go.Proofs.Ytlkoenpdmlbhlaa
open Go.RowKit

/-- bits.Add64, bits.Sub64: the model's own rows -/
theorem add64_call (x y c : Nat) (hx : x < 18446744073709551616) (hy : y < 18446744073709551616) (hc : c ≤ 1) :
    ∃ s k : Nat, s < 18446744073709551616 ∧ k ≤ 1 ∧ s + 18446744073709551616 * k = x + y + c ∧
      ∀ w, (callFunc 111 #[.int .u64 ((x : Nat) : Int), .int .u64 ((y : Nat) : Int), .int .u64 ((c : Nat) : Int)]).run Try.prog w = .ok (.value (.tuple #[.int .u64 ((s : Nat) : Int), .int .u64 ((k : Nat) : Int)])) w := by
  refine ⟨(x + y + c) % 18446744073709551616, (x + y + c) / 18446744073709551616, by omega, by omega, by omega, fun w => ?_⟩
  rw [run_callFunc_extern Try.func111 (by kernel_rfl) (by kernel_rfl) (by kernel_rfl) (e := add64Entry) (by kernel_rfl), run_add64 x y c (by omega) (by omega) (by omega) (by omega)]
  simp only [Result.andThen]
  congr 5 <;> omega

def subEntry : Array Value → Sem Value := fun args => do
  let (x, y, b) ← Extern.MathBitsCarry.three "Sub64" args
  pure (Extern.MathBitsCarry.pair ((x + Extern.MathBitsCarry.m64 - y - b) % Extern.MathBitsCarry.m64) (if x < y + b then 1 else 0))

theorem run_subEntry {P : Program} (x y b : Nat) (hb : b ≤ 1) (w : World) :
    (subEntry #[.int .u64 x, .int .u64 y, .int .u64 b]).run P w =
      .ok (.tuple #[.int .u64 (((x + 18446744073709551616 - y - b) % 18446744073709551616 : Nat) : Int), .int .u64 ((if x < y + b then 1 else 0 : Nat) : Int)]) w := by
  have : b = 0 ∨ b = 1 := by omega
  rcases this with rfl | rfl <;> rfl

theorem sub64_call (x y c : Nat) (hx : x < 18446744073709551616) (hy : y < 18446744073709551616) (hc : c ≤ 1) :
    ∃ s k : Nat, s < 18446744073709551616 ∧ k ≤ 1 ∧ s + y + c = x + 18446744073709551616 * k ∧
      ∀ w, (callFunc 115 #[.int .u64 ((x : Nat) : Int), .int .u64 ((y : Nat) : Int), .int .u64 ((c : Nat) : Int)]).run Try.prog w = .ok (.value (.tuple #[.int .u64 ((s : Nat) : Int), .int .u64 ((k : Nat) : Int)])) w := by
  refine ⟨(x + 18446744073709551616 - y - c) % 18446744073709551616, if x < y + c then 1 else 0, by omega, by split <;> omega, by split <;> omega, fun w => ?_⟩
  rw [run_callFunc_extern Try.func115 (by kernel_rfl) (by kernel_rfl) (by kernel_rfl) (e := subEntry) (by kernel_rfl), run_subEntry x y c hc]
  rfl

set_option maxRecDepth 100000 in
theorem digit_any (a : Option Addr) (n c : Nat) (l : List Nat) (i : Int) (w : World) (h : NatAt w a n c l) (h0 : 0 ≤ i) :
    Calls Try.prog 112 #[.slice a n c, .int .i64 i] w fun e w' => e = .returned (.int .u64 ((D l i.toNat : Nat) : Int)) ∧ w = w' := by
  obtain ⟨k, rfl⟩ := Int.eq_ofNat_of_zero_le h0
  rw [Int.toNat_natCast]
  by_cases hk : k < n
  · rcases h.parts with h1 | ⟨b, o, rfl, hlt, hc⟩
    · omega
    have hc' := hc k hk
    have hl := h.cle
    have hl' := h.le
    clear hc
    go_enter Try.func112, Try.ntmps112
    go_wp2
    go_ret
    exact ⟨rfl, rfl⟩
  · have hd : D l k = 0 := D_out (by rw [h.len]; omega)
    have H := Lib.hid hd
    clear hd
    go_enter Try.func112, Try.ntmps112
    go_wp2
    go_ret
    exact ⟨by rw [H.out]; rfl, rfl⟩

set_option maxRecDepth 100000 in
theorem trimmed_any (a : Option Addr) (n c : Nat) (l : List Nat) (w : World) (h : NatAt w a n c l) :
    Calls Try.prog 100 #[.slice a n c] w fun e w' => e = .returned (.slice a (digs (val l)).length c) ∧ w = w' := by
  have hl := h.cle
  have hl' := h.le
  go_enter Try.func100, Try.ntmps100
  go_wp2
  go_loop [0] (fun v => ∃ m : Nat, m ≤ n ∧ hi l m = 0 ∧ v = .slice a m c) (fun v => match v with | .slice _ m _ => m | _ => 0)
  case atStart => exact ⟨n, Nat.le_refl _, hi_all (by rw [h.len]; omega), rfl⟩
  case round =>
    obtain ⟨m, hm, h0, rfl⟩ := hrel
    have H0 := Lib.hid h0
    clear h0
    by_cases hm0 : 0 < m
    · rcases h.parts with h1 | ⟨b, o, rfl, hlt, hc⟩
      · omega
      have hc' := hc (m - 1) (by omega)
      clear hc
      by_cases hz : D l (m - 1) = 0
      · have hz' : (((D l (m - 1) : Nat) : Int) == 0) = true := by rw [hz]; rfl
        have HZ := Lib.hid hz
        clear hz
        go_wp2
        go_round
        case rel => exact ⟨m - 1, by omega, by rw [hi_step, HZ.out, show m - 1 + 1 = m by omega, H0.out], rfl⟩
        case measure => simp; omega
      · have hz' : (((D l (m - 1) : Nat) : Int) == 0) = false := by simpa using hz
        have HZ := Lib.hid hz
        clear hz
        go_wp2
        go_ret
        exact ⟨ret_len (take_digs_length h.dig (by rw [h.len]; exact hm) H0.out (.inr HZ.out)), rfl⟩
    · have hmz : m = 0 := by omega
      subst hmz
      clear hm0
      go_wp2
      go_ret
      exact ⟨ret_len (take_digs_length h.dig (Nat.zero_le _) H0.out (.inl rfl)), rfl⟩

set_option maxRecDepth 100000 in
theorem clip_any (a : Option Addr) (n c : Nat) (w : World) (h : n ≤ c) (hc : c ≤ 9223372036854775807) :
    Calls Try.prog 113 #[.slice a n c] w fun e w' => e = .returned (.slice a n n) ∧ w = w' := by
  go_enter Try.func113, Try.ntmps113
  go_wp2
  go_ret
  exact ⟨rfl, rfl⟩

theorem info73 : (Try.prog.info? 73).map (fun i => (i.zero, i.size, i.bytes)) = some (some (.int .u64 0), 1, 8) := by kernel_rfl

theorem copied {E : Nat} (w : World) (a' : Option Addr) (n c' : Nat) (l : List Nat) (w1 : World) (o : Obj) (hd : Dig l) (hown : w1.ownsRow w.heap.size E 1 (.slice a' (0 + n) c') (0 + n) ([] ++ dv l))
    (hgrow : (w.alloc o).grownBy w1 (Value.slice (some ⟨w.heap.size, 0, none⟩) 0 0).ownBlock) {e : Ending} (he : e = .returned (.slice a' n c')) :
    ∃ a' n' c', e = .returned (.slice a' n' c') ∧ OwnAt w1 w.heap.size a' n' c' l ∧ Below w.heap.size w w1 := by
  obtain ⟨a2, c2, he2, h2⟩ := OwnAt.ofRow (by simpa using hown) hd
  cases he2
  refine ⟨_, _, _, he, by simpa using h2, ?_⟩
  refine ((Below.refl _ _).alloc (Nat.le_refl _) o).grown hgrow (by simp) (fun k hk => ?_)
  simp [Value.ownBlock] at hk
  omega

set_option maxRecDepth 100000 in
theorem clone_any (a : Option Addr) (n c : Nat) (l : List Nat) (w : World) (h : NatAt w a n c l) (hs : n ≤ 1099511627776) :
    Calls Try.prog 102 #[.slice a n c] w fun e w' => ∃ a' n' c', e = .returned (.slice a' n' c') ∧ OwnAt w' w.heap.size a' n' c' l ∧ Below w.heap.size w w' := by
  obtain ⟨i0, hi, hz0, hz1, hz2⟩ := info_parts info73
  have hq := fun w => Lib.run_eql_slice_nil (P := Try.prog) w 32 73 a n c 0 0 Try.underlying32
  cases a with
  | none =>
    have hc := h.nilc rfl
    have hn : n = 0 := by have := h.le; omega
    subst hc
    subst hn
    have hl : l = [] := List.eq_nil_of_length_eq_zero h.len
    subst hl
    go_enter Try.func102, Try.ntmps102
    go_wp2
    go_ret
    exact ⟨_, _, _, rfl, OwnAt.nil _ _, Below.refl _ _⟩
  | some ad =>
    go_enter Try.func102, Try.ntmps102
    go_wp2_with (at_builtin; refine wpList_append_nat rfl _ _ 32 rfl w.heap.size 73 i0 Try.underlying32 hi hz0 hz1 hz2 _ 0 [] rfl (World.ownsRow_lit w #[] 0 (Nat.le_refl _) (by simp) rfl) _ n c l rfl (h.alloc _) (by omega) (by simp) ?_; intro a' c' w1 hown hgrow)
    go_ret
    exact copied w a' n c' l w1 _ h.dig hown hgrow rfl

theorem zero73 (w : World) : (zeroValue 73).run Try.prog w = .ok (.int .u64 0) w := by kernel_rfl

theorem zeroed {E : Nat} (w : World) (n cap : Nat) (h : n ≤ cap) (hc : cap ≤ 9223372036854775807) :
    OwnAt (w.drew.alloc (.cells (Builtin.zeroCells (Value.int IntKind.u64 0).cells n ++ Builtin.zeroCells (Value.int IntKind.u64 0).cells (cap - n)) E)) w.heap.size (some ⟨w.heap.size, 0, none⟩) n cap (List.replicate n 0) := by
  refine ⟨⟨by simp, h, hc, dig_replicate n, .inr ⟨_, _, rfl, fun i hi => ?_⟩, fun e => by cases e⟩, .inr ⟨_, _, rfl, Nat.le_refl _, fun i hi => ?_⟩⟩
  · rw [show w.heap.size = w.drew.heap.size from rfl, World.cell?_alloc_at _ _ _ _ rfl, Nat.zero_add, Array.getElem?_append]
    have h1 : (Builtin.zeroCells (Value.int IntKind.u64 0).cells n).size = n := by simp [Builtin.zeroCells, Value.cells]
    rw [if_pos (by omega)]
    simp [Builtin.zeroCells, Value.cells, D, hi, List.getD_eq_getElem?_getD, Nat.mod_one]
  · exact World.frozen?_alloc_at _ _ _ _ rfl

set_option maxRecDepth 100000 in
theorem grow_nil (n : Nat) (w : World) (hs : n ≤ 1099511627776) :
    Calls Try.prog 121 #[.slice none 0 0, .int .i64 n] w fun e w' => ∃ a' c', e = .returned (.slice a' 0 c') ∧ OwnAt w' w.heap.size a' n c' (List.replicate n 0) ∧ Below w.heap.size w w' := by
  obtain ⟨i0, hi, hz0, hz1, hz2⟩ := info_parts info73
  have hu := fun (w : World) (hn : 0 < n) => Lib.run_append_nil_zeros (P := Try.prog) w 32 3 32 73 i0 (.int .u64 0) .i64 .i64 Try.underlying32 Try.underlying3 hi hz0 n hn (by omega) (by omega) (by rw [hz2]; omega)
  by_cases hn : 0 < n
  · have hcap := grownCap_le_maxLen w n 0 73 (by simp only [maxLen]; omega)
    have hcap' := grownCap_ge w n 0 73
    simp only [maxLen] at hcap
    go_enter Try.func121, Try.ntmps121
    go_wp2_with (at_builtin; refine Lib.wpList_append_run _ rfl _ _ 32 3 rfl _ _ rfl rfl _ _ (hu _ hn) ?_; clear hu)
    go_ret
    exact ⟨_, _, rfl, zeroed w n _ hcap' hcap, (Below.refl _ _).drew.alloc (Nat.le_refl _) _⟩
  · obtain rfl : n = 0 := by omega
    go_enter Try.func121, Try.ntmps121
    go_wp2
    go_ret
    exact ⟨_, _, rfl, OwnAt.nil _ _, Below.refl _ _⟩

theorem clear_nought (w : World) (a : Option Addr) (c : Nat) (ty : TypeId) : (Builtin.clear_ #[32] ty #[.slice a 0 c]).run Try.prog w = .ok (.tuple #[]) w := by
  cases a <;> simp [Builtin.clear_, run_underlying Try.underlying32, zero73, Builtin.zeroCells, storeCells]

set_option maxRecDepth 100000 in
theorem room_any (n : Int) (w : World) (h0 : 0 ≤ n) (hs : n ≤ 1099511627776) :
    Calls Try.prog 110 #[.int .i64 n] w fun e w' => ∃ a' c', e = .returned (.slice a' n.toNat c') ∧ OwnAt w' w.heap.size a' n.toNat c' (List.replicate n.toNat 0) ∧ Below w.heap.size w w' := by
  obtain ⟨n, rfl⟩ := Int.eq_ofNat_of_zero_le h0
  rw [Int.toNat_natCast]
  go_enter Try.func110, Try.ntmps110
  go_wp2_with fail
  refine (grow_nil n _ (by omega)).mono ?_
  rintro e w1 ⟨a1, c1, rfl, h1, hb1⟩
  have hle := h1.le
  have hcle := h1.cle
  by_cases hn : n = 0
  · subst hn
    have hcl := fun ty => clear_nought w1 a1 c1 ty
    cases a1 with
    | none =>
      go_wp2
      go_ret
      exact ⟨_, _, rfl, h1, hb1⟩
    | some ad =>
      go_wp2
      go_ret
      exact ⟨_, _, rfl, h1, hb1⟩
  · rcases h1.own with h2 | ⟨b, o, rfl, hB, hf⟩
    · omega
    have hcl := fun ty => Lib.run_clear_slice (P := Try.prog) w1 32 73 ty (.int .u64 0) Try.underlying32 zero73 rfl rfl b o n c1 (by omega) (fun j hj => by
      rcases h1.cell with h2 | ⟨b', o', he, hc⟩
      · omega
      · cases he; rw [hc j hj]; rfl) hf
    rw [← dv_replicate] at hcl
    have h3 := h1.setAll (l' := List.replicate n 0) (by simp) (dig_replicate n)
    have hb2 := hb1.trans (below_setCells w.heap.size b hB (dv (List.replicate n 0)) o w1)
    go_wp2
    go_ret
    exact ⟨_, _, rfl, h3, hb2⟩

end Go.Proofs.Ytlkoenpdmlbhlaa

/- limbs, second part: Trim, Of, One, Check, both texts'. -/
set_option linter.unusedVariables false
set_option linter.unusedSimpArgs false
namespace Go.Proofs.Ytlkoenpdmlbhlaa
open Go.RowKit

set_option maxRecDepth 100000 in
theorem trim_any (a : Option Addr) (n c : Nat) (l : List Nat) (w : World) (h : NatAt w a n c l) (hs : n ≤ 1099511627776) :
    Calls Try.prog 81 #[.slice a n c] w (RetNat w (val l)) := by
  have h1 := h.digs
  have h2 : (digs (val l)).length ≤ n := by have := digs_length_val h.dig; rw [h.len] at this; exact this
  go_enter Try.func81, Try.ntmps81
  go_wp2_with fail
  refine (trimmed_any _ _ _ _ _ h).mono ?_
  rintro e w1 ⟨rfl, rfl⟩
  go_wp2_with fail
  refine (clone_any _ _ _ _ _ h1 (by omega)).mono ?_
  rintro e w1 ⟨a1, n1, c1, rfl, h3, hb⟩
  go_wp2
  go_ret
  exact ⟨_, _, _, rfl, h3, hb⟩

theorem RetNat.of {w w1 : World} {N : Nat} (h : Below w.heap.size w w1) {e : Ending} {w' : World} (h1 : RetNat w1 N e w') : RetNat w N e w' := by
  obtain ⟨a, n, c, he, ho, hb⟩ := h1
  exact ⟨a, n, c, he, ho.mono h.size, below_later h hb⟩

set_option maxRecDepth 100000 in
theorem of_any (x : Nat) (w : World) (hx : x < 18446744073709551616) :
    Calls Try.prog 48 #[.int .u64 x] w (RetNat w x) := by
  go_enter Try.func48, Try.ntmps48
  go_wp2_with fail
  refine (trim_any _ _ _ [x] _ (lit1 w x x rfl hx).toNatAt (by decide)).mono ?_
  rintro e w1 ⟨a1, n1, c1, rfl, h3, hb⟩
  go_wp2
  go_ret
  exact RetNat.of ((Below.refl _ _).alloc (Nat.le_refl _) _) ⟨_, _, _, rfl, by simpa [val] using h3, hb⟩

set_option maxRecDepth 100000 in
theorem check_any (a : Option Addr) (n c : Nat) (l : List Nat) (w : World) (h : NatAt w a n c l) :
    Calls Try.prog 72 #[.slice a n c] w fun e w' => e = .returned (.int .i64 (chk l)) ∧ w = w' := by
  have hl := h.cle
  have hl' := h.le
  have hlen := h.len
  by_cases hn : n = 0
  · subst hn
    have hnil : l = [] := List.eq_nil_of_length_eq_zero hlen
    subst hnil
    clear hlen
    go_enter Try.func72, Try.ntmps72
    go_wp2
    go_ret
    exact ⟨rfl, rfl⟩
  · rcases h.parts with h1 | ⟨b, o, rfl, hlt, hc⟩
    · omega
    have hc' := hc (n - 1) (by omega)
    clear hc
    have hne : l ≠ [] := fun e => hn (by rw [← hlen, e]; rfl)
    by_cases hz : D l (n - 1) = 0
    · have hv := chk_zero hne (by rw [hlen]; exact hz)
      have hz' : (((D l (n - 1) : Nat) : Int) == 0) = true := by rw [hz]; rfl
      have HV := Lib.hid hv
      clear hv hz hlen
      go_enter Try.func72, Try.ntmps72
      go_wp2
      go_ret
      exact ⟨ret_int HV.out.symm, rfl⟩
    · have hv := chk_pos hne (by rw [hlen]; exact hz)
      have hz' : (((D l (n - 1) : Nat) : Int) == 0) = false := by simpa using hz
      have HV := Lib.hid hv
      clear hv hz hlen
      go_enter Try.func72, Try.ntmps72
      go_wp2
      go_ret
      exact ⟨ret_int HV.out.symm, rfl⟩

set_option maxRecDepth 100000 in
theorem one_any (a : Option Addr) (n c : Nat) (l : List Nat) (w : World) (h : NatAt w a n c l) :
    Calls Try.prog 97 #[.slice a n c] w fun e w' => e = .returned (.tuple #[.int .u64 ((oneN (val l) : Nat) : Int), .bool (oneB (val l))]) ∧ w = w' := by
  have h1 := h.digs
  by_cases h0 : val l = 0
  · have hl : (digs (val l)).length = 0 := digs_len0.2 h0
    have HL := Lib.hid hl
    have e1 : oneN (val l) = 0 := by rw [h0]; rfl
    have e2 : oneB (val l) = true := by rw [h0]; rfl
    have E1 := Lib.hid e1
    have E2 := Lib.hid e2
    clear hl h0 e1 e2
    go_enter Try.func97, Try.ntmps97
    go_wp2_with fail
    refine (trimmed_any _ _ _ _ _ h).mono ?_
    rintro e w1 ⟨rfl, rfl⟩
    rw [HL.out]
    go_wp2
    go_ret2
    exact ⟨by rw [E1.out, E2.out]; rfl, rfl⟩
  · by_cases h2 : val l < 18446744073709551616
    · have hl : (digs (val l)).length = 1 := (digs_len1 h0).2 h2
      have hd : digs (val l) = [val l] := digs_small h0 h2
      rw [hl, hd] at h1
      have HL := Lib.hid hl
      have e1 : oneN (val l) = val l := if_pos h2
      have e2 : oneB (val l) = true := decide_eq_true h2
      have E1 := Lib.hid e1
      have E2 := Lib.hid e2
      rcases h1.parts with h3 | ⟨b, o, rfl, hlt, hc⟩
      · omega
      have hc' := hc 0 (by omega)
      rw [D_one, Nat.add_zero] at hc'
      clear hl h0 e1 e2 hd hc h2
      go_enter Try.func97, Try.ntmps97
      go_wp2_with fail
      refine (trimmed_any _ _ _ _ _ h).mono ?_
      rintro e w1 ⟨rfl, rfl⟩
      rw [HL.out]
      go_wp2
      go_ret2
      exact ⟨by rw [E1.out, E2.out]; rfl, rfl⟩
    · have hl1 : ((((digs (val l)).length : Nat) : Int) == 0) = false := by
        have : (digs (val l)).length ≠ 0 := fun e => h0 (digs_len0.1 e)
        simp only [beq_eq_false_iff_ne]; omega
      have hl2 : ((((digs (val l)).length : Nat) : Int) == 1) = false := by
        have : (digs (val l)).length ≠ 1 := fun e => h2 ((digs_len1 h0).1 e)
        simp only [beq_eq_false_iff_ne]; omega
      have e1 : oneN (val l) = 0 := if_neg h2
      have e2 : oneB (val l) = false := decide_eq_false h2
      have E1 := Lib.hid e1
      have E2 := Lib.hid e2
      clear e1 e2 h0 h2
      go_enter Try.func97, Try.ntmps97
      go_wp2_with fail
      refine (trimmed_any _ _ _ _ _ h).mono ?_
      rintro e w1 ⟨rfl, rfl⟩
      go_wp2
      go_ret2
      exact ⟨by rw [E1.out, E2.out]; rfl, rfl⟩
end Go.Proofs.Ytlkoenpdmlbhlaa

/- limbs, third part: Add. -/
set_option linter.unusedVariables false
set_option linter.unusedSimpArgs false
namespace Go.Proofs.Ytlkoenpdmlbhlaa
open Go.RowKit

theorem clip_own (a : Option Addr) (n c : Nat) (w : World) (h : n ≤ c) (hc : c ≤ 9223372036854775807) :
    Calls Try.prog 113 #[.slice a n c] w fun e w' => e = .returned (.slice a n n) ∧ w = w' := clip_any a n c w h hc

set_option maxRecDepth 100000 in
theorem add_any (a : Option Addr) (n c : Nat) (l : List Nat) (a2 : Option Addr) (n2 c2 : Nat) (l2 : List Nat) (w : World) (h : NatAt w a n c l) (h2 : NatAt w a2 n2 c2 l2) (hs : n ≤ 549755813888) (hs2 : n2 ≤ 549755813888) :
    Calls Try.prog 96 #[.slice a n c, .slice a2 n2 c2] w (RetNat w (val l + val l2)) := by
  go_enter Try.func96, Try.ntmps96
  go_wp2_with fail
  refine (room_any _ _ (by omega) (by omega)).mono ?_
  rintro e w1 ⟨a1, c1, rfl, h3, hb⟩
  obtain ⟨M, hM1, hM2, hM⟩ : ∃ M : Nat, n ≤ M ∧ n2 ≤ M ∧ (max (n : Int) (n2 : Int) + 1).toNat = M + 1 ∧ M ≤ 549755813888 := ⟨max n n2, by omega, by omega, by omega, by omega⟩
  obtain ⟨hM, hM3⟩ := hM
  rw [hM] at h3 ⊢
  have HM := Lib.hid hM
  clear hM
  have hcle := h3.cle
  have hle := h3.le
  rcases h3.own with h3' | ⟨b, o, rfl, hB, hf⟩
  · omega
  clear hf
  go_wp2_with fail
  go_loopw [6, 7] (fun i cy wr => ∃ (k x : Nat) (os : List Nat), k ≤ M + 1 ∧ x ≤ 1 ∧ i = .int .i64 k ∧ cy = .int .u64 x ∧ OwnAt wr w.heap.size (some ⟨b, o, none⟩) (M + 1) c1 os ∧ lo os k + 18446744073709551616 ^ k * x = lo l k + lo l2 k ∧ Below w.heap.size w wr) (fun i _ _ => M + 1 - (intOf i).toNat)
  case atStart => exact ⟨0, 0, _, Nat.zero_le _, Nat.zero_le _, rfl, rfl, h3, by simp [lo_zero], hb⟩
  case round =>
    obtain ⟨k, x, os, hk, hx, rfl, rfl, h4, h5, h6⟩ := hrel
    by_cases hlt : k < M + 1
    · have e1 := h.later h6 (Nat.le_refl _)
      have e2 := h2.later h6 (Nat.le_refl _)
      have H5 := Lib.hid h5
      clear h5
      have d1 := h.dig.at_ k
      have d2 := h2.dig.at_ k
      have hcell : ∃ v, wr.cell? ⟨b, o + k, none⟩ = some v := by
        rcases h4.cell with h' | ⟨b', o', he, hc⟩
        · omega
        · cases he; exact ⟨_, hc k hlt⟩
      obtain ⟨v, hcell⟩ := hcell
      obtain ⟨d, cy, hd, hcy, hsum, hadd⟩ := add64_call (D l k) (D l2 k) x d1 d2 hx
      have HS := Lib.hid hsum
      clear hsum
      have hfro : wr.frozen? ⟨b, o + k, none⟩ = false := by
        rcases h4.own with h' | ⟨b', o', he, _, hf⟩
        · omega
        · cases he; exact hf k hlt
      go_wp2_with fail
      refine (digit_any _ _ _ l _ _ e1 (by omega)).mono ?_
      rintro e w' ⟨rfl, rfl⟩
      rw [Int.toNat_natCast]
      go_wp2_with fail
      refine (digit_any _ _ _ l2 _ _ e2 (by omega)).mono ?_
      rintro e w' ⟨rfl, rfl⟩
      rw [Int.toNat_natCast]
      go_wp2_with fail
      have h7 := h4.set hlt hd
      have h8 := h6.setCell (p := ⟨b, o + k, none⟩) hB (.int .u64 (d : Int))
      have h9 := add_step H5.out (by rw [h4.len]; exact hlt) HS.out
      go_wp2
      go_roundw
      case rel => exact ⟨k + 1, cy, _, by omega, hcy, by go_num, rfl, h7, h9, h8⟩
      case measure => simp [intOf]; omega
    · obtain rfl : k = M + 1 := by omega
      have h7 := add_end h.dig h2.dig h4.len (by rw [h.len]; exact hM1) (by rw [h2.len]; exact hM2) h5
      have h8 := h4.digs
      rw [h7] at h8
      have h9 := h8.le
      go_wp2_with fail
      refine (trimmed_any _ _ _ _ _ h4.toNatAt).mono ?_
      rintro e w' ⟨rfl, rfl⟩
      rw [h7]
      go_wp2_with fail
      refine (clip_any _ _ _ _ h9 hcle).mono ?_
      rintro e w' ⟨rfl, rfl⟩
      go_wp2
      go_ret
      exact ⟨_, _, _, rfl, h8.recap (Nat.le_refl _) h9, h6⟩

end Go.Proofs.Ytlkoenpdmlbhlaa

/- limbs, fourth part: down and Cmp: a range over a function. -/
set_option linter.unusedVariables false
set_option linter.unusedSimpArgs false
namespace Go.Proofs.Ytlkoenpdmlbhlaa
open Go.RowKit Go.Shelf
attribute [local go_sem] Oper.semAt_some

def pairV (p : Nat × Nat) : Array Value := #[.int .u64 ((p.1 : Nat) : Int), .int .u64 ((p.2 : Nat) : Int)]

set_option maxRecDepth 100000 in
set_option maxHeartbeats 2000000 in
theorem down1_in (n : Nat) (hn : 1 ≤ n) (lp B1 B2 n₀ : Nat) (a : Option Addr) (m c : Nat) (l : List Nat) (a2 : Option Addr) (m2 c2 : Nat) (l2 : List Nat) (M : Nat) (hM : max (m : Int) (m2 : Int) = M) (J Jx : List (Nat × Nat) → World → Prop)
    (hY : ∀ pre x W, J pre W → pre.length < M → YieldAt Fence.wide (n - 1) Try.prog lp (pairV x) W fun e W' =>
      (e = .returned (.bool true) ∧ J (pre ++ [x]) W' ∧ Below n₀ W W') ∨ (e = .returned (.bool false) ∧ Jx (pre ++ [x]) W'))
    (hJd : ∀ pre W, J pre W → J pre W.drew)
    (W : World) (h1 : W.cell? ⟨B1, 0, none⟩ = some (.slice a m c)) (h2 : W.cell? ⟨B2, 0, none⟩ = some (.slice a2 m2 c2)) (hB1 : B1 < n₀) (hB2 : B2 < n₀) (ha : m = 0 ∨ ∀ x, a = some x → x.block < n₀) (ha2 : m2 = 0 ∨ ∀ x, a2 = some x → x.block < n₀)
    (hl : NatAt W a m c l) (hl2 : NatAt W a2 m2 c2 l2) (h0 : J [] W) :
    CallsIn Fence.wide n Try.prog 114 #[.func (.yield lp) #[] #[], .pointer (some ⟨B1, 0, none⟩), .pointer (some ⟨B2, 0, none⟩)] W fun e W' => (∃ v, e = .returned v) ∧
      ((∃ ys, ys = upto l l2 M M ∧ J ys W') ∨ (∃ pre, (∃ k, k ≤ M ∧ pre = upto l l2 M k) ∧ Jx pre W')) := by
  have hm := hl.cle
  have hm' := hl.le
  have hm2 := hl2.cle
  have hm2' := hl2.le
  have hMb : M ≤ 9223372036854775807 := by omega
  have HM := Lib.hid hM
  have hgo : (max (m : Int) (m2 : Int)) = M := hM
  refine callsIn_of_wp Try.func114 rfl trivial ?_ rfl
  simp only [Try.ntmps114, List.size_toArray, List.length_cons, List.length_nil, Nat.reduceAdd, Nat.reduceSub, Array.replicate_succ, Array.replicate_zero, List.push_toArray, List.append_toArray, List.nil_append, List.cons_append]
  gi_wp2
  gi_loopw [4] (fun i wr => ∃ k : Nat, k ≤ M ∧ i = .int .i64 ((M : Int) - 1 - k) ∧ J (upto l l2 M k) wr ∧ Below n₀ W wr)
    (fun i _ => (intOf i + 1).toNat)
  case atStart => exact ⟨0, Nat.zero_le _, by go_num, h0, Below.refl _ _⟩
  case round =>
    obtain ⟨k, hk, rfl, hJs, hnx⟩ := hrel
    have hc1 := (hnx.cell (p := ⟨B1, 0, none⟩) hB1).trans h1
    have hc2 := (hnx.cell (p := ⟨B2, 0, none⟩) hB2).trans h2
    have hn1 := hl.below hnx ha
    have hn2 := hl2.below hnx ha2
    by_cases hlt : k < M
    · obtain ⟨fn, tmps, assign, body, hy, hR⟩ := hY _ (D l (M - 1 - k), D l2 (M - 1 - k)) wr.drew (hJd _ _ hJs) (by rw [upto_length]; exact hlt)
      dsimp only [pairV] at hy
      have n1 := hn1.drew
      have n2 := hn2.drew
      have hk' : 0 ≤ (M : Int) - 1 - k := by omega
      have ek : ((M : Int) - 1 - k).toNat = M - 1 - k := by omega
      have EK := Lib.hid ek
      clear ek hn1 hn2
      have hfo : Try.prog.follows .mixedOrders = true := by kernel_rfl
      have hR' := hR.mono (R' := fun e W' => ∃ t : Bool, e = .returned (.bool t) ∧ Hid ((t = true ∧ J (upto l l2 M (k + 1)) W' ∧ Below n₀ wr.drew W') ∨ (t = false ∧ Jx (upto l l2 M (k + 1)) W'))) (by
        rw [upto_succ]
        rintro e W' (⟨rfl, h1, h2⟩ | ⟨rfl, h1⟩)
        · exact ⟨true, rfl, .inl ⟨rfl, h1, h2⟩⟩
        · exact ⟨false, rfl, .inr ⟨rfl, h1⟩⟩)
      clear hR
      gi_wp2_with fail
      gi_region_with_o (first | (refine ⟨trivial, ?_⟩; gi_at_call 112; refine (callsIn_wide.2 (digit_any _ _ _ _ _ _ (by assumption) hk')).mono ?_; rintro e w' ⟨rfl, rfl⟩; rw [EK.out]) | (refine hR'.mono ?_; rintro e W3 ⟨t, rfl, ht⟩))
      all_goals
        have HT := ht
        rcases HT.out with ⟨rfl, hJ3, hk3⟩ | ⟨rfl, hJx3⟩
        · gi_wp2
          go_roundw
          case rel => exact ⟨k + 1, by omega, by go_num, hJ3, hnx.drew.trans hk3⟩
          case measure => simp [intOf]; omega
        · gi_wp2
          refine bodyPost_ret (results_none rfl _ _ _) rfl ?_
          exact ⟨⟨_, rfl⟩, .inr ⟨_, ⟨k + 1, by omega, rfl⟩, hJx3⟩⟩
    · obtain rfl : k = M := by omega
      gi_wp2
      go_end0
      exact ⟨⟨_, rfl⟩, .inl ⟨_, rfl, hJs⟩⟩

set_option maxRecDepth 100000 in
theorem down_any (a : Option Addr) (n c : Nat) (a2 : Option Addr) (n2 c2 : Nat) (w : World) :
    Calls Try.prog 98 #[.slice a n c, .slice a2 n2 c2] w fun e w' => e = .returned (.func (.func 114) #[] #[.pointer (some ⟨w.heap.size, 0, none⟩), .pointer (some ⟨w.heap.size + 1, 0, none⟩)]) ∧
      (w.alloc (.cells #[.slice a n c] 32)).alloc (.cells #[.slice a2 n2 c2] 32) = w' := by
  have hmf : ∀ (fn : Fn) (first cap : Array Value) (w : World), (Instr.makeFunc fn first cap).run Try.prog w = .ok (.func fn first cap) w := fun _ _ _ _ => rfl
  go_enter Try.func98, Try.ntmps98
  go_wp2
  go_ret
  exact ⟨rfl, rfl⟩

theorem down_stops (n : Nat) (hn : 1 ≤ n) (B1 B2 n₀ : Nat) (a : Option Addr) (m c : Nat) (l : List Nat) (a2 : Option Addr) (m2 c2 : Nat) (l2 : List Nat) (M : Nat) (hM : max (m : Int) (m2 : Int) = M)
    (w : World) (h1 : w.cell? ⟨B1, 0, none⟩ = some (.slice a m c)) (h2 : w.cell? ⟨B2, 0, none⟩ = some (.slice a2 m2 c2)) (hB1 : B1 < n₀) (hB2 : B2 < n₀) (hn0 : n₀ ≤ w.heap.size) (ha : m = 0 ∨ ∀ x, a = some x → x.block < n₀) (ha2 : m2 = 0 ∨ ∀ x, a2 = some x → x.block < n₀)
    (hl : NatAt w a m c l) (hl2 : NatAt w a2 m2 c2 l2) :
    SeqStopsK Fence.wide n Try.prog 114 #[.pointer (some ⟨B1, 0, none⟩), .pointer (some ⟨B2, 0, none⟩)] pairV (Below n₀) (fun ys => ys = upto l l2 M M) (fun pre => ∃ k, k ≤ M ∧ pre = upto l l2 M k) M w := fun lp J Jx W hW hJ hJx hY h0 =>
  down1_in n hn lp B1 B2 n₀ a m c l a2 m2 c2 l2 M hM J Jx hY (fun pre V hV => hJ pre V V.drew none hV ⟨rfl, rfl, rfl, Nat.le_refl _, fun _ _ _ => rfl⟩ (fun r e => by cases e)) W
    ((hW.cell (p := ⟨B1, 0, none⟩) (show B1 < w.heap.size by omega)).trans h1) ((hW.cell (p := ⟨B2, 0, none⟩) (show B2 < w.heap.size by omega)).trans h2) hB1 hB2 ha ha2 (hl.later hW (Nat.le_refl _)) (hl2.later hW (Nat.le_refl _)) h0

end Go.Proofs.Ytlkoenpdmlbhlaa

/- limbs, fifth part: Cmp. -/
set_option linter.unusedVariables false
set_option linter.unusedSimpArgs false
namespace Go.Proofs.Ytlkoenpdmlbhlaa
open Go.RowKit Go.Shelf
attribute [local go_sem] Oper.semAt_some

theorem cell_new (W : World) (v : Value) (t : TypeId) : (W.alloc (.cells #[v] t)).cell? ⟨W.heap.size, 0, none⟩ = some v ∧ (W.alloc (.cells #[v] t)).frozen? ⟨W.heap.size, 0, none⟩ = false :=
  ⟨by rw [World.cell?_alloc_at _ _ _ _ rfl]; rfl, World.frozen?_alloc_at _ _ _ _ rfl⟩

set_option maxRecDepth 100000 in
set_option maxHeartbeats 2000000 in
theorem cmp_any (a : Option Addr) (n c : Nat) (l : List Nat) (a2 : Option Addr) (n2 c2 : Nat) (l2 : List Nat) (w : World) (h : NatAt w a n c l) (h2 : NatAt w a2 n2 c2 l2) :
    Calls Try.prog 73 #[.slice a n c, .slice a2 n2 c2] w (RetVal w (.int .i64 (cmpI (val l) (val l2)))) := by
  refine (callsIn_wide (n := 9)).1 ?_
  refine callsIn_of_wp_marks Try.func73 rfl trivial ?_ rfl
  simp only [Try.ntmps73, List.size_toArray, List.length_cons, List.length_nil, Nat.reduceAdd, Nat.reduceSub, Array.replicate_succ, Array.replicate_zero, List.push_toArray, List.append_toArray, List.nil_append, List.cons_append]
  gi_wp2_with (refine ⟨trivial, ?_⟩; gi_at_call 98; refine (callsIn_wide.2 (down_any _ _ _ _ _ _ _)).mono ?_; rintro e w' ⟨rfl, rfl⟩)
  have hb := cell_new w (.int .i64 0) 3
  obtain ⟨w0, hw0⟩ : ∃ w0, w.alloc (.cells #[.int .i64 0] 3) = w0 := ⟨_, rfl⟩
  have hs0 : w0.heap.size = w.heap.size + 1 := by rw [← hw0]; simp
  have hB0 : Below w.heap.size w w0 := by rw [← hw0]; exact (Below.refl _ _).alloc (Nat.le_refl _) _
  rw [hw0] at hb ⊢
  clear hw0
  have hb1 := cell_new w0 (.slice a n c) 32
  have hb2 := cell_new (w0.alloc (.cells #[.slice a n c] 32)) (.slice a2 n2 c2) 32
  obtain ⟨w3, hw3⟩ : ∃ w3, (w0.alloc (.cells #[.slice a n c] 32)).alloc (.cells #[.slice a2 n2 c2] 32) = w3 := ⟨_, rfl⟩
  have hs3 : w3.heap.size = w.heap.size + 3 := by rw [← hw3]; simp; omega
  have hB3 : Below w0.heap.size w0 w3 := by rw [← hw3]; exact ((Below.refl _ _).alloc (Nat.le_refl _) _).alloc (by simp) _
  have hc1 : w3.cell? ⟨w0.heap.size, 0, none⟩ = some (.slice a n c) := by rw [← hw3, World.cell?_alloc_past _ _ _ (by simp)]; exact hb1.1
  have hc2 : w3.cell? ⟨w0.heap.size + 1, 0, none⟩ = some (.slice a2 n2 c2) := by rw [← hw3]; have := hb2.1; rwa [World.size_alloc] at this
  have hc0 : w3.cell? ⟨w.heap.size, 0, none⟩ = some (.int .i64 0) := (hB3.cell (p := ⟨w.heap.size, 0, none⟩) (by simp; omega)).trans hb.1
  have hf0 : w3.frozen? ⟨w.heap.size, 0, none⟩ = false := (hB3.frozen (p := ⟨w.heap.size, 0, none⟩) (by simp; omega)).trans hb.2
  rw [hw3]
  rw [hs0] at hc1 hc2
  have hBB : Below w.heap.size w w3 := below_later hB0 hB3
  have hn1 := h.later hBB (Nat.le_refl _)
  have hn2 := h2.later hBB (Nat.le_refl _)
  clear hw3 hb hb1 hb2 hB3 hB0
  obtain ⟨M, hM⟩ : ∃ M : Nat, max (n : Int) (n2 : Int) = M := ⟨max n n2, by omega⟩
  have hMn : l.length ≤ M := by rw [h.len]; omega
  have hMn2 : l2.length ≤ M := by rw [h2.len]; omega
  have hp1 : n = 0 ∨ ∀ x, a = some x → x.block < w3.heap.size := by
    rcases hn1.parts with h' | ⟨b, o, he, hlt, _⟩
    · exact .inl h'
    · exact .inr fun x hx => by rw [he] at hx; cases hx; exact hlt
  have hp2 : n2 = 0 ∨ ∀ x, a2 = some x → x.block < w3.heap.size := by
    rcases hn2.parts with h' | ⟨b, o, he, hlt, _⟩
    · exact .inl h'
    · exact .inr fun x hx => by rw [he] at hx; cases hx; exact hlt
  refine wpIn_rangeFunc_ownF rfl (by decide) (gf := 114) (lb := #[.pointer (some ⟨w.heap.size + 1, 0, none⟩), .pointer (some ⟨w.heap.size + 1 + 1, 0, none⟩)]) rfl trivial (enters_of Try.func114 (by kernel_rfl) rfl)
    (down_stops _ (by decide) (w.heap.size + 1) (w.heap.size + 1 + 1) w3.heap.size a n c l a2 n2 c2 l2 M hM w3 hc1 hc2 (by omega) (by omega) (Nat.le_refl _) hp1 hp2 hn1 hn2) belowK_t (belowK_b (Nat.le_refl _)) (Below.refl _ _) (fun _ => rfl)
    (fun pre W => (lexP pre = 0 ∧ W.cell? ⟨w.heap.size, 0, none⟩ = some (.int .i64 0) ∧ W.frozen? ⟨w.heap.size, 0, none⟩ = false) ∧ Below w.heap.size w W)
    (fun c pre W => (c = .ret ∧ lexP pre ≠ 0 ∧ W.cell? ⟨w.heap.size, 0, none⟩ = some (.int .i64 (lexP pre))) ∧ Below w.heap.size w W)
    (OwnFrom.and (Own.from (fun s A B row hs hg hr => ⟨hs.1, cell_kept hs.2.1 hg hr, (frozen_kept hs.2.1 hg hr).trans hs.2.2⟩) _) (ownFrom_below (Nat.le_refl _) (by omega)))
    (fun _ => OwnFrom.and (Own.from (fun s A B row hs hg hr => ⟨hs.1, hs.2.1, cell_kept hs.2.2 hg hr⟩) _) (ownFrom_below (Nat.le_refl _) (by omega)))
    ⟨⟨rfl, hc0, hf0⟩, hBB⟩
    (fun x => { tmps := #[.slice a n c, .slice a2 n2 c2, undef, undef, .pointer (some ⟨w.heap.size, 0, none⟩), .int .u64 ((x.1 : Nat) : Int), .int .u64 ((x.2 : Nat) : Int), .slice a n c, .slice a2 n2 c2, .func (.func 114) #[] #[.pointer (some ⟨w.heap.size + 1, 0, none⟩), .pointer (some ⟨w.heap.size + 1 + 1, 0, none⟩)], .int .u64 ((x.1 : Nat) : Int), .int .u64 ((x.2 : Nat) : Int), undef, undef, undef, undef, undef, undef, undef, undef], defers := [] }) ?assign ?body ?done ?stop
  case assign =>
    intro lp x W K hK
    dsimp only [pairV]
    gi_wp2
    exact hK
  case body =>
    rintro lp pre x W ⟨⟨hl0, hcc, hff⟩, hBW⟩ _
    have HL := Lib.hid hl0
    clear hl0
    gi_wp2
    · have hx : x.1 < x.2 := by assumption
      have e : lexP (pre ++ [x]) = -1 := by rw [lexP_append, if_pos HL.out, lexP_one, cmpI_lt hx]
      exact ⟨KeepsOthers.setCell _ _ _, ⟨rfl, by rw [e]; decide, by rw [e]; exact World.cell?_setCell_same' _ _ _ (by rw [hcc]; rfl)⟩, hBW.setCell (p := ⟨w.heap.size, 0, none⟩) (Nat.le_refl _) _⟩
    · have hx : x.2 < x.1 := by assumption
      have e : lexP (pre ++ [x]) = 1 := by rw [lexP_append, if_pos HL.out, lexP_one, cmpI_gt hx]
      exact ⟨KeepsOthers.setCell _ _ _, ⟨rfl, by rw [e]; decide, by rw [e]; exact World.cell?_setCell_same' _ _ _ (by rw [hcc]; rfl)⟩, hBW.setCell (p := ⟨w.heap.size, 0, none⟩) (Nat.le_refl _) _⟩
    · have hx : x.1 = x.2 := by omega
      have e : lexP (pre ++ [x]) = 0 := by rw [lexP_append, if_pos HL.out, lexP_one, hx, cmpI_eq]
      exact ⟨KeepsOthers.refl _, Below.refl _ _, ⟨e, hcc, hff⟩, hBW⟩
  case done =>
    rintro Dd ys W hD rfl ⟨⟨hl0, hcc, hff⟩, hBW⟩ hK
    have HL := Lib.hid hl0
    clear hl0
    gi_wp2
    have hK' := (KeepsOthers.setCell W ⟨w.heap.size, 0, none⟩ (.int .i64 0)).same Dd _ hK rfl
    refine ⟨by simp, .inl ⟨_, _, rfl, run_takeDeferred hK', ?_⟩⟩
    have hc5 := cell_kept (World.cell?_setCell_same' W ⟨w.heap.size, 0, none⟩ (.int .i64 0) (by rw [hcc]; rfl)) (grownBy_putObj' _ Dd (.deferred none)) (fun r e => by cases e; exact ⟨_, hK', rfl⟩)
    refine ⟨.int .i64 0, ?_, ret_int (by rw [← lexP_all h.dig h2.dig hMn hMn2, HL.out]), (hBW.setCell (p := ⟨w.heap.size, 0, none⟩) (Nat.le_refl _) _).trans (belowK_b (w := w) (Nat.le_refl _) _ Dd _ _ (by omega) hK' rfl rfl)⟩
    simp [results, Try.f73, go_sem, hc5]
  case stop =>
    rintro Dd cc pre W hD ⟨k, hk, rfl⟩ ⟨⟨rfl, hl0, hcc⟩, hBW⟩ hK
    have hfull := lexP_part h.dig h2.dig hMn hMn2 hk hl0
    have HF := Lib.hid hfull
    clear hl0 hfull
    gi_wp2
    refine ⟨by simp, .inl ⟨_, _, rfl, run_takeDeferred hK, ?_⟩⟩
    have hc5 := cell_kept hcc (grownBy_putObj' _ Dd (.deferred none)) (fun r e => by cases e; exact ⟨_, hK, rfl⟩)
    refine ⟨.int .i64 (lexP (upto l l2 M k)), ?_, ret_int HF.out, hBW.trans (belowK_b (w := w) (Nat.le_refl _) _ Dd _ _ (by omega) hK rfl rfl)⟩
    simp [results, Try.f73, go_sem, hc5]

end Go.Proofs.Ytlkoenpdmlbhlaa

/- limbs, sixth part: Sub. -/
set_option linter.unusedVariables false
set_option linter.unusedSimpArgs false
namespace Go.Proofs.Ytlkoenpdmlbhlaa
open Go.RowKit

set_option maxRecDepth 100000 in
theorem sub_no (a : Option Addr) (n c : Nat) (l : List Nat) (a2 : Option Addr) (n2 c2 : Nat) (l2 : List Nat) (w : World) (h : NatAt w a n c l) (h2 : NatAt w a2 n2 c2 l2) (hv : val l < val l2) :
    Calls Try.prog 99 #[.slice a n c, .slice a2 n2 c2] w (RetVal w (.tuple #[.slice none 0 0, .int .i64 3])) := by
  have ht := cmpI_neg.2 hv
  go_enter Try.func99, Try.ntmps99
  go_wp2_with fail
  refine (cmp_any _ _ _ l _ _ _ l2 _ h h2).mono ?_
  rintro e w1 ⟨rfl, hb⟩
  go_wp2
  go_ret2
  exact ⟨rfl, hb⟩

set_option maxHeartbeats 1000000 in
set_option maxRecDepth 100000 in
theorem sub_yes (a : Option Addr) (n c : Nat) (l : List Nat) (a2 : Option Addr) (n2 c2 : Nat) (l2 : List Nat) (w : World) (h : NatAt w a n c l) (h2 : NatAt w a2 n2 c2 l2) (hs : n ≤ 549755813888) (hv : val l2 ≤ val l) :
    Calls Try.prog 99 #[.slice a n c, .slice a2 n2 c2] w (RetNatOk w (val l - val l2) 0) := by
  have ht : 0 ≤ cmpI (val l) (val l2) := by
    rcases Int.lt_or_le (cmpI (val l) (val l2)) 0 with h' | h'
    · have := cmpI_neg.1 h'; omega
    · exact h'
  have HV := Lib.hid hv
  clear hv
  go_enter Try.func99, Try.ntmps99
  go_wp2_with fail
  refine (cmp_any _ _ _ l _ _ _ l2 _ h h2).mono ?_
  rintro e w0 ⟨rfl, hb0⟩
  go_wp2_with fail
  refine (room_any _ _ (by omega) (by omega)).mono ?_
  rintro e w1 ⟨a1, c1, rfl, h3, hb1⟩
  rw [Int.toNat_natCast] at h3 ⊢
  have hb := below_later hb0 hb1
  have hcle := h3.cle
  have hle := h3.le
  have h3 := h3.mono hb0.size
  by_cases hn0 : n = 0
  · subst hn0
    have hl0 : l = [] := List.eq_nil_of_length_eq_zero h.len
    have hz : val l - val l2 = 0 := by rw [hl0]; simp [val]
    have HZ := Lib.hid hz
    clear hz hl0
    go_wp2_with fail
    refine wp_loop_rounds 1 ?_
    rw [rounds_succ]
    go_wp2_with fail
    refine (trimmed_any _ _ _ _ _ h3.toNatAt).mono ?_
    rintro e w' ⟨rfl, rfl⟩
    rw [show (digs (val (List.replicate 0 0))).length = 0 from rfl]
    go_wp2_with fail
    refine (clip_any _ _ _ _ (by omega) hcle).mono ?_
    rintro e w' ⟨rfl, rfl⟩
    go_wp2
    go_ret2
    refine ⟨_, _, _, rfl, ?_, hb⟩
    rw [HZ.out]
    exact h3.recap (Nat.le_refl _) (by omega)
  rcases h3.own with h3' | ⟨b, o, rfl, hB, hf⟩
  · omega
  clear hf
  go_wp2_with fail
  go_loopw [7, 8] (fun i cy wr => ∃ (k x : Nat) (os : List Nat), k ≤ n ∧ x ≤ 1 ∧ i = .int .i64 k ∧ cy = .int .u64 x ∧ OwnAt wr w.heap.size (some ⟨b, o, none⟩) n c1 os ∧ lo os k + lo l2 k = lo l k + 18446744073709551616 ^ k * x ∧ Below w.heap.size w wr) (fun i _ _ => n - (intOf i).toNat)
  case atStart => exact ⟨0, 0, _, Nat.zero_le _, Nat.zero_le _, rfl, rfl, h3, by simp [lo_zero], hb⟩
  case round =>
    obtain ⟨k, x, os, hk, hx, rfl, rfl, h4, h5, h6⟩ := hrel
    by_cases hlt : k < n
    · have e1 := h.later h6 (Nat.le_refl _)
      have e2 := (h2.later h6 (Nat.le_refl _)).drew
      have H5 := Lib.hid h5
      clear h5
      have d1 := h.dig.at_ k
      have d2 := h2.dig.at_ k
      have hcell : ∃ v, wr.cell? ⟨b, o + k, none⟩ = some v := by
        rcases h4.cell with h' | ⟨b', o', he, hc⟩
        · omega
        · cases he; exact ⟨_, hc k hlt⟩
      obtain ⟨v, hcell⟩ := hcell
      have hfro : wr.frozen? ⟨b, o + k, none⟩ = false := by
        rcases h4.own with h' | ⟨b', o', he, _, hf⟩
        · omega
        · cases he; exact hf k hlt
      obtain ⟨d, cy, hd, hcy, hsum, hsub⟩ := sub64_call (D l k) (D l2 k) x d1 d2 hx
      have HS := Lib.hid hsum
      clear hsum
      rcases e1.parts with h' | ⟨ba, oa, rfl, _, hca⟩
      · omega
      have hca' := hca k hlt
      clear hca
      go_wp2_with fail
      have hfo : Try.prog.follows .mixedOrders = true := by kernel_rfl
      go_region_with (first | (go_at_call 112; refine (digit_any _ _ _ l2 _ _ e2 (by omega)).mono ?_; rintro e w' ⟨rfl, rfl⟩; rw [Int.toNat_natCast]))
      all_goals
        have h7 := h4.drew.set hlt hd
        have h8 := h6.drew.setCell (p := ⟨b, o + k, none⟩) hB (.int .u64 (d : Int))
        have h9 := sub_step H5.out (by rw [h4.len]; exact hlt) HS.out
        go_wp2
        go_roundw
        case rel => exact ⟨k + 1, cy, _, by omega, hcy, by go_num, rfl, h7, h9, h8⟩
        case measure => simp [intOf]; omega
    · obtain rfl : k = n := by omega
      have h7 := sub_end h.dig h4.dig h4.len (by rw [h.len]; exact Nat.le_refl _) HV.out h5
      have h8 := h4.digs
      rw [h7] at h8
      have h9 := h8.le
      clear h5
      go_wp2_with fail
      refine (trimmed_any _ _ _ _ _ h4.toNatAt).mono ?_
      rintro e w' ⟨rfl, rfl⟩
      rw [h7]
      go_wp2_with fail
      refine (clip_any _ _ _ _ h9 hcle).mono ?_
      rintro e w' ⟨rfl, rfl⟩
      go_wp2
      go_ret2
      exact ⟨_, _, _, rfl, h8.recap (Nat.le_refl _) h9, h6⟩
end Go.Proofs.Ytlkoenpdmlbhlaa

/- limbs, seventh part: Down. -/
set_option linter.unusedVariables false
set_option linter.unusedSimpArgs false
namespace Go.Proofs.Ytlkoenpdmlbhlaa
open Go.RowKit

theorem still_of {P : Program} {f : FuncId} {args : Array Value} {w : World} {v : Value} (h : Calls P f args w fun e w' => e = .returned v ∧ w = w') : Calls P f args w fun e w' => e = .returned v ∧ w' = w :=
  h.mono fun _ _ ⟨h1, h2⟩ => ⟨h1, h2.symm⟩

theorem down_bits {x y r : Nat} (hx : x < 18446744073709551616) (hr : r ≤ 63) :
    bits .or .u64 ((x : Int) / 2 ^ r) (IntKind.u64.wrap (IntKind.u64.wrap ((y : Int) * 2) * 2 ^ (63 - r))) = (((x + 18446744073709551616 * y) / 2 ^ r % 18446744073709551616 : Nat) : Int) := by
  have e1 : (x : Int) / 2 ^ r = ((x / 2 ^ r : Nat) : Int) := by rw [Int.natCast_ediv, Int.natCast_pow]; rfl
  have e2 : IntKind.u64.wrap (IntKind.u64.wrap ((y : Int) * 2) * 2 ^ (63 - r)) = ((y * 2 % 18446744073709551616 * 2 ^ (63 - r) % 18446744073709551616 : Nat) : Int) := by
    rw [IntKind.wrap_u64, IntKind.wrap_u64]
    simp only [Int.natCast_emod, Int.natCast_mul, Int.natCast_pow]
    rfl
  rw [e1, e2, u64_or_nat _ _ (Nat.lt_of_le_of_lt (Nat.div_le_self _ _) hx) (Nat.mod_lt _ (by decide)), shr_or hx hr]

set_option maxRecDepth 100000 in
theorem shiftDown_no (a : Option Addr) (n c : Nat) (by_ : Int) (w : World) (hv : by_ < 0 ∨ 16777216 < by_) :
    Calls Try.prog 109 #[.slice a n c, .int .i64 by_] w (RetVal w (.tuple #[.slice none 0 0, .int .i64 3])) := by
  rcases hv with hv | hv
  · go_enter Try.func109, Try.ntmps109
    go_wp2
    go_ret2
    exact ⟨rfl, Below.refl _ _⟩
  · have hv' : ¬ by_ < 0 := by omega
    go_enter Try.func109, Try.ntmps109
    go_wp2
    go_ret2
    exact ⟨rfl, Below.refl _ _⟩

set_option maxHeartbeats 1000000 in
set_option maxRecDepth 100000 in
theorem shiftDown_any (a : Option Addr) (n c : Nat) (l : List Nat) (s : Int) (w : World) (h : NatAt w a n c l) (hs : n ≤ 549755813888) (h0 : 0 ≤ s) (h1 : s ≤ 16777216) :
    Calls Try.prog 109 #[.slice a n c, .int .i64 s] w (RetNatOk w (val l / 2 ^ s.toNat) 0) := by
  obtain ⟨q, r, rfl, hr⟩ : ∃ q r : Nat, s = 64 * q + r ∧ r ≤ 63 := ⟨(s / 64).toNat, (s % 64).toNat, by omega, by omega⟩
  have es : (64 * (q : Int) + r).toNat = 64 * q + r := by omega
  rw [es]
  have hq : (64 * (q : Int) + r) / 64 = q := by omega
  have hm : (64 * (q : Int) + r) % 64 = r := by omega
  have ES := Lib.hid es
  clear es
  have hn1 := h.le
  have hn2 := h.cle
  have hlen := h.len
  obtain ⟨m, hmm⟩ : ∃ m : Nat, max (0 : Int) ((n : Int) - q) = m ∧ m = n - q := ⟨n - q, by omega, rfl⟩
  obtain ⟨hmm, hme⟩ := hmm
  have HME := Lib.hid hme
  clear hme
  have HL := Lib.hid hlen
  clear hlen
  go_enter Try.func109, Try.ntmps109
  go_wp2_with fail
  refine (room_any _ _ (by omega) (by omega)).mono ?_
  rintro e w1 ⟨a1, c1, rfl, h3, hb1⟩
  rw [Int.toNat_natCast] at h3 ⊢
  have hcle := h3.cle
  have hle := h3.le
  by_cases hm0 : m = 0
  · subst hm0
    have hz := down_end (o := []) (q := q) (r := r) h.dig dig_nil (by rw [HL.out]; exact HME.out) (fun i hi => by simp at hi)
    have HZ := Lib.hid hz
    clear hz
    go_wp2_with fail
    refine wp_loop_rounds 1 ?_
    rw [rounds_succ]
    go_wp2_with fail
    refine (trimmed_any _ _ _ _ _ h3.toNatAt).mono ?_
    rintro e w' ⟨rfl, rfl⟩
    rw [show (digs (val (List.replicate 0 0))).length = 0 from rfl]
    go_wp2_with fail
    refine (clip_any _ _ _ _ (by omega) hcle).mono ?_
    rintro e w' ⟨rfl, rfl⟩
    go_wp2
    go_ret2
    refine ⟨_, _, _, rfl, ?_, hb1⟩
    rw [← HZ.out]
    exact h3.recap (Nat.le_refl _) (by omega)
  rcases h3.own with h3' | ⟨b, o, rfl, hB, hf⟩
  · omega
  clear hf
  have hqn : q + m ≤ n := by have := HME.out; omega
  rcases h.parts with h' | ⟨ba, oa, rfl, hlt0, hca⟩
  · omega
  go_wp2_with fail
  go_loopw [23] (fun i wr => ∃ (k : Nat) (os : List Nat), k ≤ m ∧ i = .int .i64 k ∧ OwnAt wr w.heap.size (some ⟨b, o, none⟩) m c1 os ∧ (∀ j, j < k → D os j = (val l / 2 ^ (64 * q + r)) / 18446744073709551616 ^ j % 18446744073709551616) ∧ Below w.heap.size w wr) (fun i _ => m - (intOf i).toNat)
  case atStart => exact ⟨0, _, Nat.zero_le _, rfl, h3, fun j hj => by omega, hb1⟩
  case round =>
    obtain ⟨k, os, hk, rfl, h4, h5, h6⟩ := hrel
    have H5 := Lib.hid h5
    clear h5
    by_cases hlt : k < m
    · have e1 := (h.later h6 (Nat.le_refl _)).drew
      have d1 := h.dig.at_ (q + k)
      have d2 := h.dig.at_ (q + k + 1)
      have hca' : wr.drew.cell? ⟨ba, oa + (q + k), none⟩ = some (.int .u64 ((D l (q + k) : Nat) : Int)) := (h6.cell (p := ⟨ba, oa + (q + k), none⟩) hlt0).trans (hca (q + k) (by omega))
      clear hca
      have hcell : ∃ v, wr.drew.cell? ⟨b, o + k, none⟩ = some v := by
        rcases h4.cell with h' | ⟨b', o', he, hc⟩
        · omega
        · cases he; exact ⟨_, hc k hlt⟩
      obtain ⟨v, hcell⟩ := hcell
      have hfro : wr.drew.frozen? ⟨b, o + k, none⟩ = false := by
        rcases h4.own with h' | ⟨b', o', he, _, hf⟩
        · omega
        · cases he; exact hf k hlt
      have h64 : 0 ≤ 64 * (q : Int) + r := by omega
      have hdg : Calls Try.prog 112 #[.slice (some ⟨ba, oa, none⟩) n c, .int .i64 (((q : Int) + k) + 1)] wr.drew fun e w' => e = .returned (.int .u64 ((D l (q + k + 1) : Nat) : Int)) ∧ w' = wr.drew := by
        refine still_of ((digit_any _ _ _ l _ _ e1 (by omega)).mono ?_)
        rw [show ((q : Int) + k + 1).toNat = q + k + 1 by omega]
        exact fun e w' h => h
      have HD := Lib.hid hdg
      clear hdg
      go_wp2_with fail
      have v1 : IntKind.i64.wrap ((64 * (q : Int) + r).tdiv 64) = q := by rw [Int.tdiv_eq_ediv_of_nonneg h64, hq]; exact IntWalk.i64_in _ (by omega)
      have v2 : IntKind.i64.wrap ((q : Int) + k) = q + k := IntWalk.i64_in _ (by omega)
      have v3 : IntKind.i64.wrap ((q : Int) + k + 1) = q + k + 1 := IntWalk.i64_in _ (by omega)
      have v4 : (64 * (q : Int) + r).tmod 64 = r := by rw [Int.tmod_eq_emod_of_nonneg h64, hm]
      have v5 : IntKind.i64.wrap (63 - (r : Int)) = 63 - r := IntWalk.i64_in _ (by omega)
      have v6 : IntKind.i64.wrap (r : Int) = r := IntWalk.i64_in _ (by omega)
      have v7 : ((q : Int) + k).toNat = q + k := by omega
      have v8 : 0 ≤ (q : Int) + k := by omega
      have v9 : (q : Int) + k < n := by omega
      have v10 : 0 ≤ 63 - (r : Int) := by omega
      have v11 : 63 - (r : Int) ≤ 64 := by omega
      have v12 : (63 - (r : Int)).toNat = 63 - r := by omega
      go_still_tail 26, (by kernel_rfl)
      still_call HD.out
      repeat still_step
      refine wpStill_nil ?_
      change wpList _ _ _ _ _ wr.drew
      clear v1 v2 v3 v4 v5 v6 v7 v8 v9 v10 v11 v12
      go_wp2
      go_roundw
      case rel =>
        rw [down_bits d1 hr]
        have h7 := h4.drew.set hlt (Nat.mod_lt ((D l (q + k) + 18446744073709551616 * D l (q + k + 1)) / 2 ^ r) (by decide))
        refine ⟨k + 1, _, by omega, by go_num, h7, fun j hj => ?_, h6.drew.setCell (p := ⟨b, o + k, none⟩) hB _⟩
        by_cases hjk : j = k
        · subst hjk
          rw [D_set_same (by rw [h4.len]; exact hlt)]
          exact down_digit h.dig hr
        · rw [D_set_other (fun e => hjk e.symm)]
          exact H5.out j (by omega)
      case measure => simp [intOf]; omega
    · obtain rfl : k = m := by omega
      have h7 := down_end (q := q) (r := r) h.dig h4.dig (by rw [h4.len, HL.out]; exact HME.out) (fun i hi => H5.out i (by rw [h4.len] at hi; exact hi))
      have h8 := h4.digs
      rw [h7] at h8
      have h9 := h8.le
      go_wp2_with fail
      refine (trimmed_any _ _ _ _ _ h4.toNatAt).mono ?_
      rintro e w' ⟨rfl, rfl⟩
      rw [h7]
      go_wp2_with fail
      refine (clip_any _ _ _ _ h9 hcle).mono ?_
      rintro e w' ⟨rfl, rfl⟩
      go_wp2
      go_ret2
      exact ⟨_, _, _, rfl, h8.recap (Nat.le_refl _) h9, h6⟩

end Go.Proofs.Ytlkoenpdmlbhlaa

/- limbs, eighth part: Up. -/
set_option linter.unusedVariables false
set_option linter.unusedSimpArgs false
namespace Go.Proofs.Ytlkoenpdmlbhlaa
open Go.RowKit

theorem up_bits {h x r : Nat} (hr : r ≤ 63) (hh : h < 2 ^ r) :
    bits .or .u64 (h : Int) (IntKind.u64.wrap ((x : Int) * 2 ^ r)) = ((h + x * 2 ^ r % 18446744073709551616 : Nat) : Int) := by
  have e2 : IntKind.u64.wrap ((x : Int) * 2 ^ r) = ((x * 2 ^ r % 18446744073709551616 : Nat) : Int) := by
    rw [IntKind.wrap_u64]
    simp only [Int.natCast_emod, Int.natCast_mul, Int.natCast_pow]
    rfl
  have h1 : h < 18446744073709551616 := Nat.lt_of_lt_of_le hh (Nat.le_trans (Nat.pow_le_pow_right (by decide) hr) (by decide))
  rw [e2, u64_or_nat _ _ h1 (Nat.mod_lt _ (by decide)), low_or hr hh]

/-- A call that tells a new number without spare room, and that all went well. -/
def RetClip (w : World) (N : Nat) (e : Ending) (w' : World) : Prop :=
  ∃ a n, e = .returned (.tuple #[.slice a n n, .int .i64 0]) ∧ OwnAt w' w.heap.size a n n (digs N) ∧ Below w.heap.size w w'

set_option maxRecDepth 100000 in
theorem shiftUp_no (a : Option Addr) (n c : Nat) (by_ : Int) (w : World) (hv : by_ < 0 ∨ 16777216 < by_) :
    Calls Try.prog 107 #[.slice a n c, .int .i64 by_] w (RetVal w (.tuple #[.slice none 0 0, .int .i64 3])) := by
  rcases hv with hv | hv
  · go_enter Try.func107, Try.ntmps107
    go_wp2_with fail
    go_ret2
    exact ⟨rfl, Below.refl _ _⟩
  · have hv' : ¬ by_ < 0 := by omega
    go_enter Try.func107, Try.ntmps107
    go_wp2_with fail
    go_ret2
    exact ⟨rfl, Below.refl _ _⟩

set_option maxHeartbeats 1000000 in
set_option maxRecDepth 100000 in
theorem shiftUp_clip (a : Option Addr) (n c : Nat) (l : List Nat) (s : Int) (w : World) (h : NatAt w a n c l) (hs : n ≤ 549755813888) (h0 : 0 ≤ s) (h1 : s ≤ 16777216) :
    Calls Try.prog 107 #[.slice a n c, .int .i64 s] w (RetClip w (val l * 2 ^ s.toNat)) := by
  obtain ⟨q, r, rfl, hr⟩ : ∃ q r : Nat, s = 64 * q + r ∧ r ≤ 63 := ⟨(s / 64).toNat, (s % 64).toNat, by omega, by omega⟩
  have es : (64 * (q : Int) + r).toNat = 64 * q + r := by omega
  rw [es]
  have hq : (64 * (q : Int) + r) / 64 = q := by omega
  have hm : (64 * (q : Int) + r) % 64 = r := by omega
  have ES := Lib.hid es
  clear es
  have hL := h.digs
  have hLv := val_digs (val l)
  have hLn := digs_length_val h.dig
  rw [h.len] at hLn
  have hzz : val l = 0 ↔ (digs (val l)).length = 0 := digs_len0.symm
  obtain ⟨L, hLe⟩ : ∃ L, L = digs (val l) := ⟨_, rfl⟩
  obtain ⟨m, hme⟩ : ∃ m, m = L.length := ⟨_, rfl⟩
  rw [← hLe] at hL hLv hLn hzz
  rw [← hme] at hL hLn hzz
  have htr : Calls Try.prog 100 #[.slice a n c] w fun e w' => e = .returned (.slice a m c) ∧ w = w' := by
    have := trimmed_any a n c l w h
    rw [← hLe, ← hme] at this
    exact this
  have HLV := Lib.hid hLv
  have HME := Lib.hid hme
  have HTR := Lib.hid htr
  clear hLv hme hLe htr
  have hn1 := hL.le
  have hn2 := hL.cle
  by_cases hm0 : m = 0
  · have hv0 := hzz.2 hm0
    have HV := Lib.hid hv0
    clear hzz hv0
    subst hm0
    go_enter Try.func107, Try.ntmps107
    go_wp2_with fail
    refine HTR.out.mono ?_
    rintro e w1 ⟨rfl, rfl⟩
    go_wp2
    go_ret2
    exact ⟨_, _, rfl, by rw [HV.out, Nat.zero_mul]; exact OwnAt.nil _ _, Below.refl _ _⟩
  clear hzz
  have hm1 : ((m : Int) == 0) = false := by simp only [beq_eq_false_iff_ne]; omega
  go_enter Try.func107, Try.ntmps107
  go_wp2_with fail
  refine HTR.out.mono ?_
  rintro e w1 ⟨rfl, rfl⟩
  go_wp2_with fail
  refine (room_any _ _ (by omega) (by omega)).mono ?_
  rintro e w1 ⟨a1, c1, rfl, h3, hb1⟩
  have hM : ((q : Int) + m + 1).toNat = q + m + 1 := by omega
  rw [hM] at h3 ⊢
  clear hM
  have hcle := h3.cle
  have hle := h3.le
  rcases h3.own with h3' | ⟨b, o, rfl, hB, hf⟩
  · omega
  clear hf
  rcases hL.parts with h' | ⟨ba, oa, rfl, hlt0, hca⟩
  · omega
  go_wp2_with fail
  go_loopw [31] (fun i wr => ∃ (k : Nat) (os : List Nat), k ≤ m ∧ i = .int .i64 k ∧ OwnAt wr w.heap.size (some ⟨b, o, none⟩) (q + m + 1) c1 os ∧ D os (q + k) < 2 ^ r ∧ lo os (q + k + 1) = lo L k * 2 ^ (64 * q + r) ∧ Below w.heap.size w wr) (fun i _ => m - (intOf i).toNat)
  case atStart => exact ⟨0, _, Nat.zero_le _, rfl, h3, by rw [D_replicate]; exact Nat.pow_pos (by decide), by rw [lo_replicate, lo_zero, Nat.zero_mul], hb1⟩
  case round =>
    obtain ⟨k, os, hk, rfl, h4, h5, h5', h6⟩ := hrel
    have H5 := Lib.hid h5
    have H5' := Lib.hid h5'
    clear h5 h5'
    by_cases hlt : k < m
    · have hca' : wr.cell? ⟨ba, oa + k, none⟩ = some (.int .u64 ((D L k : Nat) : Int)) := (h6.cell (p := ⟨ba, oa + k, none⟩) hlt0).trans (hca k (by omega))
      clear hca
      have d1 := hL.dig.at_ k
      have hcells : wr.cell? ⟨b, o + (q + k), none⟩ = some (.int .u64 ((D os (q + k) : Nat) : Int)) ∧ wr.cell? ⟨b, o + (q + k + 1), none⟩ = some (.int .u64 ((D os (q + k + 1) : Nat) : Int)) := by
        rcases h4.cell with h' | ⟨b', o', he, hc⟩
        · omega
        · cases he; exact ⟨hc _ (by omega), hc _ (by omega)⟩
      obtain ⟨hc1, hc2⟩ := hcells
      have hfros : wr.frozen? ⟨b, o + (q + k), none⟩ = false ∧ wr.frozen? ⟨b, o + (q + k + 1), none⟩ = false := by
        rcases h4.own with h' | ⟨b', o', he, _, hf⟩
        · omega
        · cases he; exact ⟨hf _ (by omega), hf _ (by omega)⟩
      obtain ⟨hf1, hf2⟩ := hfros
      have h64 : 0 ≤ 64 * (q : Int) + r := by omega
      go_wp2_with fail
      have v4 : (64 * (q : Int) + r).tmod 64 = r := by rw [Int.tmod_eq_emod_of_nonneg h64, hm]
      have v5 : IntKind.i64.wrap (63 - (r : Int)) = 63 - r := IntWalk.i64_in _ (by omega)
      have v6 : IntKind.i64.wrap (r : Int) = r := IntWalk.i64_in _ (by omega)
      have v10 : 0 ≤ 63 - (r : Int) := by omega
      have v11 : 63 - (r : Int) ≤ 64 := by omega
      have v12 : (63 - (r : Int)).toNat = 63 - r := by omega
      go_quiet (fail)
      clear v4 v5 v6 v10 v11 v12
      go_wp2_with fail
      have hH := H5.out
      have eh : (D L k : Int) / 2 / 2 ^ (63 - r) = ((D L k / 2 / 2 ^ (63 - r) : Nat) : Int) := by
        rw [Int.natCast_ediv, Int.natCast_ediv, Int.natCast_pow]; rfl
      rw [up_bits hr hH, eh]
      have h7 := (h4.draws nq).set (k := q + k) (by omega) (low_or_lt (x := D L k) hr hH)
      have hhl := high_lt d1 hr
      have h8 := h7.set (k := q + k + 1) (d := D L k / 2 / 2 ^ (63 - r)) (by omega) (Nat.lt_of_le_of_lt (Nat.div_le_self _ _) (Nat.lt_of_le_of_lt (Nat.div_le_self _ _) d1))
      have h9 := up_step hr d1 (by rw [h4.len]; omega) hH H5'.out
      refine ⟨⟨k + 1, _, by omega, by go_num, h8, ?_, h9, (((Below.draws h6 nq).setCell (p := ⟨b, o + (q + k), none⟩) hB _).setCell (p := ⟨b, o + (q + k + 1), none⟩) hB _)⟩, by simp [intOf]; omega⟩
      rw [show q + (k + 1) = q + k + 1 by omega, D_set_same (by rw [List.length_set, h4.len]; omega)]
      exact hhl
    · obtain rfl : k = m := by omega
      have h7 := up_end (q := q) (r := r) (n := k) (l := L) (by rw [HME.out]; exact Nat.le_refl _) (by rw [h4.len]; exact Nat.le_refl _) H5'.out
      rw [HLV.out] at h7
      have h8 := h4.digs
      rw [h7] at h8
      have h9 := h8.le
      go_wp2_with fail
      refine (trimmed_any _ _ _ _ _ h4.toNatAt).mono ?_
      rintro e w' ⟨rfl, rfl⟩
      rw [h7]
      go_wp2_with fail
      refine (clip_any _ _ _ _ h9 hcle).mono ?_
      rintro e w' ⟨rfl, rfl⟩
      go_wp2
      go_ret2
      exact ⟨_, _, rfl, h8.recap (Nat.le_refl _) h9, h6⟩

theorem shiftUp_any (a : Option Addr) (n c : Nat) (l : List Nat) (s : Int) (w : World) (h : NatAt w a n c l) (hs : n ≤ 549755813888) (h0 : 0 ≤ s) (h1 : s ≤ 16777216) :
    Calls Try.prog 107 #[.slice a n c, .int .i64 s] w (RetNatOk w (val l * 2 ^ s.toNat) 0) :=
  (shiftUp_clip a n c l s w h hs h0 h1).mono fun e w' ⟨a', n', he, ho, hb⟩ => ⟨a', n', n', he, ho, hb⟩

end Go.Proofs.Ytlkoenpdmlbhlaa

/- append of noughts: 'append(s, make([]T, n)...)'. -/
set_option linter.unusedVariables false
set_option linter.unusedSimpArgs false
namespace Go.Proofs.Ytlkoenpdmlbhlaa
open Go.RowKit

theorem run_append_zeros {P : Program} (w : World) (t tn ty e : TypeId) (i : TypeInfo) (z : Value) (k kn : IntKind) (ht : P.underlying t = some (.slice e)) (htn : P.underlying tn = some (.int kn)) (hi : P.info? e = some i) (hz : i.zero = some z)
    (hsize : i.size = 1) (hby : i.bytes = 8) (b : Addr) (m cap : Nat) (olds : List Value) (hlo : olds.length = m) (holds : ∀ j u, olds[j]? = some u → w.cell? (b.add j) = some u) (n : Nat) (h0 : 0 < n) (hg : cap < m + n) (h63 : m + n ≤ 1099511627776) :
    (Builtin.append_ #[t, tn] ty #[.slice (some b) m cap, .int k n]).run P w =
      .ok (.slice (some ⟨w.heap.size, 0, none⟩) (m + n) (grownCap w (m + n) cap e)) (w.drew.alloc (.cells (olds.toArray ++ Builtin.zeroCells z.cells n ++ Builtin.zeroCells z.cells (grownCap w (m + n) cap e - (m + n))) e)) := by
  have hn : n ≠ 0 := by omega
  have hw : IntKind.i64.wrap (n : Int) = n := by rw [IntKind.wrap_i64]; omega
  have h63' : ¬ (9223372036854775807 < (m : Int) + (n : Int)) := by omega
  have hfit := growslice_fits (bytes := i.bytes) hg (by rw [hby]; omega)
  have h48i : ¬ (281474976710656 < (n : Int) * (i.bytes : Int)) := by
    rw [hby]; omega
  have hneg : ¬ ((n : Int) < 0) := by omega
  have hns : ¬ (n * i.size = 0) := Nat.mul_ne_zero hn (by omega)
  have hroom : ¬ (m + n ≤ cap) := by omega
  have hfc := run_firstCells_some (P := P) w.drew i.size m b m cap olds (by rw [hsize]; omega) holds
  simp [Builtin.append_, run_underlying ht, run_underlying htn, sizeOf, typeInfo, zeroValue, hi, hz, asInt, asIntOf, hw, hn, hneg, hns, h63', h48i, hroom, Question.forced, hfc, newRow, grownCap, hfit]
  intro h
  omega

theorem run_append_none {P : Program} (w : World) (t tn ty e : TypeId) (i : TypeInfo) (k kn : IntKind) (ht : P.underlying t = some (.slice e)) (htn : P.underlying tn = some (.int kn)) (hi : P.info? e = some i)
    (b : Addr) (m cap : Nat) (hg : m ≤ cap) :
    (Builtin.append_ #[t, tn] ty #[.slice (some b) m cap, .int k ((0 : Nat) : Int)]).run P w = .ok (.slice (some b) m cap) w := by
  have hw : IntKind.i64.wrap (0 : Int) = 0 := by rw [IntKind.wrap_i64]; omega
  simp [Builtin.append_, run_underlying ht, run_underlying htn, sizeOf, typeInfo, hi, asInt, asIntOf, hw, hg, storeCells]

theorem appended_own {E : Nat} {w : World} {m n cap : Nat} {l : List Nat} (hl : l.length = m) (hd : Dig l) (h63 : m + n ≤ 1099511627776) :
    OwnAt (w.drew.alloc (.cells ((dv l).toArray ++ Builtin.zeroCells (Value.int .u64 0).cells n ++ Builtin.zeroCells (Value.int .u64 0).cells (grownCap w (m + n) cap E - (m + n))) E)) w.heap.size (some ⟨w.heap.size, 0, none⟩) (m + n) (grownCap w (m + n) cap E) (l ++ List.replicate n 0) := by
  have hge := grownCap_ge w (m + n) cap E
  have hcm : grownCap w (m + n) cap E ≤ maxLen := grownCap_le_maxLen w (m + n) cap E (by simp only [maxLen]; omega)
  have hz : (Builtin.zeroCells (Value.int .u64 0).cells n).toList = dv (List.replicate n 0) := by
    rw [dv_replicate]
    apply List.ext_getElem
    · simp [Builtin.zeroCells, Value.cells]
    · intro i h1 h2
      simp [Builtin.zeroCells, Value.cells, Nat.mod_one]
  have hlen : (dv (l ++ List.replicate n 0)).length = m + n := by rw [dv_length, List.length_append, List.length_replicate, hl]
  have hrow : (w.drew.alloc (.cells ((dv l).toArray ++ Builtin.zeroCells (Value.int .u64 0).cells n ++ Builtin.zeroCells (Value.int .u64 0).cells (grownCap w (m + n) cap E - (m + n))) E)).ownsRow w.heap.size E 1 (.slice (some ⟨w.heap.size, 0, none⟩) (m + n) (grownCap w (m + n) cap E)) (m + n) (dv (l ++ List.replicate n 0)) := by
    refine ⟨by rw [hlen, Nat.mul_one], .inr ⟨w.heap.size, _, _, rfl, Nat.le_refl _, heap_alloc_new w.drew _, hge, hcm, ?_, ?_⟩⟩
    · simp [Builtin.zeroCells, Value.cells, dv_length, hl]
      omega
    · simp only [Array.toList_append, hz]
      rw [← dv_append, hlen.symm, Nat.mul_one]
      exact List.take_left
  obtain ⟨a, c, he, ho⟩ := OwnAt.ofRow hrow (dig_append.2 ⟨hd, dig_replicate _⟩)
  cases he
  exact ho

end Go.Proofs.Ytlkoenpdmlbhlaa
