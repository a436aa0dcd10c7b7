import Derived.Test.YtoecndogaklngaaProg
import Derived.Lib.AppendZeros
import Derived.Lib.SliceRun
import Derived.BigQuiet
import Derived.Deep.QuietTactic
import Derived.Deep.AppendSrc
import Derived.WalkSpells
import Derived.Test.YtoecndogaklngaaS0Do
import Derived.Test.YtoecndogaklngaaNumDo
set_option linter.unusedVariables false
set_option linter.unusedSimpArgs false
namespace Go.Proofs.Ytoecndogaklngaa
open Go.RowKit
theorem add64_call (x y c : Nat) (hx : x < 18446744073709551616) (hy : y < 18446744073709551616) (hc : c ≤ 1) :
 ∃ s k : Nat, s < 18446744073709551616 ∧ k ≤ 1 ∧ s + 18446744073709551616 * k = x + y + c ∧
  ∀ w, (callFunc 33 #[.int .u64 ((x : Nat) : Int), .int .u64 ((y : Nat) : Int), .int .u64 ((c : Nat) : Int)]).run Try.prog w = .ok (.value (.tuple #[.int .u64 ((s : Nat) : Int), .int .u64 ((k : Nat) : Int)])) w := by
 refine ⟨(x + y + c) % 18446744073709551616, (x + y + c) / 18446744073709551616, by omega, by omega, by omega, fun w => ?_⟩
 rw [run_callFunc_extern Try.func33 (by kernel_rfl) (by kernel_rfl) (by kernel_rfl) (e := add64Entry) (by kernel_rfl), run_add64 x y c (by omega) (by omega) (by omega) (by omega)]
 simp only [Result.andThen]
 congr 5 <;> omega
set_option maxRecDepth 100000 in
theorem digit_any (a : Option Addr) (n c : Nat) (l : List Nat) (i : Int) (w : World) (h : NatAt w a n c l) (h0 : 0 ≤ i) :
 Calls Try.prog 34 #[.slice a n c, .int .i64 i] w fun e w' => e = .returned (.int .u64 ((D l i.toNat : Nat) : Int)) ∧ w = w' := by
 obtain ⟨k, rfl⟩ := Int.eq_ofNat_of_zero_le h0
 rw [Int.toNat_natCast]
 by_cases hk : k < n
 · rcases h.parts with h1 | ⟨b, o, rfl, hlt, hc⟩
   · omega
   have hc' := hc k hk
   have hl := h.cle
   have hl' := h.le
   clear hc
   go_enter Try.func34, Try.ntmps34
   go_wp2
   go_ret
   exact ⟨rfl, rfl⟩
 · have hd : D l k = 0 := D_out (by rw [h.len]; omega)
   have H := Lib.hid hd
   clear hd
   go_enter Try.func34, Try.ntmps34
   go_wp2
   go_ret
   exact ⟨by rw [H.out]; rfl, rfl⟩
set_option maxRecDepth 100000 in
theorem trimmed_any (a : Option Addr) (n c : Nat) (l : List Nat) (w : World) (h : NatAt w a n c l) :
 Calls Try.prog 36 #[.slice a n c] w fun e w' => e = .returned (.slice a (digs (val l)).length c) ∧ w = w' := by
 have hl := h.cle
 have hl' := h.le
 go_enter Try.func36, Try.ntmps36
 go_wp2
 go_loop [0] (fun v => ∃ m : Nat, m ≤ n ∧ hi l m = 0 ∧ v = .slice a m c) (fun v => match v with | .slice _ m _ => m | _ => 0)
 case atStart => exact ⟨n, Nat.le_refl _, hi_all (by rw [h.len]; omega), rfl⟩
 case round =>
  obtain ⟨m, hm, h0, rfl⟩ := hrel
  have H0 := Lib.hid h0
  clear h0
  by_cases hm0 : 0 < m
  · rcases h.parts with h1 | ⟨b, o, rfl, hlt, hc⟩
    · omega
    have hc' := hc (m - 1) (by omega)
    clear hc
    by_cases hz : D l (m - 1) = 0
    · have hz' : (((D l (m - 1) : Nat) : Int) == 0) = true := by rw [hz]; rfl
      have HZ := Lib.hid hz
      clear hz
      go_wp2
      go_round
      case rel => exact ⟨m - 1, by omega, by rw [hi_step, HZ.out, show m - 1 + 1 = m by omega, H0.out], rfl⟩
      case measure => simp; omega
    · have hz' : (((D l (m - 1) : Nat) : Int) == 0) = false := by simpa using hz
      have HZ := Lib.hid hz
      clear hz
      go_wp2
      go_ret
      exact ⟨ret_len (take_digs_length h.dig (by rw [h.len]; exact hm) H0.out (.inr HZ.out)), rfl⟩
  · have hmz : m = 0 := by omega
    subst hmz
    clear hm0
    go_wp2
    go_ret
    exact ⟨ret_len (take_digs_length h.dig (Nat.zero_le _) H0.out (.inl rfl)), rfl⟩
set_option maxRecDepth 100000 in
theorem clip_any (a : Option Addr) (n c : Nat) (w : World) (h : n ≤ c) (hc : c ≤ 9223372036854775807) :
 Calls Try.prog 35 #[.slice a n c] w fun e w' => e = .returned (.slice a n n) ∧ w = w' := by
 go_enter Try.func35, Try.ntmps35
 go_wp2
 go_ret
 exact ⟨rfl, rfl⟩
theorem info39 : (Try.prog.info? 39).map (fun i => (i.zero, i.size, i.bytes)) = some (some (.int .u64 0), 1, 8) := by kernel_rfl
theorem copied {E : Nat} (w : World) (a' : Option Addr) (n c' : Nat) (l : List Nat) (w1 : World) (o : Obj) (hd : Dig l) (hown : w1.ownsRow w.heap.size E 1 (.slice a' (0 + n) c') (0 + n) ([] ++ dv l))
 (hgrow : (w.alloc o).grownBy w1 (Value.slice (some ⟨w.heap.size, 0, none⟩) 0 0).ownBlock) {e : Ending} (he : e = .returned (.slice a' n c')) :
 ∃ a' n' c', e = .returned (.slice a' n' c') ∧ OwnAt w1 w.heap.size a' n' c' l ∧ Below w.heap.size w w1 := by
 obtain ⟨a2, c2, he2, h2⟩ := OwnAt.ofRow (by simpa using hown) hd
 cases he2
 refine ⟨_, _, _, he, by simpa using h2, ?_⟩
 refine ((Below.refl _ _).alloc (Nat.le_refl _) o).grown hgrow (by simp) (fun k hk => ?_)
 simp [Value.ownBlock] at hk
 omega
set_option maxRecDepth 100000 in
theorem clone_any (a : Option Addr) (n c : Nat) (l : List Nat) (w : World) (h : NatAt w a n c l) (hs : n ≤ 1099511627776) :
 Calls Try.prog 41 #[.slice a n c] w fun e w' => ∃ a' n' c', e = .returned (.slice a' n' c') ∧ OwnAt w' w.heap.size a' n' c' l ∧ Below w.heap.size w w' := by
 obtain ⟨i0, hi, hz0, hz1, hz2⟩ := info_parts info39
 have hq := fun w => Lib.run_eql_slice_nil (P := Try.prog) w 23 39 a n c 0 0 Try.underlying23
 cases a with
 | none =>
   have hc := h.nilc rfl
   have hn : n = 0 := by have := h.le; omega
   subst hc
   subst hn
   have hl : l = [] := List.eq_nil_of_length_eq_zero h.len
   subst hl
   go_enter Try.func41, Try.ntmps41
   go_wp2
   go_ret
   exact ⟨_, _, _, rfl, OwnAt.nil _ _, Below.refl _ _⟩
 | some ad =>
   go_enter Try.func41, Try.ntmps41
   go_wp2_with (at_builtin; refine wpList_append_nat rfl _ _ 23 rfl w.heap.size 39 i0 Try.underlying23 hi hz0 hz1 hz2 _ 0 [] rfl (World.ownsRow_lit w #[] 0 (Nat.le_refl _) (by simp) rfl) _ n c l rfl (h.alloc _) (by omega) (by simp) ?_; intro a' c' w1 hown hgrow)
   go_ret
   exact copied w a' n c' l w1 _ h.dig hown hgrow rfl
theorem zero39 (w : World) : (zeroValue 39).run Try.prog w = .ok (.int .u64 0) w := by kernel_rfl
theorem zeroed {E : Nat} (w : World) (n cap : Nat) (h : n ≤ cap) (hc : cap ≤ 9223372036854775807) :
 OwnAt (w.drew.alloc (.cells (Builtin.zeroCells (Value.int IntKind.u64 0).cells n ++ Builtin.zeroCells (Value.int IntKind.u64 0).cells (cap - n)) E)) w.heap.size (some ⟨w.heap.size, 0, none⟩) n cap (List.replicate n 0) := by
 refine ⟨⟨by simp, h, hc, dig_replicate n, .inr ⟨_, _, rfl, fun i hi => ?_⟩, fun e => by cases e⟩, .inr ⟨_, _, rfl, Nat.le_refl _, fun i hi => ?_⟩⟩
 · rw [show w.heap.size = w.drew.heap.size from rfl, World.cell?_alloc_at _ _ _ _ rfl, Nat.zero_add, Array.getElem?_append]
   have h1 : (Builtin.zeroCells (Value.int IntKind.u64 0).cells n).size = n := by simp [Builtin.zeroCells, Value.cells]
   rw [if_pos (by omega)]
   simp [Builtin.zeroCells, Value.cells, D, hi, List.getD_eq_getElem?_getD, Nat.mod_one]
 · exact World.frozen?_alloc_at _ _ _ _ rfl
set_option maxRecDepth 100000 in
theorem grow_nil (n : Nat) (w : World) (hs : n ≤ 1099511627776) :
 Calls Try.prog 49 #[.slice none 0 0, .int .i64 n] w fun e w' => ∃ a' c', e = .returned (.slice a' 0 c') ∧ OwnAt w' w.heap.size a' n c' (List.replicate n 0) ∧ Below w.heap.size w w' := by
 obtain ⟨i0, hi, hz0, hz1, hz2⟩ := info_parts info39
 have hu := fun (w : World) (hn : 0 < n) => Lib.run_append_nil_zeros (P := Try.prog) w 23 3 23 39 i0 (.int .u64 0) .i64 .i64 Try.underlying23 Try.underlying3 hi hz0 n hn (by omega) (by omega) (by rw [hz2]; omega)
 by_cases hn : 0 < n
 · have hcap := grownCap_le_maxLen w n 0 39 (by simp only [maxLen]; omega)
   have hcap' := grownCap_ge w n 0 39
   simp only [maxLen] at hcap
   go_enter Try.func49, Try.ntmps49
   go_wp2_with (at_builtin; refine Lib.wpList_append_run _ rfl _ _ 23 3 rfl _ _ rfl rfl _ _ (hu _ hn) ?_; clear hu)
   go_ret
   exact ⟨_, _, rfl, zeroed w n _ hcap' hcap, (Below.refl _ _).drew.alloc (Nat.le_refl _) _⟩
 · obtain rfl : n = 0 := by omega
   go_enter Try.func49, Try.ntmps49
   go_wp2
   go_ret
   exact ⟨_, _, rfl, OwnAt.nil _ _, Below.refl _ _⟩
theorem clear_nought (w : World) (a : Option Addr) (c : Nat) (ty : TypeId) : (Builtin.clear_ #[23] ty #[.slice a 0 c]).run Try.prog w = .ok (.tuple #[]) w := by
 cases a <;> simp [Builtin.clear_, run_underlying Try.underlying23, zero39, Builtin.zeroCells, storeCells]
set_option maxRecDepth 100000 in
theorem room_any (n : Int) (w : World) (h0 : 0 ≤ n) (hs : n ≤ 1099511627776) :
 Calls Try.prog 32 #[.int .i64 n] w fun e w' => ∃ a' c', e = .returned (.slice a' n.toNat c') ∧ OwnAt w' w.heap.size a' n.toNat c' (List.replicate n.toNat 0) ∧ Below w.heap.size w w' := by
 obtain ⟨n, rfl⟩ := Int.eq_ofNat_of_zero_le h0
 rw [Int.toNat_natCast]
 go_enter Try.func32, Try.ntmps32
 go_wp2_with fail
 refine (grow_nil n _ (by omega)).mono ?_
 rintro e w1 ⟨a1, c1, rfl, h1, hb1⟩
 have hle := h1.le
 have hcle := h1.cle
 by_cases hn : n = 0
 · subst hn
   have hcl := fun ty => clear_nought w1 a1 c1 ty
   cases a1 with
   | none =>
     go_wp2
     go_ret
     exact ⟨_, _, rfl, h1, hb1⟩
   | some ad =>
     go_wp2
     go_ret
     exact ⟨_, _, rfl, h1, hb1⟩
 · rcases h1.own with h2 | ⟨b, o, rfl, hB, hf⟩
   · omega
   have hcl := fun ty => Lib.run_clear_slice (P := Try.prog) w1 23 39 ty (.int .u64 0) Try.underlying23 zero39 rfl rfl b o n c1 (by omega) (fun j hj => by
    rcases h1.cell with h2 | ⟨b', o', he, hc⟩
    · omega
    · cases he; rw [hc j hj]; rfl) hf
   rw [← dv_replicate] at hcl
   have h3 := h1.setAll (l' := List.replicate n 0) (by simp) (dig_replicate n)
   have hb2 := hb1.trans (below_setCells w.heap.size b hB (dv (List.replicate n 0)) o w1)
   go_wp2
   go_ret
   exact ⟨_, _, rfl, h3, hb2⟩
end Go.Proofs.Ytoecndogaklngaa
