import Derived.RangeFuncNested
import Derived.RangeFuncBound
import Derived.RangeFuncCalls
import Derived.RangeFuncLeaves
import Derived.Shelf.Abstract
import Derived.Shelf.RegionOpen
import Derived.OwnWalkIn
import Derived.TacticsInMore
import Derived.LoopNIn
import Derived.LoopIn
import Derived.Lib.MinMax
import Derived.Test.YtoecndogaklngaaGreatDoorS0Df
import Derived.Test.YtoecndogaklngaaGreatDoorLimbs1Df
set_option linter.unusedVariables false
set_option linter.unusedSimpArgs false
namespace Go.Proofs.YtoecndogaklngaaGreatDoor
open Go.RowKit Go.Shelf
attribute [local go_sem] Oper.semAt_some
def pairV (p : Nat × Nat) : Array Value := #[.int .u64 ((p.1 : Nat) : Int), .int .u64 ((p.2 : Nat) : Int)]
set_option maxRecDepth 100000 in
set_option maxHeartbeats 2000000 in
theorem down1_in (n : Nat) (hn : 1 ≤ n) (lp B1 B2 n₀ : Nat) (a : Option Addr) (m c : Nat) (l : List Nat) (a2 : Option Addr) (m2 c2 : Nat) (l2 : List Nat) (M : Nat) (hM : max (m : Int) (m2 : Int) = M) (J Jx : List (Nat × Nat) → World → Prop)
 (hY : ∀ pre x W, J pre W → pre.length < M → YieldAt Fence.wide (n - 1) Tryz.prog lp (pairV x) W fun e W' =>
   (e = .returned (.bool true) ∧ J (pre ++ [x]) W' ∧ Below n₀ W W') ∨ (e = .returned (.bool false) ∧ Jx (pre ++ [x]) W'))
 (hJd : ∀ pre W, J pre W → J pre W.drew)
 (W : World) (h1 : W.cell? ⟨B1, 0, none⟩ = some (.slice a m c)) (h2 : W.cell? ⟨B2, 0, none⟩ = some (.slice a2 m2 c2)) (hB1 : B1 < n₀) (hB2 : B2 < n₀) (ha : m = 0 ∨ ∀ x, a = some x → x.block < n₀) (ha2 : m2 = 0 ∨ ∀ x, a2 = some x → x.block < n₀)
 (hl : NatAt W a m c l) (hl2 : NatAt W a2 m2 c2 l2) (h0 : J [] W) :
 CallsIn Fence.wide n Tryz.prog 83 #[.func (.yield lp) #[] #[], .pointer (some ⟨B1, 0, none⟩), .pointer (some ⟨B2, 0, none⟩)] W fun e W' => (∃ v, e = .returned v) ∧
  ((∃ ys, ys = upto l l2 M M ∧ J ys W') ∨ (∃ pre, (∃ k, k ≤ M ∧ pre = upto l l2 M k) ∧ Jx pre W')) := by
 have hm := hl.cle
 have hm' := hl.le
 have hm2 := hl2.cle
 have hm2' := hl2.le
 have hMb : M ≤ 9223372036854775807 := by omega
 have HM := Lib.hid hM
 have hgo : (max (m : Int) (m2 : Int)) = M := hM
 refine callsIn_of_wp Tryz.func83 rfl trivial ?_ rfl
 simp only [Tryz.ntmps83, List.size_toArray, List.length_cons, List.length_nil, Nat.reduceAdd, Nat.reduceSub, Array.replicate_succ, Array.replicate_zero, List.push_toArray, List.append_toArray, List.nil_append, List.cons_append]
 gi_wp2
 gi_loopw [4] (fun i wr => ∃ k : Nat, k ≤ M ∧ i = .int .i64 ((M : Int) - 1 - k) ∧ J (upto l l2 M k) wr ∧ Below n₀ W wr)
  (fun i _ => (intOf i + 1).toNat)
 case atStart => exact ⟨0, Nat.zero_le _, by go_num, h0, Below.refl _ _⟩
 case round =>
  obtain ⟨k, hk, rfl, hJs, hnx⟩ := hrel
  have hc1 := (hnx.cell (p := ⟨B1, 0, none⟩) hB1).trans h1
  have hc2 := (hnx.cell (p := ⟨B2, 0, none⟩) hB2).trans h2
  have hn1 := hl.below hnx ha
  have hn2 := hl2.below hnx ha2
  by_cases hlt : k < M
  · obtain ⟨fn, tmps, assign, body, hy, hR⟩ := hY _ (D l (M - 1 - k), D l2 (M - 1 - k)) wr.drew (hJd _ _ hJs) (by rw [upto_length]; exact hlt)
    dsimp only [pairV] at hy
    have n1 := hn1.drew
    have n2 := hn2.drew
    have hk' : 0 ≤ (M : Int) - 1 - k := by omega
    have ek : ((M : Int) - 1 - k).toNat = M - 1 - k := by omega
    have EK := Lib.hid ek
    clear ek hn1 hn2
    have hfo : Tryz.prog.follows .mixedOrders = true := by kernel_rfl
    have hR' := hR.mono (R' := fun e W' => ∃ t : Bool, e = .returned (.bool t) ∧ Hid ((t = true ∧ J (upto l l2 M (k + 1)) W' ∧ Below n₀ wr.drew W') ∨ (t = false ∧ Jx (upto l l2 M (k + 1)) W'))) (by
     rw [upto_succ]
     rintro e W' (⟨rfl, h1, h2⟩ | ⟨rfl, h1⟩)
     · exact ⟨true, rfl, .inl ⟨rfl, h1, h2⟩⟩
     · exact ⟨false, rfl, .inr ⟨rfl, h1⟩⟩)
    clear hR
    gi_wp2_with fail
    gi_region_with_o (first | (refine ⟨trivial, ?_⟩; gi_at_call 76; refine (callsIn_wide.2 (digit_any _ _ _ _ _ _ (by assumption) hk')).mono ?_; rintro e w' ⟨rfl, rfl⟩; rw [EK.out]) | (refine hR'.mono ?_; rintro e W3 ⟨t, rfl, ht⟩))
    all_goals
     have HT := ht
     rcases HT.out with ⟨rfl, hJ3, hk3⟩ | ⟨rfl, hJx3⟩
     · gi_wp2
       go_roundw
       case rel => exact ⟨k + 1, by omega, by go_num, hJ3, hnx.drew.trans hk3⟩
       case measure => simp [intOf]; omega
     · gi_wp2
       refine bodyPost_ret (results_none rfl _ _ _) rfl ?_
       exact ⟨⟨_, rfl⟩, .inr ⟨_, ⟨k + 1, by omega, rfl⟩, hJx3⟩⟩
  · obtain rfl : k = M := by omega
    gi_wp2
    go_end0
    exact ⟨⟨_, rfl⟩, .inl ⟨_, rfl, hJs⟩⟩
set_option maxRecDepth 100000 in
theorem down_any (a : Option Addr) (n c : Nat) (a2 : Option Addr) (n2 c2 : Nat) (w : World) :
 Calls Tryz.prog 65 #[.slice a n c, .slice a2 n2 c2] w fun e w' => e = .returned (.func (.func 83) #[] #[.pointer (some ⟨w.heap.size, 0, none⟩), .pointer (some ⟨w.heap.size + 1, 0, none⟩)]) ∧
  (w.alloc (.cells #[.slice a n c] 23)).alloc (.cells #[.slice a2 n2 c2] 23) = w' := by
 have hmf : ∀ (fn : Fn) (first cap : Array Value) (w : World), (Instr.makeFunc fn first cap).run Tryz.prog w = .ok (.func fn first cap) w := fun _ _ _ _ => rfl
 go_enter Tryz.func65, Tryz.ntmps65
 go_wp2
 go_ret
 exact ⟨rfl, rfl⟩
theorem down_stops (n : Nat) (hn : 1 ≤ n) (B1 B2 n₀ : Nat) (a : Option Addr) (m c : Nat) (l : List Nat) (a2 : Option Addr) (m2 c2 : Nat) (l2 : List Nat) (M : Nat) (hM : max (m : Int) (m2 : Int) = M)
 (w : World) (h1 : w.cell? ⟨B1, 0, none⟩ = some (.slice a m c)) (h2 : w.cell? ⟨B2, 0, none⟩ = some (.slice a2 m2 c2)) (hB1 : B1 < n₀) (hB2 : B2 < n₀) (hn0 : n₀ ≤ w.heap.size) (ha : m = 0 ∨ ∀ x, a = some x → x.block < n₀) (ha2 : m2 = 0 ∨ ∀ x, a2 = some x → x.block < n₀)
 (hl : NatAt w a m c l) (hl2 : NatAt w a2 m2 c2 l2) :
 SeqStopsK Fence.wide n Tryz.prog 83 #[.pointer (some ⟨B1, 0, none⟩), .pointer (some ⟨B2, 0, none⟩)] pairV (Below n₀) (fun ys => ys = upto l l2 M M) (fun pre => ∃ k, k ≤ M ∧ pre = upto l l2 M k) M w := fun lp J Jx W hW hJ hJx hY h0 =>
 down1_in n hn lp B1 B2 n₀ a m c l a2 m2 c2 l2 M hM J Jx hY (fun pre V hV => hJ pre V V.drew none hV ⟨rfl, rfl, rfl, Nat.le_refl _, fun _ _ _ => rfl⟩ (fun r e => by cases e)) W
  ((hW.cell (p := ⟨B1, 0, none⟩) (show B1 < w.heap.size by omega)).trans h1) ((hW.cell (p := ⟨B2, 0, none⟩) (show B2 < w.heap.size by omega)).trans h2) hB1 hB2 ha ha2 (hl.later hW (Nat.le_refl _)) (hl2.later hW (Nat.le_refl _)) h0
end Go.Proofs.YtoecndogaklngaaGreatDoor
