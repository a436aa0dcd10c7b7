/- times, fifth part: ones: the bits of a number, the highest first. -/
import Derived.Test.YtlljljhiimeajaaLimbs5
import Derived.Test.YtlljljhiimeajaaLimbs9
import Derived.Test.YtlljljhiimeajaaNum3
set_option linter.unusedVariables false
set_option linter.unusedSimpArgs false
namespace Go.Proofs.Ytlljljhiimeajaa
open Go.RowKit Go.Shelf
attribute [local go_sem] Oper.semAt_some

/-- the first k bits of a number of L bits -/
def bitsK (m L : Nat) : Nat → List Bool
  | 0 => []
  | k + 1 => bitsK m L k ++ [decide (m / 2 ^ (L - 1 - k) % 2 = 1)]
def num (l : List Bool) : Nat := l.foldl (fun s b => 2 * s + b.toNat) 0
theorem num_nil : num [] = 0 := rfl
theorem num_snoc (l : List Bool) (b : Bool) : num (l ++ [b]) = 2 * num l + b.toNat := by simp [num]
theorem bitsK_length (m L k : Nat) : (bitsK m L k).length = k := by
  induction k with
  | zero => rfl
  | succ k ih => simp [bitsK, ih]
theorem num_bitsK {m L : Nat} (hm : m < 2 ^ L) : ∀ k, k ≤ L → num (bitsK m L k) = m / 2 ^ (L - k)
  | 0, _ => by rw [Nat.sub_zero, Nat.div_eq_of_lt hm]; rfl
  | k + 1, h => by
    rw [bitsK, num_snoc, num_bitsK hm k (by omega), show L - (k + 1) = L - 1 - k by omega, show L - k = (L - 1 - k) + 1 by omega, Nat.pow_succ, ← Nat.div_div_eq_div_mul]
    have h2 : (decide (m / 2 ^ (L - 1 - k) % 2 = 1)).toNat = m / 2 ^ (L - 1 - k) % 2 := by
      by_cases e : m / 2 ^ (L - 1 - k) % 2 = 1
      · simp [e]
      · simp [e]; omega
    rw [h2]
    omega
theorem num_full (m : Nat) : num (bitsK m (nbits m) (nbits m)) = m := by
  rw [num_bitsK (nbits_lt m) _ (Nat.le_refl _), Nat.sub_self, Nat.pow_zero, Nat.div_one]
theorem num_step_le {m k : Nat} (hk : k ≤ nbits m) : num (bitsK m (nbits m) k) ≤ m := by
  rw [num_bitsK (nbits_lt m) _ hk]; exact Nat.div_le_self _ _

theorem blen_any (x : Nat) (w : World) (hx : x < 18446744073709551616) :
    Calls Try.prog 93 #[.int .u64 (x : Int)] w fun e w' => e = .returned (.int .i64 ((nbits x : Nat) : Int)) ∧ w = w' := by
  go_enter Try.func93, Try.ntmps93
  go_wp2_with fail
  refine (len64_any x _ hx).mono ?_
  rintro e w' ⟨rfl, rfl⟩
  go_wp2
  go_ret
  exact ⟨rfl, rfl⟩

theorem bit_and (x : Nat) (hx : x < 9223372036854775808) : bits .and .i64 (x : Int) 1 = ((x % 2 : Nat) : Int) := by
  have h1 : (BitVec.ofInt 64 1).toNat = 2 ^ 1 - 1 := by decide
  have key : (BitVec.ofInt 64 (x : Int) &&& BitVec.ofInt 64 1).toNat = ((x : Int) % ((2 ^ 64 : Nat) : Int)).toNat % 2 ^ 1 := by
    rw [BitVec.toNat_and, BitVec.toNat_ofInt, h1, Nat.and_two_pow_sub_one_eq_mod]
  show IntKind.i64.wrap ((BitVec.ofInt 64 (x : Int) &&& BitVec.ofInt 64 1).toNat : Nat) = ((x % 2 : Nat) : Int)
  rw [key, IntKind.wrap_i64]
  omega

set_option maxRecDepth 100000 in
set_option maxHeartbeats 2000000 in
theorem ones1_in (f : Nat) (hf : 1 ≤ f) (lp B1 m L : Nat) (hm : m ≤ 65536) (hL : nbits m = L) (J Jx : List Bool → World → Prop)
    (hY : ∀ pre x W, J pre W → pre.length < L → YieldAt Fence.wide (f - 1) Try.prog lp #[.bool x] W fun e W' =>
      (e = .returned (.bool true) ∧ J (pre ++ [x]) W' ∧ (W.cell? ⟨B1, 0, none⟩ = some (.int .i64 (m : Int)) → W'.cell? ⟨B1, 0, none⟩ = some (.int .i64 (m : Int)))) ∨ (e = .returned (.bool false) ∧ Jx (pre ++ [x]) W'))
    (hJd : ∀ pre W, J pre W → J pre W.drew)
    (W : World) (h1 : W.cell? ⟨B1, 0, none⟩ = some (.int .i64 (m : Int))) (h0 : J [] W) :
    CallsIn Fence.wide f Try.prog 92 #[.func (.yield lp) #[] #[], .pointer (some ⟨B1, 0, none⟩)] W fun e W' => (∃ v, e = .returned v) ∧
      ((∃ ys, ys = bitsK m L L ∧ J ys W') ∨ (∃ pre, (∃ k, k ≤ L ∧ pre = bitsK m L k) ∧ Jx pre W')) := by
  have hLb : L ≤ 17 := by rw [← hL]; exact nbits_le (Nat.lt_of_le_of_lt hm (by decide))
  have HL := Lib.hid hL
  clear hL
  have hu : IntKind.u64.wrap (m : Int) = (m : Int) := by rw [IntKind.wrap_u64]; omega
  refine callsIn_of_wp Try.func92 rfl trivial ?_ rfl
  simp only [Try.ntmps92, List.size_toArray, List.length_cons, List.length_nil, Nat.reduceAdd, Nat.reduceSub, Array.replicate_succ, Array.replicate_zero, List.push_toArray, List.append_toArray, List.nil_append, List.cons_append]
  gi_wp2_with (refine ⟨trivial, ?_⟩; gi_at_call 93; refine (callsIn_wide.2 (blen_any m _ (by omega))).mono ?_; rintro e w' ⟨rfl, rfl⟩; rw [HL.out])
  gi_loopw [3] (fun i wr => ∃ k : Nat, k ≤ L ∧ i = .int .i64 ((L : Int) - 1 - k) ∧ J (bitsK m L k) wr ∧ wr.cell? ⟨B1, 0, none⟩ = some (.int .i64 (m : Int)))
    (fun i _ => (intOf i + 1).toNat)
  case atStart => exact ⟨0, Nat.zero_le _, by go_num, h0, h1⟩
  case round =>
    obtain ⟨k, hk, rfl, hJs, hc⟩ := hrel
    by_cases hlt : k < L
    · obtain ⟨fn, tmps, assign, body, hy, hR⟩ := hY _ (decide (m / 2 ^ (L - 1 - k) % 2 = 1)) wr hJs (by rw [bitsK_length]; exact hlt)
      have hk' : 0 ≤ (L : Int) - 1 - k := by omega
      have ek : ((L : Int) - 1 - k).toNat = L - 1 - k := by omega
      have v1 : (m : Int) / 2 ^ (L - 1 - k) = ((m / 2 ^ (L - 1 - k) : Nat) : Int) := by rw [Int.natCast_ediv, Int.natCast_pow]; rfl
      obtain ⟨x, hx⟩ : ∃ x, m / 2 ^ (L - 1 - k) = x := ⟨_, rfl⟩
      have hxm : x ≤ 65536 := by rw [← hx]; exact Nat.le_trans (Nat.div_le_self _ _) hm
      rw [hx] at hy v1 hR
      have v2 := bit_and x (by omega)
      obtain ⟨y, hy2⟩ : ∃ y, x % 2 = y := ⟨_, rfl⟩
      rw [hy2] at v2 hy hR
      obtain ⟨t0, ht0⟩ : ∃ t0, decide (y = 1) = t0 := ⟨_, rfl⟩
      rw [ht0] at hy hR
      have v3 : ((y : Int) == 1) = t0 := by
        rw [← ht0]
        by_cases e : y = 1
        · simp [e]
        · have e0 : y = 0 := by omega
          simp [e0]
      have hbk : bitsK m L (k + 1) = bitsK m L k ++ [t0] := by rw [bitsK, hx, hy2, ht0]
      have HX := Lib.hid hbk
      clear hbk
      have hR' := hR.mono (R' := fun e W' => ∃ t : Bool, e = .returned (.bool t) ∧ Hid ((t = true ∧ J (bitsK m L (k + 1)) W' ∧ W'.cell? ⟨B1, 0, none⟩ = some (.int .i64 (m : Int))) ∨ (t = false ∧ Jx (bitsK m L (k + 1)) W'))) (by
        rw [HX.out]
        rintro e W' (⟨rfl, h1, h2⟩ | ⟨rfl, h1⟩)
        · exact ⟨true, rfl, .inl ⟨rfl, h1, h2 hc⟩⟩
        · exact ⟨false, rfl, .inr ⟨rfl, h1⟩⟩)
      clear hR hx hy2 ht0
      gi_wp2_with (first | (refine hR'.mono ?_; rintro e W3 ⟨t, rfl, ht⟩))
      · rcases ht.out with ⟨rfl, hJ3, hc3⟩ | ⟨rfl, hJx3⟩
        · rename (!true) = true => hf2
          cases hf2
        · refine bodyPost_ret (results_none rfl _ _ _) rfl ?_
          exact ⟨⟨_, rfl⟩, .inr ⟨_, ⟨k + 1, by omega, rfl⟩, hJx3⟩⟩
      · rcases ht.out with ⟨rfl, hJ3, hc3⟩ | ⟨rfl, hJx3⟩
        · exact ⟨⟨k + 1, by omega, by go_num, hJ3, hc3⟩, by simp [intOf]; omega⟩
        · rename (!false) = false => hf2
          cases hf2
    · obtain rfl : k = L := by omega
      gi_wp2
      go_end0
      exact ⟨⟨_, rfl⟩, .inl ⟨_, rfl, hJs⟩⟩

theorem ones_any (m : Int) (w : World) :
    Calls Try.prog 66 #[.int .i64 m] w fun e w' => e = .returned (.func (.func 92) #[] #[.pointer (some ⟨w.heap.size, 0, none⟩)]) ∧ w.alloc (.cells #[.int .i64 m] 3) = w' := by
  have hmf : ∀ (fn : Fn) (first cap : Array Value) (w : World), (Instr.makeFunc fn first cap).run Try.prog w = .ok (.func fn first cap) w := fun _ _ _ _ => rfl
  go_enter Try.func66, Try.ntmps66
  go_wp2
  go_ret
  exact ⟨rfl, rfl⟩

/-- what the loop's body must keep: the number's own variable -/
def KeepN (B1 m : Nat) (A B : World) : Prop := A.cell? ⟨B1, 0, none⟩ = some (.int .i64 (m : Int)) → B.cell? ⟨B1, 0, none⟩ = some (.int .i64 (m : Int))
theorem keepN_t {B1 m : Nat} {A B C : World} (h : KeepN B1 m A B) (k : KeepN B1 m B C) : KeepN B1 m A C := fun x => k (h x)
theorem keepN_b {w : World} {B1 m : Nat} (W : World) (l : Nat) (o o' : Obj) (_ : w.heap.size ≤ l) (hl : W.heap[l]? = some o) (ho : o.isCells = false) (_ : o.isWalk = false) : KeepN B1 m W (W.putObj l o') :=
  fun x => cell_kept x (grownBy_putObj' W l o') (fun r e => by cases e; exact ⟨o, hl, ho⟩)

theorem ones_stops (f : Nat) (hf : 1 ≤ f) (B1 m L : Nat) (hm : m ≤ 65536) (hL : nbits m = L) (w : World) (h1 : w.cell? ⟨B1, 0, none⟩ = some (.int .i64 (m : Int))) :
    SeqStopsK Fence.wide f Try.prog 92 #[.pointer (some ⟨B1, 0, none⟩)] (fun x : Bool => #[.bool x]) (KeepN B1 m) (fun ys => ys = bitsK m L L) (fun pre => ∃ k, k ≤ L ∧ pre = bitsK m L k) L w := fun lp J Jx W hW hJ hJx hY h0 =>
  ones1_in f hf lp B1 m L hm hL J Jx hY (fun pre V hV => hJ pre V V.drew none hV ⟨rfl, rfl, rfl, Nat.le_refl _, fun _ _ _ => rfl⟩ (fun r e => by cases e)) W
    ((hW.cell (p := ⟨B1, 0, none⟩) (World.block_lt_of_cell? w _ h1)).trans h1) h0

end Go.Proofs.Ytlljljhiimeajaa
