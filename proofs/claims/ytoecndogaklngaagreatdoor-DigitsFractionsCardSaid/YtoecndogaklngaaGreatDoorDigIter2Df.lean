import Derived.BigQuiet
import Derived.Lib.MinMax
import Derived.Outline
import Derived.Test.YtoecndogaklngaaGreatDoorS0Df
import Derived.Test.YtoecndogaklngaaGreatDoorNumDf
import Derived.Test.YtoecndogaklngaaGreatDoorLimbs1Df
set_option linter.unusedVariables false
set_option linter.unusedSimpArgs false
namespace Go.Proofs.YtoecndogaklngaaGreatDoor
open Go.RowKit Go.Shelf
attribute [local go_sem] Oper.semAt_some
theorem chunk_any (a : Option Addr) (n c : Nat) (w : World) :
 Calls Tryz.prog 52 #[.slice a n c, .int .i64 19] w fun e w' => e = .returned (.func (.func 73) #[] #[.pointer (some ⟨w.heap.size, 0, none⟩), .pointer (some ⟨w.heap.size + 1, 0, none⟩)]) ∧
  (w.alloc (.cells #[.slice a n c] 70)).alloc (.cells #[.int .i64 19] 3) = w' := by
 have hmf : ∀ (fn : Fn) (first cap : Array Value) (w : World), (Instr.makeFunc fn first cap).run Tryz.prog w = .ok (.func fn first cap) w := fun _ _ _ _ => rfl
 go_enter Tryz.func52, Tryz.ntmps52
 go_wp2
 go_ret
 exact ⟨rfl, rfl⟩
def chk19 (n i : Nat) : Nat := min 19 (n - 19 * i)
def OkChunk (l : List Nat) (n i : Nat) (x : Array Value) (W : World) : Prop := ∃ a', x = #[.slice a' (chk19 n i) (chk19 n i)] ∧ BytesAt W a' (chk19 n i) (chk19 n i) ((l.drop (19 * i)).take (chk19 n i))
def FixChunk (bS bN : Nat) (a : Option Addr) (n c : Nat) (l : List Nat) (W : World) : Prop := W.cell? ⟨bS, 0, none⟩ = some (.slice a n c) ∧ W.cell? ⟨bN, 0, none⟩ = some (.int .i64 19) ∧ BytesAt W a n c l
theorem FixChunk.past {bS bN : Nat} {a : Option Addr} {n c : Nat} {l : List Nat} {W W' : World} (h : FixChunk bS bN a n c l W) (hb : Below W.heap.size W W') : FixChunk bS bN a n c l W' :=
 ⟨(hb.cell (p := ⟨bS, 0, none⟩) (World.block_lt_of_cell? W ⟨bS, 0, none⟩ h.1)).trans h.1, (hb.cell (p := ⟨bN, 0, none⟩) (World.block_lt_of_cell? W ⟨bN, 0, none⟩ h.2.1)).trans h.2.1, h.2.2.past hb⟩
theorem slice_from (b o n c k : Nat) (h : k ≤ n) (hc : n ≤ c) : ∃ ad, ∀ W, (Instr.slice 70 (.slice (some ⟨b, o, none⟩) n c) (some (.int .i64 (k : Int))) none none).run Tryz.prog W = .ok (.slice ad (n - k) (c - k)) W := by
 have hel : Tryz.prog.elem 70 = 5 := by kernel_rfl
 have hun : Tryz.prog.underlying 70 = some (.slice (Tryz.prog.elem 70)) := by rw [hel]; exact Tryz.underlying70
 have hsz : ∀ W, (sizeOf 5).run Tryz.prog W = .ok 1 W := fun W => by kernel_rfl
 refine ⟨if c = k then some ⟨b, o, none⟩ else some ⟨b, o + k, none⟩, fun W => ?_⟩
 rw [run_slice_l W _ (some ⟨b, o, none⟩) n c hun .i64 (k : Int) (by omega) (by omega), hel, hsz]
 simp only [Result.andThen, sliced, Int.toNat_natCast, Option.map_some, addr_add, Nat.mul_one]
theorem slice_mid (b o n c k m : Nat) (hm : 0 < m) (h : k + m ≤ n) (hc : n ≤ c) : ∀ W, (Instr.slice 70 (.slice (some ⟨b, o, none⟩) n c) (some (.int .i64 (k : Int))) (some (.int .i64 ((k : Int) + (m : Int)))) (some (.int .i64 ((k : Int) + (m : Int))))).run Tryz.prog W = .ok (.slice (some ⟨b, o + k, none⟩) m m) W := by
 have hel : Tryz.prog.elem 70 = 5 := by kernel_rfl
 have hun : Tryz.prog.underlying 70 = some (.slice (Tryz.prog.elem 70)) := by rw [hel]; exact Tryz.underlying70
 have hsz : ∀ W, (sizeOf 5).run Tryz.prog W = .ok 1 W := fun W => by kernel_rfl
 intro W
 rw [run_slice_lhm W _ (some ⟨b, o, none⟩) n c hun .i64 .i64 .i64 (k : Int) _ _ (by omega) (by omega) (by omega) (by omega), hel, hsz]
 have e1 : ((k : Int) + (m : Int)).toNat = k + m := by omega
 simp only [Result.andThen, sliced, Int.toNat_natCast, e1]
 rw [if_neg (by omega)]
 simp only [Option.map_some, addr_add, Nat.mul_one]
 rw [Nat.add_sub_cancel_left]
set_option maxRecDepth 100000 in
set_option maxHeartbeats 4000000 in
theorem chunk1_hands (bS bN : Nat) (a : Option Addr) (n c : Nat) (l : List Nat) (hn : n ≤ 10000) :
 HandsF 2 Tryz.prog 73 #[.pointer (some ⟨bS, 0, none⟩), .pointer (some ⟨bN, 0, none⟩)] ((n + 18) / 19) (OkChunk l n) (FixChunk bS bN a n c l) := by
 intro lp J W hJ hfix hY h0
 have hcle := hfix.2.2.cle
 have hle := hfix.2.2.le
 have HY := Lib.hid hY
 have HJ := Lib.hid hJ
 have HF := Lib.hid hfix
 clear hY hJ hfix
 refine callsIn_of_wp Tryz.func73 rfl trivial ?_ rfl
 simp only [Tryz.ntmps73, List.size_toArray, List.length_cons, List.length_nil, Nat.reduceAdd, Nat.reduceSub, Array.replicate_succ, Array.replicate_zero, List.push_toArray, List.append_toArray, List.nil_append, List.cons_append]
 gi_wp2
 gi_loopw [4] (fun i wr => ∃ m k : Nat, m = 19 * k ∧ k ≤ (n + 18) / 19 ∧ i = .int .i64 (m : Int) ∧ J k wr ∧ FixChunk bS bN a n c l wr) (fun i _ => n - (intOf i).toNat)
 case atStart => exact ⟨0, 0, rfl, Nat.zero_le _, rfl, h0, HF.out⟩
 case round =>
  obtain ⟨m, k, hmk, hkN, rfl, hJm, hfix⟩ := hrel
  have qS := hfix.1
  have qN := hfix.2.1
  by_cases hlt : m < n
  · obtain ⟨b, o, rfl⟩ : ∃ b o, a = some ⟨b, o, none⟩ := by
     rcases hfix.2.2.cell with h | ⟨b, o, h1, _⟩
     · omega
     · exact ⟨b, o, h1⟩
    obtain ⟨E, hE⟩ : ∃ E, chk19 n k = E := ⟨_, rfl⟩
    have hE1 : 0 < E ∧ m + E ≤ n ∧ min (19 : Int) ((n - m : Nat) : Int) = (E : Int) := by
     unfold chk19 at hE
     omega
    obtain ⟨hE0, hE2, hmin⟩ := hE1
    obtain ⟨ad, hs1⟩ := slice_from b o n c m (by omega) hle
    have hs2 := slice_mid b o n c m E hE0 hE2 hle
    have hw1 : IntKind.i64.wrap ((m : Int) + (E : Int)) = (m : Int) + (E : Int) := by rw [IntKind.wrap_i64]; omega
    have HMK := Lib.hid hmk
    have HKN := Lib.hid hkN
    have HEE := Lib.hid hE
    have HFX := Lib.hid hfix
    have HJM := Lib.hid hJm
    have hm0 : 0 ≤ (m : Int) := by omega
    clear hmk hkN hE hfix hJm
    gi_wp2_with fail
    refine wpIn_wide.2 ?_
    go_quiet (fail)
    have hbw : Below wr.heap.size wr (wr.drewN nq) := Below.draws (Below.refl _ _) nq
    generalize wr.drewN nq = w2 at *
    have hJ2 := HJ.out _ _ _ HJM.out hbw
    have hfix := HFX.out.past hbw
    have qS := hfix.1
    have qN := hfix.2.1
    have hby : BytesAt w2 (some ⟨b, o + m, none⟩) E E ((l.drop m).take E) := by
     have h1 := hfix.2.2.drop (k := m) (by omega)
     exact h1.take (by omega) E (Nat.le_refl _) (by omega)
    have hk1 : k < (n + 18) / 19 := by have := HMK.out; omega
    have hY1 := HY.out k #[.slice (some ⟨b, o + m, none⟩) E E] w2 hk1 hJ2 hfix ⟨_, by rw [HEE.out], by rw [← HMK.out, HEE.out]; exact hby⟩
    obtain ⟨fn, tmps, assign, body, hy, hR⟩ := hY1
    have HR := Lib.hid hR
    have HK1 := Lib.hid hk1
    clear hR hby hfix hJ2 hbw hs1 hmin hk1
    gi_wp2_with (first | (refine HR.out.mono ?_; rintro e W3 ⟨rfl, hJ3, hk3⟩; have qN := hk3.2.1))
    exact ⟨⟨m + 19, k + 1, by have := HMK.out; omega, by have := HK1.out; omega, by go_num, hJ3, hk3⟩, by simp [intOf] <;> omega⟩
  · obtain rfl : k = (n + 18) / 19 := by omega
    gi_wp2
    go_end0
    exact ⟨⟨_, rfl⟩, hJm, hfix⟩
end Go.Proofs.YtoecndogaklngaaGreatDoor
