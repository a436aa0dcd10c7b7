import Derived.Test.YtoecndogaklngaaDoorS0Db
import Derived.Test.YtoecndogaklngaaDoorNumDb
import Derived.Test.YtoecndogaklngaaDoorLimbs1Db
import Derived.Test.YtoecndogaklngaaDoorRange3Db
set_option linter.unusedVariables false
set_option linter.unusedSimpArgs false
namespace Go.Proofs.YtoecndogaklngaaDoor
open Go.RowKit Go.Shelf
attribute [local go_sem] Oper.semAt_some
theorem backward_any (a : Option Addr) (n c : Nat) (w : World) :
 Calls Tryd.prog 33 #[.slice a n c] w fun e w' => e = .returned (.func (.func 54) #[] #[.pointer (some ⟨w.heap.size, 0, none⟩)]) ∧
  w.alloc (.cells #[.slice a n c] 23) = w' := by
 have hmf : ∀ (fn : Fn) (first cap : Array Value) (w : World), (Instr.makeFunc fn first cap).run Tryd.prog w = .ok (.func fn first cap) w := fun _ _ _ _ => rfl
 go_enter Tryd.func33, Tryd.ntmps33
 go_wp2
 go_ret
 exact ⟨rfl, rfl⟩
def OkBack (l : List Nat) (n i : Nat) (x : Array Value) (_ : World) : Prop := x = #[.int .i64 ((n - 1 - i : Nat) : Int), .int .u64 ((D l (n - 1 - i) : Nat) : Int)]
def FixBack (bS : Nat) (a : Option Addr) (n c : Nat) (l : List Nat) (W : World) : Prop := W.cell? ⟨bS, 0, none⟩ = some (.slice a n c) ∧ NatAt W a n c l
theorem FixBack.past {bS : Nat} {a : Option Addr} {n c : Nat} {l : List Nat} {W W' : World} (h : FixBack bS a n c l W) (hb : Below W.heap.size W W') : FixBack bS a n c l W' :=
 ⟨(hb.cell (p := ⟨bS, 0, none⟩) (World.block_lt_of_cell? W ⟨bS, 0, none⟩ h.1)).trans h.1, h.2.past hb⟩
set_option maxRecDepth 100000 in
set_option maxHeartbeats 4000000 in
theorem backward1_hands (bS : Nat) (a : Option Addr) (n c : Nat) (l : List Nat) :
 HandsF 2 Tryd.prog 54 #[.pointer (some ⟨bS, 0, none⟩)] n (OkBack l n) (FixBack bS a n c l) := by
 intro lp J W hJ hfix hY h0
 have hcle := hfix.2.cle
 have hle := hfix.2.le
 have HY := Lib.hid hY
 have qt := hfix.1
 have HF := Lib.hid hfix
 clear hY hJ hfix
 refine callsIn_of_wp Tryd.func54 rfl trivial ?_ rfl
 simp only [Tryd.ntmps54, List.size_toArray, List.length_cons, List.length_nil, Nat.reduceAdd, Nat.reduceSub, Array.replicate_succ, Array.replicate_zero, List.push_toArray, List.append_toArray, List.nil_append, List.cons_append]
 gi_wp2
 clear qt
 gi_loopw [3] (fun i wr => ∃ m : Nat, m ≤ n ∧ i = .int .i64 ((m : Int) - 1) ∧ J (n - m) wr ∧ FixBack bS a n c l wr) (fun i _ => (intOf i + 1).toNat)
 case atStart => exact ⟨n, Nat.le_refl _, rfl, by rw [Nat.sub_self]; exact h0, HF.out⟩
 case round =>
  obtain ⟨m, hm, rfl, hJm, hfix⟩ := hrel
  by_cases hlt : 0 < m
  · obtain ⟨p, rfl⟩ : ∃ p, m = p + 1 := ⟨m - 1, by omega⟩
    have ej : ((p + 1 : Nat) : Int) - 1 = (p : Int) := by omega
    rw [ej]
    clear ej
    have hcel := hfix.2.parts
    obtain ⟨X, hX⟩ : ∃ X, D l p = X := ⟨_, rfl⟩
    have hq : ∃ b o, a = some ⟨b, o, none⟩ ∧ wr.cell? ⟨b, o + p, none⟩ = some (.int .u64 (X : Int)) := by
     rcases hcel with h | ⟨b, o, h1, h2, h3⟩
     · omega
     · exact ⟨b, o, h1, by rw [← hX]; exact h3 p (by omega)⟩
    obtain ⟨b, o, rfl, hq⟩ := hq
    have hY1 := HY.out (n - (p + 1)) #[.int .i64 ((n - 1 - (n - (p + 1)) : Nat) : Int), .int .u64 ((D l (n - 1 - (n - (p + 1))) : Nat) : Int)] wr (by omega) hJm hfix rfl
    rw [show n - 1 - (n - (p + 1)) = p by omega, hX, show n - (p + 1) + 1 = n - p by omega] at hY1
    have qS := hfix.1
    clear hcel hX hfix
    obtain ⟨fn, tmps, assign, body, hy, hR⟩ := hY1
    have HR := Lib.hid hR
    clear hR
    gi_wp2_with (first | (refine HR.out.mono ?_; rintro e W3 ⟨rfl, hJ3, hk3⟩))
    exact ⟨⟨p, by omega, rfl, hJ3, hk3⟩, by simp [intOf] <;> omega⟩
  · obtain rfl : m = 0 := by omega
    gi_wp2
    go_end0
    exact ⟨⟨_, rfl⟩, hJm, hfix⟩
end Go.Proofs.YtoecndogaklngaaDoor
