import Derived.Deep.DeepFit
import Derived.Deep.RegionHeld3
import Derived.Deep.RegionWith
import Derived.IntWalk
import Derived.Laws.EntriesVeiled
import Derived.Test.YtoecndogaklngaaGreatDoorS0Df
import Derived.Test.YtoecndogaklngaaGreatDoorLimbs6Df
import Derived.Test.YtoecndogaklngaaGreatDoorTimes3Df
import Derived.Test.YtoecndogaklngaaGreatDoorLimbs3Df
import Derived.Test.YtoecndogaklngaaGreatDoorRefs1Df
import Derived.Test.YtoecndogaklngaaGreatDoorRefs7Df
set_option linter.unusedVariables false
set_option linter.unusedSimpArgs false
namespace Go.Proofs.YtoecndogaklngaaGreatDoor
open Go.RowKit
set_option maxRecDepth 100000 in
theorem rsmake_any (b : Bool) (a : Option Addr) (n c : Nat) (l : List Nat) (w : World) (h : NatAt w a n c l) (hs : n ≤ 1099511627776) :
 Calls Tryz.prog 27 #[.bool b, .slice a n c] w (RetInt w (sg b (val l))) := by
 cases b
 all_goals
  go_enter Tryz.func27, Tryz.ntmps27
  go_wp2_with fail
  with_reducible refine (rtrim_any _ _ _ l _ (h.alloc _) hs).mono ?_
  rintro e w1 ⟨a1, n1, c1, rfl, h1, hb⟩
  obtain ⟨hc, hf⟩ := bcell hb
  have hz : w.heap.size < w1.heap.size := by have := hb.size; simp at this; omega
  go_wp2
  refine bodyPost_ret (v := .agg #[.bool (neg (sg _ (val l))), .slice a1 n1 c1]) ?_ rfl ⟨_, _, _, rfl, ?_, ?_⟩
  · simp [results, Tryz.f27, go_sem, hc, hz]
    have hl := h1.len
    have h0 := digs_len0 (n := val l)
    rw [neg_sg]
    first
     | rfl
     | (simp only [Bool.true_and, decide_eq_decide]; omega)
  · rw [natAbs_sg]
    exact ((h1.setOff (by simp) _).setOff (by simp) _).mono (by simp)
  · have hB := below_later ((Below.refl w.heap.size w).alloc (Nat.le_refl _) _) hb
    exact ((hB.setCell (p := ⟨w.heap.size, 0, none⟩) (Nat.le_refl _) _).setCell (p := ⟨w.heap.size, 1, none⟩) (Nat.le_refl _) _)
set_option maxRecDepth 100000 in
theorem rscheck_any (b : Bool) (a : Option Addr) (n c : Nat) (l : List Nat) (w : World) (h : NatAt w a n c l) :
 Calls Tryz.prog 42 #[.agg #[.bool b, .slice a n c]] w (RetVal w (.int .i64 (chkZ b l))) := by
 have hlen := h.len
 by_cases hk : chk l = 0
 · by_cases h0 : b = true ∧ n = 0
   · obtain ⟨rfl, rfl⟩ := h0
     have hl : l = [] := List.eq_nil_of_length_eq_zero hlen
     subst hl
     go_enter Tryz.func42, Tryz.ntmps42
     go_wp2_with fail
     with_reducible refine (rcheck_any _ _ _ _ _ (h.alloc _)).mono ?_
     rintro e w' ⟨rfl, rfl⟩
     rw [chk_nil]
     go_wp2
     go_ret
     exact ⟨rfl, (Below.refl _ _).alloc (Nat.le_refl _) _⟩
   · have hz : chkZ b l = 0 := by
      unfold chkZ; rw [if_neg, hk]; rintro ⟨rfl, rfl⟩; exact h0 ⟨rfl, hlen.symm⟩
     rw [hz]
     have HK := Lib.hid hk
     clear hz hk hlen
     cases b
     · clear h0
       go_enter Tryz.func42, Tryz.ntmps42
       go_wp2_with fail
       with_reducible refine (rcheck_any _ _ _ _ _ (h.alloc _)).mono ?_
       rintro e w' ⟨rfl, rfl⟩
       rw [HK.out]
       go_wp2
       go_ret
       exact ⟨rfl, (Below.refl _ _).alloc (Nat.le_refl _) _⟩
     · have hn : ((n : Int) == 0) = false := by
        have : n ≠ 0 := fun e => h0 ⟨rfl, e⟩
        simp; omega
       clear h0
       go_enter Tryz.func42, Tryz.ntmps42
       go_wp2_with fail
       with_reducible refine (rcheck_any _ _ _ _ _ (h.alloc _)).mono ?_
       rintro e w' ⟨rfl, rfl⟩
       rw [HK.out]
       go_wp2
       go_ret
       exact ⟨rfl, (Below.refl _ _).alloc (Nat.le_refl _) _⟩
 · have h6 : chk l = 6 := by unfold chk at hk ⊢; split at hk <;> simp_all
   have hz : chkZ b l = 6 := by unfold chkZ; split <;> simp_all
   rw [hz]
   have HK := Lib.hid h6
   clear hz hk hlen h6
   go_enter Tryz.func42, Tryz.ntmps42
   go_wp2_with fail
   with_reducible refine (rcheck_any _ _ _ _ _ (h.alloc _)).mono ?_
   rintro e w' ⟨rfl, rfl⟩
   rw [HK.out]
   go_wp2
   go_ret
   exact ⟨rfl, (Below.refl _ _).alloc (Nat.le_refl _) _⟩
end Go.Proofs.YtoecndogaklngaaGreatDoor
set_option linter.unusedVariables false
set_option linter.unusedSimpArgs false
namespace Go.Proofs.YtoecndogaklngaaGreatDoor
open Go.RowKit
theorem oneN_yes {v : Nat} (h : v < 18446744073709551616) : oneN v = v ∧ oneB v = true := ⟨if_pos h, decide_eq_true h⟩
theorem oneN_no {v : Nat} (h : ¬ v < 18446744073709551616) : oneN v = 0 ∧ oneB v = false := ⟨if_neg h, decide_eq_false h⟩
end Go.Proofs.YtoecndogaklngaaGreatDoor
