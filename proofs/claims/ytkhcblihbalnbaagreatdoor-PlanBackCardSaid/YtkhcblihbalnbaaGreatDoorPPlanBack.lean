/- artesianlaw27.PlanBack: the call returns true, and what it is handed reads as it did. -/
import Derived.Test.YtkhcblihbalnbaaGreatDoorRows
import Derived.Test.YtkhcblihbalnbaaGreatDoorCards
import Derived.Test.YtkhcblihbalnbaaGreatDoorTie
import Derived.LaidMore
import Derived.Lay
import Derived.SevenTiedAt
import Derived.Stop.Joined
import Derived.Test.YtkhcblihbalnbaaGreatDoorPlan13Pb
import Derived.Test.YtkhcblihbalnbaaGreatDoorNumPb
import Derived.Test.YtkhcblihbalnbaaGreatDoorCardPb
import Derived.WalkKit
import Derived.ProofKit
import Derived.OpenShut
import Derived.ShutString
import Derived.ChangeOld
import Derived.Below
namespace Go.Proofs.YtkhcblihbalnbaaGreatDoor.planBack
open Go.ChangeShapes Go.WideShapes Go.ChangeAt Go.RowKit
open Go.ChangeMaps (open_string shut_string)
set_option linter.unusedVariables false

theorem own : ownKnob Tryz.prog.godebug = none := by kernel_rfl
theorem laidOut : laidOutB Tryz.prog = true := by kernel_rfl

set_option maxRecDepth 100000 in
theorem lifted (os : Os) (started : os.Started) (H : Type) (enc : TypeId × Value → H) :
    ReturnsInHanded {} Tryz.checked os 3 .any (fun w args => (Rows.planBackSpec.pre enc Tryz.prog Tryz.f3 Rows.planBackRow.domain false w args ∧ laidMetH Tryz.prog Rows.planBackRow.laid w) ∧ sizedMet enc Tryz.prog Tryz.f3 (OpenSpec.ofChange Rows.planBackSpec) false w args) (Rows.planBackSpec.post enc Tryz.prog Tryz.f3 false true false false) := by
  refine handed_both (C := Tryz.checked) (X := fun w _ => laidMetH Tryz.prog Rows.planBackRow.laid w) own started (by kernel_rfl) Tryz.func3
    (ChangeSpec.witness_shaped (enc := enc) (C := Tryz.checked) (os := os) (X := fun w _ => laidMetH Tryz.prog Rows.planBackRow.laid w) false (World.laidAll Tryz.prog os Rows.planBackRow.laid) #[.agg #[.int .i64 0, .slice none 0 0, .bool false, .slice none 0 0, .slice none 0 0, .int .i64 0, .bool false, .slice none 0 0, .slice none 0 0], .agg #[.int .i64 0, .slice none 0 0, .bool false, .slice none 0 0, .slice none 0 0, .int .i64 0, .bool false, .slice none 0 0, .slice none 0 0], .slice none 0 0] 8 (World.laidAll_os _ _ _)
      (World.shaped_of_ZipB (by kernel_rfl) (by kernel_rfl)) (by kernel_rfl) (by kernel_rfl) (by kernel_rfl)
      (by rw [MakeChecks.laidMetH_plain _ _ _ (by kernel_rfl)]; exact laidMet_laidAll _ (by kernel_rfl) (by kernel_rfl))) ?_
  intro W base args ds gs before hval0 hW hsh
  have hmx : MaxL W := cell_of_shapedOpen_int (g := 2) (zero := #[.int .i64 0]) (t := 3) hsh (of_decide_eq_true (by kernel_rfl)) (by kernel_rfl) rfl (by kernel_rfl) (by kernel_rfl) Tryz.underlying3
  have hval : ∀ (j : Nat) t v, Tryz.f3.params[j]? = some t → args[j]? = some v → Value.okWide Tryz.prog W .any base t v := hval0
  have hW' := hW
  obtain ⟨p, q, hA0, hV, rfl, hfz, hnd⟩ := hW
  have hA : DataW.TrodAll enc Tryz.prog W 0 (fun _ => true) true Tryz.f3.params.toList args.toList ds p := hA0
  rw [Tryz.params3] at hA hval
  obtain ⟨v0, vs0, d0, ds0, p0, q0, hargs, rfl, rfl, h0, r0⟩ := trodAll_cons hA
  obtain ⟨v1, vs1, d1, ds1, p1, q1, rfl, rfl, rfl, h1, r1⟩ := trodAll_cons r0
  obtain ⟨v2, vs2, d2, ds2, p2, q2, rfl, rfl, rfl, h2, r2⟩ := trodAll_cons r1
  obtain ⟨rfl, rfl, rfl⟩ := trodAll_nil r2
  obtain rfl : args = #[v0, v1, v2] := by cases args; simp_all
  obtain ⟨rfl, rfl⟩ := trodVars_none hV
  have k0 := h0
  have lt0 : ∀ x ∈ p0, x.block < W.heap.size := by obtain ⟨m, hm⟩ := k0; exact DataW.trod_lt m _ _ _ hm
  obtain ⟨K0, a0, len0, cap0, z0, b0, a0b, len0b, cap0b, z0b, a0c, len0c, cap0c, z0c, N0, b0b, a0d, len0d, cap0d, z0d, a0e, len0e, cap0e, z0e, rfl, w0, w0b, w0c, w0d, w0e⟩ := open_plan Tryz.underlying30 rfl rfl rfl rfl rfl Tryz.underlying3 Tryz.underlying22 Tryz.underlying3 Tryz.underlying28 Tryz.underlying3 Tryz.underlying28 rfl rfl Tryz.underlying26 Tryz.underlying24 rfl rfl Tryz.underlying4 Tryz.underlying24 Tryz.underlying109 (by kernel_rfl) (by kernel_rfl) (by kernel_rfl) (by kernel_rfl) (by kernel_rfl) (by kernel_rfl) (by kernel_rfl) (by kernel_rfl) (by kernel_rfl) (by kernel_rfl) (by kernel_rfl) (by kernel_rfl) (hval 0 30 v0 rfl rfl) h0
  have k1 := h1
  have lt1 : ∀ x ∈ p1, x.block < W.heap.size := by obtain ⟨m, hm⟩ := k1; exact DataW.trod_lt m _ _ _ hm
  obtain ⟨K1, a1, len1, cap1, z1, b1, a1b, len1b, cap1b, z1b, a1c, len1c, cap1c, z1c, N1, b1b, a1d, len1d, cap1d, z1d, a1e, len1e, cap1e, z1e, rfl, w1, w1b, w1c, w1d, w1e⟩ := open_plan Tryz.underlying30 rfl rfl rfl rfl rfl Tryz.underlying3 Tryz.underlying22 Tryz.underlying3 Tryz.underlying28 Tryz.underlying3 Tryz.underlying28 rfl rfl Tryz.underlying26 Tryz.underlying24 rfl rfl Tryz.underlying4 Tryz.underlying24 Tryz.underlying109 (by kernel_rfl) (by kernel_rfl) (by kernel_rfl) (by kernel_rfl) (by kernel_rfl) (by kernel_rfl) (by kernel_rfl) (by kernel_rfl) (by kernel_rfl) (by kernel_rfl) (by kernel_rfl) (by kernel_rfl) (hval 1 30 v1 rfl rfl) h1
  have k2 := h2
  have lt2 : ∀ x ∈ p2, x.block < W.heap.size := by obtain ⟨m, hm⟩ := k2; exact DataW.trod_lt m _ _ _ hm
  obtain ⟨a2, len2, cap2, z2, rfl, w2⟩ : ∃ a len cap zs, v2 = .slice a len cap ∧ RowIn .u8 W a len cap zs := by
    obtain ⟨a, len, cap, rfl⟩ := okWide_slice Tryz.underlying31 (hval 2 31 v2 rfl rfl)
    obtain ⟨fuel, hf⟩ := h2
    exact open_row Tryz.underlying31 Tryz.underlying5 (by kernel_rfl) (c := .slice a len cap) hf
  clear hA0 hval0
  have walk : Calls Tryz.prog 3 #[.agg #[.int .i64 K0, .slice a0 len0 cap0, .bool b0, .slice a0b len0b cap0b, .slice a0c len0c cap0c, .int .i64 N0, .bool b0b, .slice a0d len0d cap0d, .slice a0e len0e cap0e], .agg #[.int .i64 K1, .slice a1 len1 cap1, .bool b1, .slice a1b len1b cap1b, .slice a1c len1c cap1c, .int .i64 N1, .bool b1b, .slice a1d len1d cap1d, .slice a1e len1e cap1e], .slice a2 len2 cap2] W (RetVal W (.bool true)) := planBack_any _ _ _ _ _ _ _ _ _ _ _ _ _ _ _ _ _ _ _ _ _ _ _ _ _ _ _ _ _ _ _ _ _ _ _ _ _ _ _ _ _ _ _ _ _ _ _ _ _ _ _ _ _ (intsAt_row w0) (natAt_row w0b) (natAt_row w0c) (natAt_row w0d) (natAt_row w0e) (intsAt_row w1) (natAt_row w1b) (natAt_row w1c) (natAt_row w1d) (natAt_row w1e) (bytesAt_row w2) hmx
  refine walk.mono fun e W' ⟨he, bel⟩ => ?_
  subst he
  exact ⟨_, rfl, _, _, _, [], _, [], hW', trodAll_mk1 (shut_bool Tryz.underlying4 _), (trodAll_cons_mk (Below.trod laidOut (by kernel_rfl) (of_decide_eq_true (by kernel_rfl)) k0 bel lt0) (trodAll_cons_mk (Below.trod laidOut (by kernel_rfl) (of_decide_eq_true (by kernel_rfl)) k1 bel lt1) (trodAll_cons_mk (Below.trod laidOut (by kernel_rfl) (of_decide_eq_true (by kernel_rfl)) k2 bel lt2) trodAll_mk0))), rfl, bel.frame _, fun h => by cases h⟩

theorem over : Rows.planBackRow.holds Tryz.pinned (OpenSpec.ofChange Rows.planBackSpec) :=
  OpenClaim.holds_of_wide 3 Tryz.f3 rfl rfl rfl rfl rfl rfl rfl ⟨rfl, rfl, rfl, rfl, rfl⟩ rfl rfl rfl rfl rfl (by kernel_rfl) Tryz.func3 (by kernel_rfl)
    (of_decide_eq_true (by kernel_rfl)) (by unfold Func.isWrapper; first | (rw [if_pos (by decide +kernel)]; kernel_rfl) | (rw [if_neg (by decide +kernel)]; exact ⟨rfl, rfl⟩))
    (fun os started H enc _ => lifted os started H enc)

/-- ████ THE STATEMENT ████ -/
theorem proved : Rows.PlanBackCardSaid :=
  Claim7.holds_tied_plain_at .later [] [.data, .pinned] true Rows.planBackCard.stood.harness false over (fun _ h => by cases h) (by kernel_rfl) (fun _ h => by cases h) planBack_row_tie rfl ⟨rfl, rfl⟩ (by kernel_rfl) rfl
    (fun f fn hf hfn => by
      obtain rfl : f = 3 := Option.some.inj ((show Tryz.prog.funcNamed "artesian/artesianlaw27.PlanBack" = some 3 by kernel_rfl).symm.trans hf) |>.symm
      obtain rfl : fn = Tryz.f3 := (Option.some.inj (Tryz.func3.symm.trans hfn)).symm
      exact ⟨by kernel_rfl, fun j t ht => by
        rw [Tryz.params3] at ht
        have hm : t ∈ [30, 30, 31] := by simpa using Array.mem_of_getElem? ht
        have hall : ([30, 30, 31].all fun u => !Tryz.prog.wantsStandIn u) = true := by kernel_rfl
        exact (show Tryz.prog.wantsStandIn t = false by simpa using List.all_eq_true.1 hall t hm)⟩)
    (by kernel_rfl)
end Go.Proofs.YtkhcblihbalnbaaGreatDoor.planBack
