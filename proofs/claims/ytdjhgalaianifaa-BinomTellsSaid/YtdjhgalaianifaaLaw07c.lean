/- the laws of binom: BinomTells. -/
import Derived.Test.YtdjhgalaianifaaLaw07a
import Derived.Test.YtdjhgalaianifaaNats3
import Derived.Deep.RegionWith
import Derived.Test.YtdjhgalaianifaaBinom4
import Derived.Test.YtdjhgalaianifaaKit3
set_option linter.unusedVariables false
set_option linter.unusedSimpArgs false
namespace Go.Proofs.Ytdjhgalaianifaa
open Go.RowKit

theorem far07 (n : Int) (w : World) : Calls Try.prog 41 #[.int .i64 n] w fun e w' => e = .returned (.bool (decide (200 < n ∧ n ≤ 65536))) ∧ w = w' := by
  by_cases h : 200 < n
  · go_enter Try.func41, Try.ntmps41
    go_wp2
    go_ret
    exact ⟨by simp [h], rfl⟩
  · go_enter Try.func41, Try.ntmps41
    go_wp2
    go_ret
    exact ⟨by simp; omega, rfl⟩

set_option maxRecDepth 100000 in
set_option maxHeartbeats 4000000 in
theorem binomTells_far (n k : Int) (w : World) (h : 200 < n ∧ n ≤ 65536) :
    Calls Try.prog 10 #[.int .i64 n, .int .i64 k] w (RetVal w (.bool true)) := by
  have t1 : decide (200 < n ∧ n ≤ 65536) = true := decide_eq_true h
  clear h
  go_enter Try.func10, Try.ntmps10
  have hB := Below.refl w.heap.size w
  go_wp2_with fail
  with_reducible refine (far07 n _).mono ?_
  rintro e w' ⟨rfl, rfl⟩
  go_wp2_with fail
  with_reducible refine (awake07 _).mono ?_
  rintro e w1 ⟨rfl, hb⟩
  have hB := below_later hB hb
  clear hb
  go_wp2
  go_ret
  exact ⟨rfl, hB⟩

set_option maxRecDepth 100000 in
set_option maxHeartbeats 4000000 in
theorem binomTells_bad (n k : Int) (w : World) (h : n < 0 ∨ 65536 < n) :
    Calls Try.prog 10 #[.int .i64 n, .int .i64 k] w (RetVal w (.bool true)) := by
  have t1 : decide (200 < n ∧ n ≤ 65536) = false := decide_eq_false (by omega)
  have HA := Lib.hid h
  have HB : Hid (n < 0 ∨ 65536 < n ∨ k < 0) := Lib.hid (by omega)
  have HC : Hid (n < 0 ∨ 1024 < n) := Lib.hid (by omega)
  clear h
  go_enter Try.func10, Try.ntmps10
  have hB := Below.refl w.heap.size w
  go_wp2_with fail
  with_reducible refine (far07 n _).mono ?_
  rintro e w' ⟨rfl, rfl⟩
  go_wp2_with fail
  with_reducible refine (choose_no n k _ HA.out).mono ?_
  rintro e w1 ⟨rfl, hb⟩
  have hB := below_later hB hb
  clear hb
  go_wp2_with fail
  with_reducible refine (rchoose_no n k _ HA.out).mono ?_
  rintro e w2 ⟨rfl, hb⟩
  have hB := below_later hB hb
  clear hb
  go_wp2_with fail
  with_reducible refine (falling_no n k _ HB.out).mono ?_
  rintro e w3 ⟨rfl, hb⟩
  have hB := below_later hB hb
  clear hb
  go_wp2_with fail
  with_reducible refine (rfalling_no n k _ HB.out).mono ?_
  rintro e w4 ⟨rfl, hb⟩
  have hB := below_later hB hb
  clear hb
  go_wp2_with fail
  with_reducible refine (rowE_no n _ HC.out).mono ?_
  rintro e w5 ⟨rfl, hb⟩
  have hB := below_later hB hb
  clear hb
  go_wp2_with fail
  with_reducible refine (rrowE_no n _ HC.out).mono ?_
  rintro e w6 ⟨rfl, hb⟩
  have hB := below_later hB hb
  clear hb
  go_wp2_with fail
  refine (sameNat_yes (NatAt.nil _) (NatAt.nil _)).mono ?_
  rintro e w7 ⟨rfl, hb⟩
  have hB := below_later hB hb
  clear hb
  go_wp2_with fail
  refine (sameNat_yes (NatAt.nil _) (NatAt.nil _)).mono ?_
  rintro e w8 ⟨rfl, hb⟩
  have hB := below_later hB hb
  clear hb
  go_wp2_with fail
  refine wp_loop_rounds 1 ?_
  rw [rounds_succ]
  go_wp2_with fail
  refine (overNat_turned w8.heap.size 0 none 0 0 _ (OwnAt.nil _ _).writ (.inl rfl)).mono ?_
  rintro e w9 ⟨rfl, _, _, _, hs⟩
  have hb := hs rfl
  have hB := below_later hB hb
  clear hb hs
  go_wp2_with fail
  refine (overNat_turned w9.heap.size 0 none 0 0 _ (OwnAt.nil _ _).writ (.inl rfl)).mono ?_
  rintro e w10 ⟨rfl, _, _, _, hs⟩
  have hb := hs rfl
  have hB := below_later hB hb
  clear hb hs
  go_wp2_with fail
  with_reducible refine (choose_no n k _ HA.out).mono ?_
  rintro e w11 ⟨rfl, hb⟩
  have hB := below_later hB hb
  clear hb
  go_wp2_with fail
  refine (sameNat_yes (NatAt.nil _) (NatAt.nil _)).mono ?_
  rintro e w12 ⟨rfl, hb⟩
  have hB := below_later hB hb
  clear hb
  go_wp2_with fail
  with_reducible refine (awake07 _).mono ?_
  rintro e w13 ⟨rfl, hb⟩
  have hB := below_later hB hb
  clear hb
  go_wp2
  go_ret
  exact ⟨rfl, hB⟩

set_option maxRecDepth 100000 in
set_option maxHeartbeats 4000000 in
theorem binomTells_neg (n : Nat) (k : Int) (w : World) (hn : n ≤ 200) (hk : k < 0) :
    Calls Try.prog 10 #[.int .i64 (n : Int), .int .i64 k] w (RetVal w (.bool true)) := by
  have t1 : decide (200 < (n : Int) ∧ (n : Int) ≤ 65536) = false := decide_eq_false (by omega)
  have HO : Hid (k < 0 ∨ (n : Int) < k) := Lib.hid (.inl hk)
  have HB : Hid ((n : Int) < 0 ∨ 65536 < (n : Int) ∨ k < 0) := Lib.hid (.inr (.inr hk))
  go_enter Try.func10, Try.ntmps10
  have hB := Below.refl w.heap.size w
  go_wp2_with fail
  with_reducible refine (far07 (n : Int) _).mono ?_
  rintro e w' ⟨rfl, rfl⟩
  go_wp2_with fail
  with_reducible refine (choose_out n k _ (by omega) HO.out).mono ?_
  rintro e w1 ⟨rfl, hb⟩
  have hB := below_later hB hb
  clear hb
  go_wp2_with fail
  with_reducible refine (rchoose_out n k _ (by omega) HO.out).mono ?_
  rintro e w2 ⟨rfl, hb⟩
  have hB := below_later hB hb
  clear hb
  go_wp2_with fail
  with_reducible refine (falling_no (n : Int) k _ HB.out).mono ?_
  rintro e w3 ⟨rfl, hb⟩
  have hB := below_later hB hb
  clear hb
  go_wp2_with fail
  with_reducible refine (rfalling_no (n : Int) k _ HB.out).mono ?_
  rintro e w4 ⟨rfl, hb⟩
  have hB := below_later hB hb
  clear hb
  have hB4 := hB
  have hV := Below.refl w4.heap.size w4
  go_wp2_with fail
  with_reducible refine (rowA_yes n _ (by omega)).mono ?_
  rintro e w5 ⟨gR, cR, rfl, hR, hAp, hb⟩
  have hB := below_later hB hb
  have hV := below_later hV hb
  clear hb
  have hRs := hR.rest
  have hAq := hAp
  have hRq := hRs
  have hZ := Below.refl w5.heap.size w5
  go_wp2_with fail
  with_reducible refine (rrowE_yes n _ (by omega)).mono ?_
  rintro e w6 ⟨gM, cM, rfl, hM, hb⟩
  have hRs := hRs.past hb
  have hB := below_later hB hb
  have hV := below_later hV hb
  have hZ := below_later hZ hb
  clear hb
  go_wp2_with fail
  refine (sameNat_yes (NatAt.nil _) (NatAt.nil _)).mono ?_
  rintro e w7 ⟨rfl, hb⟩
  have hRs := hRs.past hb
  have hM := hM.past hb
  have hB := below_later hB hb
  have hV := below_later hV hb
  have hZ := below_later hZ hb
  clear hb
  go_wp2_with fail
  refine (sameNat_yes (NatAt.nil _) (NatAt.nil _)).mono ?_
  rintro e w8 ⟨rfl, hb⟩
  have hRs := hRs.past hb
  have hM := hM.past hb
  have hB := below_later hB hb
  have hV := below_later hV hb
  have hZ := below_later hZ hb
  clear hb
  have hAp := hAq.past hRq hZ
  have hM := hM.mono (Nat.le_refl _)
  obtain ⟨U, hU⟩ : ∃ U, w5.heap.size = U := ⟨_, rfl⟩
  rw [hU] at hRs hM
  have hV2 := hV
  clear hU hAq hRq hZ
  have HW4 : Hid (w.heap.size ≤ w4.heap.size) := Lib.hid (hB4.size)
  have HW4 : Hid (w.heap.size ≤ w4.heap.size) := Lib.hid (hB4.size)
  have HW4 : Hid (w.heap.size ≤ w4.heap.size) := Lib.hid (hB4.size)
  have hkeep : Below w4.heap.size w8 w8 := Below.refl _ _
  go_wp2_with fail
  go_loopw [17, 18] (fun s17 s18 wq => ∃ (x : Nat), x ≤ n + 1 ∧ s17 = .bool true ∧ s18 = .int .i64 ((x : Nat) : Int) ∧ Rest wq w4.heap.size U gR (n + 1) x (bin n) ∧ ApartAt wq gR (n + 1) ∧ Nats wq U gM cM (n + 1) (bin n) ∧ Below w4.heap.size w8 wq) (fun _ s18 _ => n + 1 - (intOf s18).toNat)
  case atStart => exact ⟨0, Nat.zero_le _, rfl, rfl, hRs, hAp, hM, Below.refl _ _⟩
  case round =>
    clear hRs hAp hM hkeep
    obtain ⟨x, hx, rfl, rfl, hRs, hAp, hM, hb⟩ := hrel
    by_cases hlt : x < n + 1
    · obtain ⟨aL, mL, cL, qL, nL, oL'⟩ := hRs.at_ x hlt
      have oL := oL' (Nat.le_refl _)
      clear oL'
      obtain ⟨aM, mM, cM2, qM, oM, _⟩ := hM.get hlt
      have z2 : (0 : Int) ≤ (x : Int) := Int.natCast_nonneg _
      have z3 : (x : Int) < (n : Int) + 1 := by omega
      have z4 : x < n + 1 := hlt
      go_wp2_with fail
      go_region_with (first
        | (go_at_call 19
           go_fit (sameNat_yes (l := bin n x) (oL.past (Below.refl _ _).drew).toNatAt (oM.past (Below.refl _ _).drew).toNatAt)
           rintro e w8 ⟨rfl, hb8⟩))
      all_goals
        have hb9 : Below wr.heap.size wr w8 := below_later (Below.refl wr.heap.size wr).drew hb8
        have qL8 := (hb9.cell (p := ⟨gR, x, none⟩) (World.block_lt_of_cell? wr _ qL)).trans qL
        have oL8 := oL.past hb9
        have hRs8 := hRs.past hb9
        have hAp8 := hAp.past hRs hb9
        have hM8 := hM.past hb9
        have hk8 := hb.trans (hb9.mono (Nat.le_trans hV2.size hb.size))
        have nU : mL = 0 ∨ blockOf aL < U := by
          rcases nL with h' | h'
          · exact .inl h'
          · rcases oL.own with h2 | ⟨b, o, rfl, _, _⟩
            · exact .inl h2
            · exact .inr (h' _ rfl).2
        clear hb8 hb9 oL hRs hAp hM hb qM oM qL
        go_wp2_with fail
        with_reducible refine (overNat_turned w4.heap.size (blockOf aL) _ _ _ _ oL8.writ blockOf_is).mono ?_
        rintro e w9 ⟨rfl, hb9, hd9, ht9, hs9⟩
        obtain ⟨hRs9, hAp9⟩ := hRs8.over hAp8 z4 qL8 oL8 hd9 ht9 hs9
        have hM9 := hM8.afterOver ht9 hs9 nU
        have hk9 := hk8.trans hb9
        clear hRs8 hAp8 hM8 hk8 hb9 hd9 ht9 hs9 oL8 qL8
        go_wp2
        go_roundw
        case measure => simp [intOf] <;> omega
        case rel => exact ⟨x + 1, by omega, rfl, by go_num, hRs9, hAp9, hM9, hk9⟩
    · obtain rfl : x = n + 1 := by omega
      have hV := hV2.trans hb
      have hBr : Below w.heap.size w wr := below_later hB (Below.refl _ _) |>.trans (hb.mono HW4.out)
      clear hRs hAp hM hb hlt hV2
      have hB := hBr
      clear hBr
      go_wp2_with fail
      refine (overNat_turned wr.heap.size 0 none 0 0 _ (OwnAt.nil _ _).writ (.inl rfl)).mono ?_
      rintro e w61 ⟨rfl, _, _, _, hs⟩
      have hb := hs rfl
      have hB := below_later hB hb
      clear hb hs
      go_wp2_with fail
      refine (overNat_turned w61.heap.size 0 none 0 0 _ (OwnAt.nil _ _).writ (.inl rfl)).mono ?_
      rintro e w62 ⟨rfl, _, _, _, hs⟩
      have hb := hs rfl
      have hB := below_later hB hb
      clear hb hs
      go_wp2_with fail
      with_reducible refine (choose_out n k _ (by omega) HO.out).mono ?_
      rintro e w63 ⟨rfl, hb⟩
      have hB := below_later hB hb
      clear hb
      go_wp2_with fail
      refine (sameNat_yes (NatAt.nil _) (NatAt.nil _)).mono ?_
      rintro e w64 ⟨rfl, hb⟩
      have hB := below_later hB hb
      clear hb
      go_wp2_with fail
      with_reducible refine (awake07 _).mono ?_
      rintro e w65 ⟨rfl, hb⟩
      have hB := below_later hB hb
      clear hb
      go_wp2
      go_ret
      exact ⟨rfl, hB⟩

set_option maxRecDepth 100000 in
set_option maxHeartbeats 4000000 in
theorem binomTells_out (n : Nat) (k : Nat) (w : World) (hn : n ≤ 200) (hk : n < k) (hk2 : (k : Int) ≤ 9223372036854775807) :
    Calls Try.prog 10 #[.int .i64 (n : Int), .int .i64 (k : Int)] w (RetVal w (.bool true)) := by
  have t1 : decide (200 < (n : Int) ∧ (n : Int) ≤ 65536) = false := decide_eq_false (by omega)
  have HO : Hid ((k : Int) < 0 ∨ (n : Int) < (k : Int)) := Lib.hid (.inr (by omega))
  go_enter Try.func10, Try.ntmps10
  have hB := Below.refl w.heap.size w
  go_wp2_with fail
  with_reducible refine (far07 (n : Int) _).mono ?_
  rintro e w' ⟨rfl, rfl⟩
  go_wp2_with fail
  with_reducible refine (choose_out n (k : Int) _ (by omega) HO.out).mono ?_
  rintro e w1 ⟨rfl, hb⟩
  have hB := below_later hB hb
  clear hb
  go_wp2_with fail
  with_reducible refine (rchoose_out n (k : Int) _ (by omega) HO.out).mono ?_
  rintro e w2 ⟨rfl, hb⟩
  have hB := below_later hB hb
  have szC := hB.size
  clear hb
  go_wp2_with fail
  with_reducible refine (falling_yes n k _ (by omega) (by omega)).mono ?_
  rintro e w3 ⟨ahC, nhC, chC, rfl, hC, hb⟩
  have hB := below_later hB hb
  clear hb
  have uC := hC.blockGe
  go_wp2_with fail
  with_reducible refine (rfalling_yes n k _ (by omega) (by omega)).mono ?_
  rintro e w4 ⟨ahD, nhD, chD, rfl, hD, hb⟩
  have hC := hC.past hb
  have hB := below_later hB hb
  clear hb
  have hC4 := hC
  have hB4 := hB
  have HC2 : Hid (w.heap.size ≤ w2.heap.size) := Lib.hid szC
  have hV := Below.refl w4.heap.size w4
  go_wp2_with fail
  with_reducible refine (rowA_yes n _ (by omega)).mono ?_
  rintro e w5 ⟨gR, cR, rfl, hR, hAp, hb⟩
  have hC := hC.past hb
  have hD := hD.past hb
  have hB := below_later hB hb
  have hV := below_later hV hb
  clear hb
  have hRs := hR.rest
  have hAq := hAp
  have hRq := hRs
  have hZ := Below.refl w5.heap.size w5
  go_wp2_with fail
  with_reducible refine (rrowE_yes n _ (by omega)).mono ?_
  rintro e w6 ⟨gM, cM, rfl, hM, hb⟩
  have hC := hC.past hb
  have hD := hD.past hb
  have hRs := hRs.past hb
  have hB := below_later hB hb
  have hV := below_later hV hb
  have hZ := below_later hZ hb
  clear hb
  go_wp2_with fail
  refine (sameNat_yes (NatAt.nil _) (NatAt.nil _)).mono ?_
  rintro e w7 ⟨rfl, hb⟩
  have hC := hC.past hb
  have hD := hD.past hb
  have hRs := hRs.past hb
  have hM := hM.past hb
  have hB := below_later hB hb
  have hV := below_later hV hb
  have hZ := below_later hZ hb
  clear hb
  go_wp2_with fail
  with_reducible refine (sameNat_yes hC.toNatAt hD.toNatAt).mono ?_
  rintro e w8 ⟨rfl, hb⟩
  have hC := hC.past hb
  have hD := hD.past hb
  have hRs := hRs.past hb
  have hM := hM.past hb
  have hB := below_later hB hb
  have hV := below_later hV hb
  have hZ := below_later hZ hb
  clear hb
  have hAp := hAq.past hRq hZ
  have hM := hM.mono (Nat.le_refl _)
  obtain ⟨U, hU⟩ : ∃ U, w5.heap.size = U := ⟨_, rfl⟩
  rw [hU] at hRs hM
  have hV2 := hV
  clear hU hAq hRq hZ
  have HW4 : Hid (w.heap.size ≤ w4.heap.size) := Lib.hid (hB4.size)
  have HW4 : Hid (w.heap.size ≤ w4.heap.size) := Lib.hid (hB4.size)
  have hkeep : Below w4.heap.size w8 w8 := Below.refl _ _
  go_wp2_with fail
  go_loopw [17, 18] (fun s17 s18 wq => ∃ (x : Nat), x ≤ n + 1 ∧ s17 = .bool true ∧ s18 = .int .i64 ((x : Nat) : Int) ∧ Rest wq w4.heap.size U gR (n + 1) x (bin n) ∧ ApartAt wq gR (n + 1) ∧ Nats wq U gM cM (n + 1) (bin n) ∧ Below w4.heap.size w8 wq) (fun _ s18 _ => n + 1 - (intOf s18).toNat)
  case atStart => exact ⟨0, Nat.zero_le _, rfl, rfl, hRs, hAp, hM, Below.refl _ _⟩
  case round =>
    clear hRs hAp hM hkeep
    obtain ⟨x, hx, rfl, rfl, hRs, hAp, hM, hb⟩ := hrel
    by_cases hlt : x < n + 1
    · obtain ⟨aL, mL, cL, qL, nL, oL'⟩ := hRs.at_ x hlt
      have oL := oL' (Nat.le_refl _)
      clear oL'
      obtain ⟨aM, mM, cM2, qM, oM, _⟩ := hM.get hlt
      have z2 : (0 : Int) ≤ (x : Int) := Int.natCast_nonneg _
      have z3 : (x : Int) < (n : Int) + 1 := by omega
      have z4 : x < n + 1 := hlt
      go_wp2_with fail
      go_region_with (first
        | (go_at_call 19
           go_fit (sameNat_yes (l := bin n x) (oL.past (Below.refl _ _).drew).toNatAt (oM.past (Below.refl _ _).drew).toNatAt)
           rintro e w8 ⟨rfl, hb8⟩))
      all_goals
        have hb9 : Below wr.heap.size wr w8 := below_later (Below.refl wr.heap.size wr).drew hb8
        have qL8 := (hb9.cell (p := ⟨gR, x, none⟩) (World.block_lt_of_cell? wr _ qL)).trans qL
        have oL8 := oL.past hb9
        have hRs8 := hRs.past hb9
        have hAp8 := hAp.past hRs hb9
        have hM8 := hM.past hb9
        have hk8 := hb.trans (hb9.mono (Nat.le_trans hV2.size hb.size))
        have nU : mL = 0 ∨ blockOf aL < U := by
          rcases nL with h' | h'
          · exact .inl h'
          · rcases oL.own with h2 | ⟨b, o, rfl, _, _⟩
            · exact .inl h2
            · exact .inr (h' _ rfl).2
        clear hb8 hb9 oL hRs hAp hM hb qM oM qL
        go_wp2_with fail
        with_reducible refine (overNat_turned w4.heap.size (blockOf aL) _ _ _ _ oL8.writ blockOf_is).mono ?_
        rintro e w9 ⟨rfl, hb9, hd9, ht9, hs9⟩
        obtain ⟨hRs9, hAp9⟩ := hRs8.over hAp8 z4 qL8 oL8 hd9 ht9 hs9
        have hM9 := hM8.afterOver ht9 hs9 nU
        have hk9 := hk8.trans hb9
        clear hRs8 hAp8 hM8 hk8 hb9 hd9 ht9 hs9 oL8 qL8
        go_wp2
        go_roundw
        case measure => simp [intOf] <;> omega
        case rel => exact ⟨x + 1, by omega, rfl, by go_num, hRs9, hAp9, hM9, hk9⟩
    · obtain rfl : x = n + 1 := by omega
      have hV := hV2.trans hb
      have hBr : Below w.heap.size w wr := below_later hB (Below.refl _ _) |>.trans (hb.mono HW4.out)
      clear hRs hAp hM hb hlt hV2
      have hC := hC4.past hV
      have hB := hBr
      clear hBr
      go_wp2_with fail
      refine (overNat_turned wr.heap.size 0 none 0 0 _ (OwnAt.nil _ _).writ (.inl rfl)).mono ?_
      rintro e w61 ⟨rfl, _, _, _, hs⟩
      have hb := hs rfl
      have hC := hC.past hb
      have hB := below_later hB hb
      clear hb hs
      go_wp2_with fail
      with_reducible refine (overNat_turned _ (blockOf ahC) _ _ _ _ hC.writ blockOf_is).mono ?_
      rintro e w62 ⟨rfl, hb, hd, ht, hs⟩
      have hB := hB.trans (hb.mono HC2.out)
      clear hC hb hd ht hs
      go_wp2_with fail
      with_reducible refine (choose_out n (k : Int) _ (by omega) HO.out).mono ?_
      rintro e w63 ⟨rfl, hb⟩
      have hB := below_later hB hb
      clear hb
      go_wp2_with fail
      refine (sameNat_yes (NatAt.nil _) (NatAt.nil _)).mono ?_
      rintro e w64 ⟨rfl, hb⟩
      have hB := below_later hB hb
      clear hb
      go_wp2_with fail
      with_reducible refine (awake07 _).mono ?_
      rintro e w65 ⟨rfl, hb⟩
      have hB := below_later hB hb
      clear hb
      go_wp2
      go_ret
      exact ⟨rfl, hB⟩

set_option maxRecDepth 100000 in
set_option maxHeartbeats 4000000 in
theorem binomTells_in (n : Nat) (k : Nat) (w : World) (hn : n ≤ 200) (hk : k ≤ n) :
    Calls Try.prog 10 #[.int .i64 (n : Int), .int .i64 (k : Int)] w (RetVal w (.bool true)) := by
  have t1 : decide (200 < (n : Int) ∧ (n : Int) ≤ 65536) = false := decide_eq_false (by omega)
  go_enter Try.func10, Try.ntmps10
  have hB := Below.refl w.heap.size w
  go_wp2_with fail
  with_reducible refine (far07 (n : Int) _).mono ?_
  rintro e w' ⟨rfl, rfl⟩
  go_wp2_with fail
  with_reducible refine (choose_in n k _ (by omega) hk).mono ?_
  rintro e w1 ⟨ahA, nhA, chA, rfl, hA, hb⟩
  have hB := below_later hB hb
  clear hb
  have uA := hA.blockLt
  go_wp2_with fail
  with_reducible refine (rchoose_in n k _ (by omega) hk).mono ?_
  rintro e w2 ⟨ahY, nhY, chY, rfl, hY, hb⟩
  have szAC := hb.size
  have hA := hA.past hb
  have hB := below_later hB hb
  have szC := hB.size
  clear hb
  have vY := hY.ltBlock
  go_wp2_with fail
  with_reducible refine (falling_yes n k _ (by omega) (by omega)).mono ?_
  rintro e w3 ⟨ahC, nhC, chC, rfl, hC, hb⟩
  have hA := hA.past hb
  have hY := hY.past hb
  have hB := below_later hB hb
  clear hb
  have uC := hC.blockGe
  go_wp2_with fail
  with_reducible refine (rfalling_yes n k _ (by omega) (by omega)).mono ?_
  rintro e w4 ⟨ahD, nhD, chD, rfl, hD, hb⟩
  have hA := hA.past hb
  have hY := hY.past hb
  have hC := hC.past hb
  have hB := below_later hB hb
  clear hb
  have hA4 := hA
  have hY4 := hY
  have hC4 := hC
  have hB4 := hB
  have hAC : Hid (w1.heap.size ≤ w2.heap.size) := Lib.hid szAC
  have HC2 : Hid (w.heap.size ≤ w2.heap.size) := Lib.hid szC
  have hV := Below.refl w4.heap.size w4
  go_wp2_with fail
  with_reducible refine (rowA_yes n _ (by omega)).mono ?_
  rintro e w5 ⟨gR, cR, rfl, hR, hAp, hb⟩
  have hA := hA.past hb
  have hY := hY.past hb
  have hC := hC.past hb
  have hD := hD.past hb
  have hB := below_later hB hb
  have hV := below_later hV hb
  clear hb
  have hRs := hR.rest
  have hAq := hAp
  have hRq := hRs
  have hZ := Below.refl w5.heap.size w5
  go_wp2_with fail
  with_reducible refine (rrowE_yes n _ (by omega)).mono ?_
  rintro e w6 ⟨gM, cM, rfl, hM, hb⟩
  have hA := hA.past hb
  have hY := hY.past hb
  have hC := hC.past hb
  have hD := hD.past hb
  have hRs := hRs.past hb
  have hB := below_later hB hb
  have hV := below_later hV hb
  have hZ := below_later hZ hb
  clear hb
  go_wp2_with fail
  with_reducible refine (sameNat_yes hA.toNatAt hY.toNatAt).mono ?_
  rintro e w7 ⟨rfl, hb⟩
  have hA := hA.past hb
  have hY := hY.past hb
  have hC := hC.past hb
  have hD := hD.past hb
  have hRs := hRs.past hb
  have hM := hM.past hb
  have hB := below_later hB hb
  have hV := below_later hV hb
  have hZ := below_later hZ hb
  clear hb
  go_wp2_with fail
  with_reducible refine (sameNat_yes hC.toNatAt hD.toNatAt).mono ?_
  rintro e w8 ⟨rfl, hb⟩
  have hA := hA.past hb
  have hY := hY.past hb
  have hC := hC.past hb
  have hD := hD.past hb
  have hRs := hRs.past hb
  have hM := hM.past hb
  have hB := below_later hB hb
  have hV := below_later hV hb
  have hZ := below_later hZ hb
  clear hb
  have hAp := hAq.past hRq hZ
  have hM := hM.mono (Nat.le_refl _)
  obtain ⟨U, hU⟩ : ∃ U, w5.heap.size = U := ⟨_, rfl⟩
  rw [hU] at hRs hM
  have hV2 := hV
  clear hU hAq hRq hZ
  have HW4 : Hid (w.heap.size ≤ w4.heap.size) := Lib.hid (hB4.size)
  have hkeep : Below w4.heap.size w8 w8 := Below.refl _ _
  go_wp2_with fail
  go_loopw [17, 18] (fun s17 s18 wq => ∃ (x : Nat), x ≤ n + 1 ∧ s17 = .bool true ∧ s18 = .int .i64 ((x : Nat) : Int) ∧ Rest wq w4.heap.size U gR (n + 1) x (bin n) ∧ ApartAt wq gR (n + 1) ∧ Nats wq U gM cM (n + 1) (bin n) ∧ Below w4.heap.size w8 wq) (fun _ s18 _ => n + 1 - (intOf s18).toNat)
  case atStart => exact ⟨0, Nat.zero_le _, rfl, rfl, hRs, hAp, hM, Below.refl _ _⟩
  case round =>
    clear hRs hAp hM hkeep
    obtain ⟨x, hx, rfl, rfl, hRs, hAp, hM, hb⟩ := hrel
    by_cases hlt : x < n + 1
    · obtain ⟨aL, mL, cL, qL, nL, oL'⟩ := hRs.at_ x hlt
      have oL := oL' (Nat.le_refl _)
      clear oL'
      obtain ⟨aM, mM, cM2, qM, oM, _⟩ := hM.get hlt
      have z2 : (0 : Int) ≤ (x : Int) := Int.natCast_nonneg _
      have z3 : (x : Int) < (n : Int) + 1 := by omega
      have z4 : x < n + 1 := hlt
      go_wp2_with fail
      go_region_with (first
        | (go_at_call 19
           go_fit (sameNat_yes (l := bin n x) (oL.past (Below.refl _ _).drew).toNatAt (oM.past (Below.refl _ _).drew).toNatAt)
           rintro e w8 ⟨rfl, hb8⟩))
      all_goals
        have hb9 : Below wr.heap.size wr w8 := below_later (Below.refl wr.heap.size wr).drew hb8
        have qL8 := (hb9.cell (p := ⟨gR, x, none⟩) (World.block_lt_of_cell? wr _ qL)).trans qL
        have oL8 := oL.past hb9
        have hRs8 := hRs.past hb9
        have hAp8 := hAp.past hRs hb9
        have hM8 := hM.past hb9
        have hk8 := hb.trans (hb9.mono (Nat.le_trans hV2.size hb.size))
        have nU : mL = 0 ∨ blockOf aL < U := by
          rcases nL with h' | h'
          · exact .inl h'
          · rcases oL.own with h2 | ⟨b, o, rfl, _, _⟩
            · exact .inl h2
            · exact .inr (h' _ rfl).2
        clear hb8 hb9 oL hRs hAp hM hb qM oM qL
        go_wp2_with fail
        with_reducible refine (overNat_turned w4.heap.size (blockOf aL) _ _ _ _ oL8.writ blockOf_is).mono ?_
        rintro e w9 ⟨rfl, hb9, hd9, ht9, hs9⟩
        obtain ⟨hRs9, hAp9⟩ := hRs8.over hAp8 z4 qL8 oL8 hd9 ht9 hs9
        have hM9 := hM8.afterOver ht9 hs9 nU
        have hk9 := hk8.trans hb9
        clear hRs8 hAp8 hM8 hk8 hb9 hd9 ht9 hs9 oL8 qL8
        go_wp2
        go_roundw
        case measure => simp [intOf] <;> omega
        case rel => exact ⟨x + 1, by omega, rfl, by go_num, hRs9, hAp9, hM9, hk9⟩
    · obtain rfl : x = n + 1 := by omega
      have hV := hV2.trans hb
      have hBr : Below w.heap.size w wr := below_later hB (Below.refl _ _) |>.trans (hb.mono HW4.out)
      clear hRs hAp hM hb hlt hV2
      have hA := hA4.past hV
      have hY := hY4.past hV
      have hC := hC4.past hV
      have hB := hBr
      clear hBr
      go_wp2_with fail
      with_reducible refine (overNat_turned _ (blockOf ahA) _ _ _ _ hA.writ blockOf_is).mono ?_
      rintro e w61 ⟨rfl, hb, hd, ht, hs⟩
      have hY := hY.afterOver ht hs uA
      have hC := hC.afterOver ht hs (uA.imp id fun h => Nat.lt_of_lt_of_le h hAC.out)
      have hB := hB.trans (hb.mono (Nat.le_refl _))
      clear hA hb hd ht hs
      go_wp2_with fail
      with_reducible refine (overNat_turned _ (blockOf ahC) _ _ _ _ hC.writ blockOf_is).mono ?_
      rintro e w62 ⟨rfl, hb, hd, ht, hs⟩
      have hY := hY.beforeOver ht hs uC vY
      have hB := hB.trans (hb.mono HC2.out)
      clear hC hb hd ht hs
      go_wp2_with fail
      with_reducible refine (choose_in n k _ (by omega) hk).mono ?_
      rintro e w63 ⟨ahE, nhE, chE, rfl, hE, hb⟩
      have hY := hY.past hb
      have hB := below_later hB hb
      clear hb
      go_wp2_with fail
      with_reducible refine (sameNat_yes hE.toNatAt hY.toNatAt).mono ?_
      rintro e w64 ⟨rfl, hb⟩
      have hY := hY.past hb
      have hE := hE.past hb
      have hB := below_later hB hb
      clear hb
      go_wp2_with fail
      with_reducible refine (awake07 _).mono ?_
      rintro e w65 ⟨rfl, hb⟩
      have hY := hY.past hb
      have hE := hE.past hb
      have hB := below_later hB hb
      clear hb
      go_wp2
      go_ret
      exact ⟨rfl, hB⟩

theorem binomTells_any (n k : Int) (w : World) (b1 : -9223372036854775808 ≤ n) (b2 : n ≤ 9223372036854775807) (b3 : -9223372036854775808 ≤ k) (b4 : k ≤ 9223372036854775807) :
    Calls Try.prog 10 #[.int .i64 n, .int .i64 k] w (RetVal w (.bool true)) := by
  by_cases h1 : 200 < n ∧ n ≤ 65536
  · exact binomTells_far n k w h1
  · by_cases h2 : n < 0 ∨ 65536 < n
    · exact binomTells_bad n k w h2
    · obtain ⟨n, rfl⟩ := Int.eq_ofNat_of_zero_le (show 0 ≤ n by omega)
      by_cases h3 : k < 0
      · exact binomTells_neg n k w (by omega) h3
      · obtain ⟨k, rfl⟩ := Int.eq_ofNat_of_zero_le (show 0 ≤ k by omega)
        by_cases h4 : n < k
        · exact binomTells_out n k w (by omega) h4 b4
        · exact binomTells_in n k w (by omega) (by omega)

end Go.Proofs.Ytdjhgalaianifaa
