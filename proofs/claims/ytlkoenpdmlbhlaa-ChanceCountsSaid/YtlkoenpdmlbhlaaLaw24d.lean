/- the laws of chance: ChanceCounts. -/
import Derived.Test.YtlkoenpdmlbhlaaChanQ
set_option linter.unusedVariables false
set_option linter.unusedSimpArgs false
namespace Go.Proofs.Ytlkoenpdmlbhlaa
open Go.RowKit

theorem clr_bits : ∀ s, s < 64 → ∀ e, e < 6 → Go.bits .andNot .i64 ((s : Nat) : Int) ((2 ^ e : Nat) : Int) = ((clr s e : Nat) : Int) := by decide +kernel

set_option maxRecDepth 100000 in
set_option maxHeartbeats 32000000 in
theorem counts_far (a : Option Addr) (n c : Nat) (zs : List Int) (k u j : Int) (K U J : Nat) (w : World) (g : IntsAt w a n c zs) (hx : -9223372036854775808 ≤ k ∧ k ≤ 9223372036854775807) (hy : -9223372036854775808 ≤ u ∧ u ≤ 9223372036854775807) (hj : -9223372036854775808 ≤ j ∧ j ≤ 9223372036854775807)
    (hK : pickI k 6 + 1 = (K : Int)) (hK1 : 1 ≤ K) (hK2 : K ≤ 6) (hU : pickI u (K : Int) + 1 = (U : Int)) (hU1 : 1 ≤ U) (hU2 : U ≤ K) (hJ : pickI j ((U : Int) + 1) = (J : Int)) (hJ2 : J ≤ U) (hn : 6 < n) :
    Calls Try.prog 7 #[.slice a n c, .int .i64 k, .int .i64 u, .int .i64 j] w (RetVal w (.bool true)) := by
  have hcl : c ≤ 9223372036854775807 := by have h1 := g.cle; simp only [maxLen] at h1; omega
  have hle := g.le
  have HJJ := Lib.hid hJ
  have tA : decide (6 < n) = true := decide_eq_true hn
  clear hJ
  go_enter Try.func7, Try.ntmps7
  have hB := Below.refl w.heap.size w
  go_wp2_with fail
  with_reducible refine (chanceKnown_any _).mono ?_
  rintro e w1 ⟨rfl, hb⟩
  have g := g.past hb
  have hB := below_later hB hb
  clear hb
  go_wp2_with fail
  with_reducible refine (pick_any _ _ _ hx.1 hx.2 (by decide)).mono ?_
  rintro e w' ⟨rfl, rfl⟩
  obtain ⟨P, hP⟩ : ∃ P, pickI k 6 = P := ⟨_, rfl⟩
  have HP := Lib.hid hP
  rw [hP] at hK ⊢
  clear hP
  have hPK : 1 + P = (K : Int) := by omega
  go_wp2_with fail
  with_reducible refine (pick_any _ _ _ hy.1 hy.2 (by omega)).mono ?_
  rintro e w' ⟨rfl, rfl⟩
  obtain ⟨P2, hP2⟩ : ∃ P, pickI u (K : Int) = P := ⟨_, rfl⟩
  have HP2 := Lib.hid hP2
  rw [hP2] at hU ⊢
  clear hP2
  have hPU : 1 + P2 = (U : Int) := by omega
  go_wp2_with fail
  with_reducible refine (pick_any _ _ _ hj.1 hj.2 (by omega)).mono ?_
  rintro e w' ⟨rfl, rfl⟩
  rw [HJJ.out]
  go_wp2
  go_ret
  exact ⟨rfl, hB⟩

set_option maxRecDepth 100000 in
set_option maxHeartbeats 32000000 in
theorem counts_bad (a : Option Addr) (n c : Nat) (zs : List Int) (k u j : Int) (K U J : Nat) (w : World) (g : IntsAt w a n c zs) (hx : -9223372036854775808 ≤ k ∧ k ≤ 9223372036854775807) (hy : -9223372036854775808 ≤ u ∧ u ≤ 9223372036854775807) (hj : -9223372036854775808 ≤ j ∧ j ≤ 9223372036854775807)
    (hK : pickI k 6 + 1 = (K : Int)) (hK1 : 1 ≤ K) (hK2 : K ≤ 6) (hU : pickI u (K : Int) + 1 = (U : Int)) (hU1 : 1 ≤ U) (hU2 : U ≤ K) (hJ : pickI j ((U : Int) + 1) = (J : Int)) (hJ2 : J ≤ U) (hn : n ≤ 6) (hok : ¬ okT zs (K : Int)) :
    Calls Try.prog 7 #[.slice a n c, .int .i64 k, .int .i64 u, .int .i64 j] w (RetVal w (.bool true)) := by
  have hcl : c ≤ 9223372036854775807 := by have h1 := g.cle; simp only [maxLen] at h1; omega
  have hle := g.le
  have HJJ := Lib.hid hJ
  have tA : decide (6 < n) = false := decide_eq_false (by omega)
  have HC := Lib.hid (chkT_no hok)
  clear hJ hok
  go_enter Try.func7, Try.ntmps7
  have hB := Below.refl w.heap.size w
  go_wp2_with fail
  with_reducible refine (chanceKnown_any _).mono ?_
  rintro e w1 ⟨rfl, hb⟩
  have g := g.past hb
  have hB := below_later hB hb
  clear hb
  go_wp2_with fail
  with_reducible refine (pick_any _ _ _ hx.1 hx.2 (by decide)).mono ?_
  rintro e w' ⟨rfl, rfl⟩
  obtain ⟨P, hP⟩ : ∃ P, pickI k 6 = P := ⟨_, rfl⟩
  have HP := Lib.hid hP
  rw [hP] at hK ⊢
  clear hP
  have hPK : 1 + P = (K : Int) := by omega
  go_wp2_with fail
  with_reducible refine (pick_any _ _ _ hy.1 hy.2 (by omega)).mono ?_
  rintro e w' ⟨rfl, rfl⟩
  obtain ⟨P2, hP2⟩ : ∃ P, pickI u (K : Int) = P := ⟨_, rfl⟩
  have HP2 := Lib.hid hP2
  rw [hP2] at hU ⊢
  clear hP2
  have hPU : 1 + P2 = (U : Int) := by omega
  go_wp2_with fail
  with_reducible refine (pick_any _ _ _ hj.1 hj.2 (by omega)).mono ?_
  rintro e w' ⟨rfl, rfl⟩
  rw [HJJ.out]
  go_wp2_with fail
  with_reducible refine (soliCheck_any _ _ _ zs (K : Int) _ g).mono ?_
  rintro e w2 ⟨rfl, hb⟩
  have g := g.past hb
  have hB := below_later hB hb
  clear hb
  rw [HC.out]
  go_wp2
  go_ret
  exact ⟨rfl, hB⟩

set_option maxRecDepth 100000 in
set_option maxHeartbeats 32000000 in
theorem counts_main (a : Option Addr) (n c : Nat) (zs : List Int) (k u j : Int) (K U J : Nat) (w : World) (g : IntsAt w a n c zs) (hx : -9223372036854775808 ≤ k ∧ k ≤ 9223372036854775807) (hy : -9223372036854775808 ≤ u ∧ u ≤ 9223372036854775807) (hj : -9223372036854775808 ≤ j ∧ j ≤ 9223372036854775807)
    (hK : pickI k 6 + 1 = (K : Int)) (hK1 : 1 ≤ K) (hK2 : K ≤ 6) (hU : pickI u (K : Int) + 1 = (U : Int)) (hU1 : 1 ≤ U) (hU2 : U ≤ K) (hJ : pickI j ((U : Int) + 1) = (J : Int)) (hJ2 : J ≤ U) (hn : n ≤ 6) (hok : okT zs (K : Int)) :
    Calls Try.prog 7 #[.slice a n c, .int .i64 k, .int .i64 u, .int .i64 j] w (RetVal w (.bool true)) := by
  have hcl : c ≤ 9223372036854775807 := by have h1 := g.cle; simp only [maxLen] at h1; omega
  have hle := g.le
  have HJJ := Lib.hid hJ
  have tA : decide (6 < n) = false := decide_eq_false (by omega)
  have HC := Lib.hid (chkT_yes hok)
  have HOK := Lib.hid hok
  have hpw : 2 ^ K ≤ 64 := by have := Nat.pow_le_pow_right (n := 2) (by decide) hK2; simpa using this
  have hpw1 : 2 ≤ 2 ^ K := by have := Nat.pow_le_pow_right (n := 2) (by decide) hK1; simpa using this
  obtain ⟨N, hN⟩ : ∃ N, 2 ^ K = N := ⟨_, rfl⟩
  have hjs := just_sum hok hK2 hU2 hJ2
  have hpn := part_none hok hK2 hU2
  have hps := part_some hok hK2 hU2
  rw [hN] at hjs hpn hps hpw hpw1
  have HG := Lib.hid g
  have HN := Lib.hid hN
  have HJS := Lib.hid hjs
  have HPN := Lib.hid hpn
  have HPS := Lib.hid hps
  clear hJ hok hjs hpn hps
  go_enter Try.func7, Try.ntmps7
  have hB := Below.refl w.heap.size w
  go_wp2_with fail
  with_reducible refine (chanceKnown_any _).mono ?_
  rintro e w1 ⟨rfl, hb⟩
  have g := g.past hb
  have hB := below_later hB hb
  clear hb
  go_wp2_with fail
  with_reducible refine (pick_any _ _ _ hx.1 hx.2 (by decide)).mono ?_
  rintro e w' ⟨rfl, rfl⟩
  obtain ⟨P, hP⟩ : ∃ P, pickI k 6 = P := ⟨_, rfl⟩
  have HP := Lib.hid hP
  rw [hP] at hK ⊢
  clear hP
  have hPK : 1 + P = (K : Int) := by omega
  go_wp2_with fail
  with_reducible refine (pick_any _ _ _ hy.1 hy.2 (by omega)).mono ?_
  rintro e w' ⟨rfl, rfl⟩
  obtain ⟨P2, hP2⟩ : ∃ P, pickI u (K : Int) = P := ⟨_, rfl⟩
  have HP2 := Lib.hid hP2
  rw [hP2] at hU ⊢
  clear hP2
  have hPU : 1 + P2 = (U : Int) := by omega
  go_wp2_with fail
  with_reducible refine (pick_any _ _ _ hj.1 hj.2 (by omega)).mono ?_
  rintro e w' ⟨rfl, rfl⟩
  rw [HJJ.out]
  go_wp2_with fail
  with_reducible refine (soliCheck_any _ _ _ zs (K : Int) _ g).mono ?_
  rintro e w2 ⟨rfl, hb⟩
  have g := g.past hb
  have hB := below_later hB hb
  clear hb
  rw [HC.out]
  go_wp2_with fail
  clear g
  go_loopw [10, 11, 12] (fun v1 v2 i wr => ∃ (m : Nat) (x1 x2 : Value), x1 = v1 ∧ x2 = v2 ∧ m + 1 ≤ N ∧ RatsA wr w.heap.size v1 (justL zs K U J m) v2.ownBlock ∧ RatsA wr w.heap.size v2 (leftL zs K U m) v1.ownBlock ∧ i = .int .i64 ((m : Int) + 1) ∧ Below w.heap.size w wr) (fun _ _ i _ => N - (intOf i).toNat)
  case atStart => exact ⟨0, _, _, rfl, rfl, by omega, RatsA.nil _ _ _, RatsA.nil _ _ _, rfl, hB⟩
  case round =>
    clear hB
    obtain ⟨m, v1, v2, rfl, rfl, hm, hv1, hv2, rfl, hB⟩ := hrel
    have g := HG.out.past hB
    have hW : wrap64 ((2 : Int) ^ K) = (N : Int) := by
      have e : (2 : Int) ^ K = ((2 ^ K : Nat) : Int) := by simp
      rw [e, HN.out]
      unfold wrap64
      omega
    have HW := Lib.hid hW
    clear hN hW
    obtain ⟨s, hs⟩ : ∃ s, m + 1 = s := ⟨_, rfl⟩
    have hsI : (m : Int) + 1 = (s : Int) := by omega
    have HS1 := Lib.hid hs
    by_cases hlt : s < N
    · have tl : decide ((s : Int) < (N : Int)) = true := decide_eq_true (by omega)
      have hwg := fun w g => weigh24 a n c zs K s w g HOK.out (by omega) hK2
      obtain ⟨Q, hQ⟩ : ∃ Q, weighQ zs K s = Q := ⟨_, rfl⟩
      simp only [hQ] at hwg
      have HWG := Lib.hid hwg
      have HQ := Lib.hid hQ
      have hmt := fun w => met24 s U w (by omega) (by omega)
      obtain ⟨M, hM⟩ : ∃ M, metN s U = M := ⟨_, rfl⟩
      simp only [hM] at hmt
      have HMT := Lib.hid hmt
      have HM := Lib.hid hM
      have hr0 := Below.refl wr.heap.size wr
      have hjl : justL zs K U J (m + 1) = if M = J then justL zs K U J m ++ [Q] else justL zs K U J m := by
        show (if metN (m + 1) U = J then justL zs K U J m ++ [weighQ zs K (m + 1)] else justL zs K U J m) = _
        rw [hs, hM, hQ]
      have hll : leftL zs K U (m + 1) = leftL zs K U m ++ List.replicate (if 2 ≤ M then hitN s U U else 0) Q := by
        show leftL zs K U m ++ List.replicate (leftN (m + 1) U) (weighQ zs K (m + 1)) = _
        unfold leftN
        rw [hs, hM, hQ]
      have HJL := Lib.hid hjl
      have HLL := Lib.hid hll
      have HS64 := Lib.hid (show s < 64 by omega)
      have hlj := justL_len zs K U J m
      have hl6 : (leftL zs K U m).length ≤ 400 := Nat.le_trans (leftL_len zs K U m) (Nat.le_trans (Nat.mul_le_mul (show m ≤ 64 by omega) (show U ≤ 6 by omega)) (by decide))
      have hl1 := hv1.lt
      have hl2 := hv2.lt
      clear hwg hQ hmt hM hs hjl hll
      by_cases hJM : M = J
      · have tj : ((M : Int) == (J : Int)) = true := by simp [hJM]
        have hBs := hB.size
        go_wp2_with fail
        rotate_left
        · exfalso
          have h9 : wrap64 ((2 : Int) ^ K) ≤ (s : Int) := by assumption
          rw [HW.out] at h9
          omega
        refine (HWG.out _ g).mono ?_
        rintro e w3 ⟨ahQU, nhQU, chQU, ahQD, nhQD, chQD, rfl, hQU, hQD, hb⟩
        have g := g.past hb
        have hv1 := hv1.past hb
        have hv2 := hv2.past hb
        have hB := below_later hB hb
        have hr0 := below_later hr0 hb
        clear hb
        have f1U := OffO.ge hQU fun k e => (hl1 k e).2
        have f1D := OffO.ge hQD fun k e => (hl1 k e).2
        have f2U := OffO.ge hQU fun k e => (hl2 k e).2
        have f2D := OffO.ge hQD fun k e => (hl2 k e).2
        have hQU := hQU.mono hBs
        have hQD := hQD.mono hBs
        have hrs := hr0.size
        go_wp2_with fail
        obtain ⟨w4, hW, hz0, hb, q, f⟩ := box1g w3 (w3.heap.size) (by omega) #[.bool (neg (Q).num), .slice ahQU nhQU chQU, .slice ahQD nhQD chQD] 36
        rw [hW]
        clear hW
        have hv1 := hv1.past hb
        have hv2 := hv2.past hb
        have hQU := hQU.past hb
        have hQD := hQD.past hb
        have hB := below_later hB hb
        have hr0 := below_later hr0 hb
        clear hb
        have lb : w3.heap.size < w4.heap.size := by omega
        have qb0 := q 0; have qb1 := q 1; have qb2 := q 2
        simp only [List.getElem?_toArray, List.getElem?_cons_zero, List.getElem?_cons_succ] at qb0 qb1 qb2
        clear q f
        clear hz0
        with_reducible refine (HMT.out _).mono ?_
        rintro e w5 ⟨rfl, hb⟩
        have hv1 := hv1.past hb
        have hv2 := hv2.past hb
        have hQU := hQU.past hb
        have hQD := hQD.past hb
        have qb0 := bq hb lb qb0; have qb1 := bq hb lb qb1; have qb2 := bq hb lb qb2
        have lb := bl hb lb
        have hB := below_later hB hb
        have hr0 := below_later hr0 hb
        clear hb
        obtain ⟨bb, hbb⟩ : ∃ bb, w3.heap.size = bb := ⟨_, rfl⟩
        have nb1 : v1.ownBlock ≠ some bb := fun e => by have := (hl1 bb e).2; omega
        have nb2 : v2.ownBlock ≠ some bb := fun e => by have := (hl2 bb e).2; omega
        rw [hbb] at qb0 qb1 qb2 lb ⊢
        clear hbb hr0
        have hal : Below w5.heap.size w5 (w5.alloc (.cells #[.bool (neg Q.num), .slice ahQU nhQU chQU, .slice ahQD nhQD chQD] 36)) := (Below.refl _ _).alloc (Nat.le_refl _) _
        have y0 : (w5.alloc (.cells #[.bool (neg Q.num), .slice ahQU nhQU chQU, .slice ahQD nhQD chQD] 36)).cell? ⟨w5.heap.size, 0, none⟩ = some (.bool (neg Q.num)) := by rw [World.cell?_alloc_at _ _ _ _ rfl]; rfl
        have y1 : (w5.alloc (.cells #[.bool (neg Q.num), .slice ahQU nhQU chQU, .slice ahQD nhQD chQD] 36)).cell? ⟨w5.heap.size, 1, none⟩ = some (.slice ahQU nhQU chQU) := by rw [World.cell?_alloc_at _ _ _ _ rfl]; rfl
        have y2 : (w5.alloc (.cells #[.bool (neg Q.num), .slice ahQU nhQU chQU, .slice ahQD nhQD chQD] 36)).cell? ⟨w5.heap.size, 2, none⟩ = some (.slice ahQD nhQD chQD) := by rw [World.cell?_alloc_at _ _ _ _ rfl]; rfl
        have zU := hQU.past hal
        have zD := hQD.past hal
        have zv := hv1.past hal
        have zo := hv2.past hal
        have zs0 := hal.size
        have zb := bl hal lb
        have zB := below_later hB hal
        have zBs := zB.size
        have x0 := bq hal lb qb0
        have x1 := bq hal lb qb1
        have x2 := bq hal lb qb2
        clear hal
        go_wp2_with (at_builtin; go_loud (refine wpList_push_ratA rfl _ _ rfl w.heap.size v1 (justL zs K U J m) v2.ownBlock Q rfl zv w5.heap.size _ _ _ _ _ _ rfl y0 y1 y2 zU zD f1U f1D f2U f2D (fun k e => (zo.lt k e).2) (by first | omega | (rw [List.length_append, List.length_replicate]; omega)) zBs ?_; intro v4 w4 k1 k2 k3 k4))
        have qb0 := (World.cell?_of_block (w := (w5.alloc (.cells #[.bool (neg Q.num), .slice ahQU nhQU chQU, .slice ahQD nhQD chQD] 36))) (a := ⟨bb, 0, none⟩) (k2.block bb zb (fun e => nb1 e.symm))).trans x0
        have qb1 := (World.cell?_of_block (w := (w5.alloc (.cells #[.bool (neg Q.num), .slice ahQU nhQU chQU, .slice ahQD nhQD chQD] 36))) (a := ⟨bb, 1, none⟩) (k2.block bb zb (fun e => nb1 e.symm))).trans x1
        have qb2 := (World.cell?_of_block (w := (w5.alloc (.cells #[.bool (neg Q.num), .slice ahQU nhQU chQU, .slice ahQD nhQD chQD] 36))) (a := ⟨bb, 2, none⟩) (k2.block bb zb (fun e => nb1 e.symm))).trans x2
        have lb := Nat.lt_of_lt_of_le zb k2.size
        have hQU := zU.grown k2 f1U
        have hQD := zD.grown k2 f1D
        have f1U := f1U.turn zU k3
        have f1D := f1D.turn zD k3
        have nb1 : v4.ownBlock ≠ some bb := fun e => by
          rcases k3 with h | h
          · exact nb1 (h.symm.trans e)
          · rw [h] at e; have := Option.some.inj e; omega
        have hB := zB.trans k4
        have hv2 := zo.other k2 k3
        have hv1 := k1
        clear x0 x1 x2 y0 y1 y2 zU zD zv zo zB zBs zb zs0 k1 k2 k3 k4
        go_loopw [11, 15] (fun v2 i wr => ∃ (e : Nat) (x2 : Value), x2 = v2 ∧ e ≤ U ∧ (2 ≤ M ∨ e = 0) ∧ i = .int .i64 ((e : Nat) : Int) ∧ RatsA wr w.heap.size v4 (justL zs K U J m ++ [Q]) v2.ownBlock ∧ RatsA wr w.heap.size v2 (leftL zs K U m ++ List.replicate (hitN s U e) Q) v4.ownBlock ∧
          wr.cell? ⟨bb, 0, none⟩ = some (.bool (neg Q.num)) ∧ wr.cell? ⟨bb, 1, none⟩ = some (.slice ahQU nhQU chQU) ∧ wr.cell? ⟨bb, 2, none⟩ = some (.slice ahQD nhQD chQD) ∧ bb < wr.heap.size ∧ OwnAt wr w.heap.size ahQU nhQU chQU (digs Q.num.natAbs) ∧ OwnAt wr w.heap.size ahQD nhQD chQD (digs Q.den) ∧
          OffO v2.ownBlock ahQU nhQU ∧ OffO v2.ownBlock ahQD nhQD ∧ v2.ownBlock ≠ some bb ∧ Below w.heap.size w wr) (fun _ i _ => U - (intOf i).toNat)
        case atStart => exact ⟨0, _, rfl, Nat.zero_le _, .inr rfl, rfl, hv1, by rw [show hitN s U 0 = 0 from rfl, List.replicate_zero, List.append_nil]; exact hv2, qb0, qb1, qb2, lb, hQU, hQD, f2U, f2D, nb2, hB⟩
        case round =>
          clear hv1 hv2 qb0 qb1 qb2 lb hQU hQD f2U f2D nb2 hB
          obtain ⟨e, v3, rfl, he, hc, rfl, hv1, hv2, qb0, qb1, qb2, lb, hQU, hQD, f2U, f2D, nb2, hB⟩ := hrel
          have hle2 := hitN_le s U e
          by_cases hlt2 : e < U
          · have te : decide ((e : Int) < (U : Int)) = true := decide_eq_true (by omega)
            by_cases hM2 : 2 ≤ M
            · have tm : decide ((2 : Int) ≤ (M : Int)) = true := decide_eq_true (by omega)
              have hEI : wrap64 ((2 : Int) ^ e) = ((2 ^ e : Nat) : Int) := by
                have h1 : (2 : Int) ^ e = ((2 ^ e : Nat) : Int) := by simp
                have h2 : 2 ^ e ≤ 64 := by have := Nat.pow_le_pow_right (n := 2) (by decide) (show e ≤ 6 by omega); simpa using this
                rw [h1]
                clear h1
                generalize 2 ^ e = E9 at *
                unfold wrap64
                omega
              have hcb := clr_bits s HS64.out e (by omega)
              have hcl6 : clr s e < 64 := Nat.lt_of_le_of_lt (by unfold clr; split; exact Nat.sub_le _ _; exact Nat.le_refl _) HS64.out
              have hhit : hitN s U (e + 1) = hitN s U e + (if metN (clr s e) U = 1 then 1 else 0) := rfl
              obtain ⟨E, hE⟩ : ∃ E, 2 ^ e = E := ⟨_, rfl⟩
              rw [hE] at hEI hcb
              obtain ⟨C, hC⟩ : ∃ C, clr s e = C := ⟨_, rfl⟩
              rw [hC] at hcb hcl6 hhit
              have hmc := fun w => met24 C U w hcl6 (by omega)
              obtain ⟨R, hR⟩ : ∃ R, metN C U = R := ⟨_, rfl⟩
              rw [hR] at hhit
              simp only [hR] at hmc
              have HMC := Lib.hid hmc
              have HHI := Lib.hid hhit
              have HEI := Lib.hid hEI
              have HCB := Lib.hid hcb
              clear hE hC hR hmc hhit hEI hcb
              go_wp2_with fail
              with_reducible refine (HMT.out _).mono ?_
              rintro e1 w5 ⟨rfl, hb⟩
              have hv1 := hv1.past hb
              have hv2 := hv2.past hb
              have qb0 := bq hb lb qb0
              have qb1 := bq hb lb qb1
              have qb2 := bq hb lb qb2
              have lb := bl hb lb
              have hQU := hQU.past hb
              have hQD := hQD.past hb
              have hB := below_later hB hb
              clear hb
              go_wp2_with fail
              rw [HEI.out, HCB.out]
              with_reducible refine (HMC.out _).mono ?_
              rintro e1 w6 ⟨rfl, hb⟩
              have hv1 := hv1.past hb
              have hv2 := hv2.past hb
              have qb0 := bq hb lb qb0
              have qb1 := bq hb lb qb1
              have qb2 := bq hb lb qb2
              have lb := bl hb lb
              have hQU := hQU.past hb
              have hQD := hQD.past hb
              have hB := below_later hB hb
              clear hb
              by_cases hR1 : R = 1
              · have tr : ((R : Int) == 1) = true := by simp [hR1]
                have hal : Below w6.heap.size w6 (w6.alloc (.cells #[.bool (neg Q.num), .slice ahQU nhQU chQU, .slice ahQD nhQD chQD] 36)) := (Below.refl _ _).alloc (Nat.le_refl _) _
                have y0 : (w6.alloc (.cells #[.bool (neg Q.num), .slice ahQU nhQU chQU, .slice ahQD nhQD chQD] 36)).cell? ⟨w6.heap.size, 0, none⟩ = some (.bool (neg Q.num)) := by rw [World.cell?_alloc_at _ _ _ _ rfl]; rfl
                have y1 : (w6.alloc (.cells #[.bool (neg Q.num), .slice ahQU nhQU chQU, .slice ahQD nhQD chQD] 36)).cell? ⟨w6.heap.size, 1, none⟩ = some (.slice ahQU nhQU chQU) := by rw [World.cell?_alloc_at _ _ _ _ rfl]; rfl
                have y2 : (w6.alloc (.cells #[.bool (neg Q.num), .slice ahQU nhQU chQU, .slice ahQD nhQD chQD] 36)).cell? ⟨w6.heap.size, 2, none⟩ = some (.slice ahQD nhQD chQD) := by rw [World.cell?_alloc_at _ _ _ _ rfl]; rfl
                have zU := hQU.past hal
                have zD := hQD.past hal
                have zv := hv2.past hal
                have zo := hv1.past hal
                have zs0 := hal.size
                have zb := bl hal lb
                have zB := below_later hB hal
                have zBs := zB.size
                have x0 := bq hal lb qb0
                have x1 := bq hal lb qb1
                have x2 := bq hal lb qb2
                clear hal
                go_wp2_with (at_builtin; go_loud (refine wpList_push_ratA rfl _ _ rfl w.heap.size v3 (leftL zs K U m ++ List.replicate (hitN s U e) Q) v4.ownBlock Q rfl zv w6.heap.size _ _ _ _ _ _ rfl y0 y1 y2 zU zD f2U f2D f1U f1D (fun k e => (zo.lt k e).2) (by first | omega | (rw [List.length_append, List.length_replicate]; omega)) zBs ?_; intro v4 w4 k1 k2 k3 k4))
                have qb0 := (World.cell?_of_block (w := (w6.alloc (.cells #[.bool (neg Q.num), .slice ahQU nhQU chQU, .slice ahQD nhQD chQD] 36))) (a := ⟨bb, 0, none⟩) (k2.block bb zb (fun e => nb2 e.symm))).trans x0
                have qb1 := (World.cell?_of_block (w := (w6.alloc (.cells #[.bool (neg Q.num), .slice ahQU nhQU chQU, .slice ahQD nhQD chQD] 36))) (a := ⟨bb, 1, none⟩) (k2.block bb zb (fun e => nb2 e.symm))).trans x1
                have qb2 := (World.cell?_of_block (w := (w6.alloc (.cells #[.bool (neg Q.num), .slice ahQU nhQU chQU, .slice ahQD nhQD chQD] 36))) (a := ⟨bb, 2, none⟩) (k2.block bb zb (fun e => nb2 e.symm))).trans x2
                have lb := Nat.lt_of_lt_of_le zb k2.size
                have hQU := zU.grown k2 f2U
                have hQD := zD.grown k2 f2D
                have f2U := f2U.turn zU k3
                have f2D := f2D.turn zD k3
                have nb2 : v4.ownBlock ≠ some bb := fun e => by
                  rcases k3 with h | h
                  · exact nb2 (h.symm.trans e)
                  · rw [h] at e; have := Option.some.inj e; omega
                have hB := zB.trans k4
                have hv1 := zo.other k2 k3
                have hv2 := k1
                clear x0 x1 x2 y0 y1 y2 zU zD zv zo zB zBs zb zs0 k1 k2 k3 k4
                go_roundw
                case rel => exact ⟨e + 1, _, rfl, by omega, .inl hM2, by go_num, hv1, by rw [HHI.out, if_pos hR1, List.replicate_succ', ← List.append_assoc]; exact hv2, qb0, qb1, qb2, lb, hQU, hQD, f2U, f2D, nb2, hB⟩
                case measure => simp [intOf]; omega
              · have tr : ((R : Int) == 1) = false := by rw [beq_eq_false_iff_ne]; omega
                go_wp2
                go_roundw
                case rel => exact ⟨e + 1, _, rfl, by omega, .inl hM2, by go_num, hv1, by rw [HHI.out, if_neg hR1, Nat.add_zero]; exact hv2, qb0, qb1, qb2, lb, hQU, hQD, f2U, f2D, nb2, hB⟩
                case measure => simp [intOf]; omega
            · have tm : decide ((2 : Int) ≤ (M : Int)) = false := decide_eq_false (by omega)
              obtain rfl : e = 0 := by omega
              have hv2 : RatsA wr w.heap.size v3 (leftL zs K U m ++ List.replicate 0 Q) v4.ownBlock := hv2
              go_wp2_with fail
              with_reducible refine (HMT.out _).mono ?_
              rintro e1 w5 ⟨rfl, hb⟩
              have hv1 := hv1.past hb
              have hv2 := hv2.past hb
              have qb0 := bq hb lb qb0
              have qb1 := bq hb lb qb1
              have qb2 := bq hb lb qb2
              have lb := bl hb lb
              have hQU := hQU.past hb
              have hQD := hQD.past hb
              have hB := below_later hB hb
              clear hb
              go_wp2
              go_roundw
              case rel =>
                refine ⟨m + 1, _, _, rfl, rfl, by have := HS1.out; omega, ?_, ?_, by have := HS1.out; congr 1; omega, hB⟩
                · rw [HJL.out, if_pos hJM]; exact hv1
                · rw [HLL.out, if_neg hM2]; exact hv2
              case measure => have := HS1.out; simp [intOf]; omega

          · have te : decide ((e : Int) < (U : Int)) = false := decide_eq_false (by omega)
            obtain rfl : e = U := by omega
            have hM2 : 2 ≤ M := by omega
            go_wp2
            go_roundw
            case rel =>
              refine ⟨m + 1, _, _, rfl, rfl, by have := HS1.out; omega, ?_, ?_, by have := HS1.out; congr 1; omega, hB⟩
              · rw [HJL.out, if_pos hJM]; exact hv1
              · rw [HLL.out, if_pos hM2]; exact hv2
            case measure => have := HS1.out; simp [intOf]; omega
      · have tj : ((M : Int) == (J : Int)) = false := by rw [beq_eq_false_iff_ne]; omega
        have hBs := hB.size
        go_wp2_with fail
        rotate_left
        · exfalso
          have h9 : wrap64 ((2 : Int) ^ K) ≤ (s : Int) := by assumption
          rw [HW.out] at h9
          omega
        refine (HWG.out _ g).mono ?_
        rintro e w3 ⟨ahQU, nhQU, chQU, ahQD, nhQD, chQD, rfl, hQU, hQD, hb⟩
        have g := g.past hb
        have hv1 := hv1.past hb
        have hv2 := hv2.past hb
        have hB := below_later hB hb
        have hr0 := below_later hr0 hb
        clear hb
        have f1U := OffO.ge hQU fun k e => (hl1 k e).2
        have f1D := OffO.ge hQD fun k e => (hl1 k e).2
        have f2U := OffO.ge hQU fun k e => (hl2 k e).2
        have f2D := OffO.ge hQD fun k e => (hl2 k e).2
        have hQU := hQU.mono hBs
        have hQD := hQD.mono hBs
        have hrs := hr0.size
        go_wp2_with fail
        obtain ⟨w4, hW, hz0, hb, q, f⟩ := box1g w3 (w3.heap.size) (by omega) #[.bool (neg (Q).num), .slice ahQU nhQU chQU, .slice ahQD nhQD chQD] 36
        rw [hW]
        clear hW
        have hv1 := hv1.past hb
        have hv2 := hv2.past hb
        have hQU := hQU.past hb
        have hQD := hQD.past hb
        have hB := below_later hB hb
        have hr0 := below_later hr0 hb
        clear hb
        have lb : w3.heap.size < w4.heap.size := by omega
        have qb0 := q 0; have qb1 := q 1; have qb2 := q 2
        simp only [List.getElem?_toArray, List.getElem?_cons_zero, List.getElem?_cons_succ] at qb0 qb1 qb2
        clear q f
        clear hz0
        with_reducible refine (HMT.out _).mono ?_
        rintro e w5 ⟨rfl, hb⟩
        have hv1 := hv1.past hb
        have hv2 := hv2.past hb
        have hQU := hQU.past hb
        have hQD := hQD.past hb
        have qb0 := bq hb lb qb0; have qb1 := bq hb lb qb1; have qb2 := bq hb lb qb2
        have lb := bl hb lb
        have hB := below_later hB hb
        have hr0 := below_later hr0 hb
        clear hb
        obtain ⟨bb, hbb⟩ : ∃ bb, w3.heap.size = bb := ⟨_, rfl⟩
        have nb1 : v1.ownBlock ≠ some bb := fun e => by have := (hl1 bb e).2; omega
        have nb2 : v2.ownBlock ≠ some bb := fun e => by have := (hl2 bb e).2; omega
        rw [hbb] at qb0 qb1 qb2 lb ⊢
        clear hbb hr0
        go_wp2_with fail
        go_loopw [11, 15] (fun v2 i wr => ∃ (e : Nat) (x2 : Value), x2 = v2 ∧ e ≤ U ∧ (2 ≤ M ∨ e = 0) ∧ i = .int .i64 ((e : Nat) : Int) ∧ RatsA wr w.heap.size v1 (justL zs K U J m) v2.ownBlock ∧ RatsA wr w.heap.size v2 (leftL zs K U m ++ List.replicate (hitN s U e) Q) v1.ownBlock ∧
          wr.cell? ⟨bb, 0, none⟩ = some (.bool (neg Q.num)) ∧ wr.cell? ⟨bb, 1, none⟩ = some (.slice ahQU nhQU chQU) ∧ wr.cell? ⟨bb, 2, none⟩ = some (.slice ahQD nhQD chQD) ∧ bb < wr.heap.size ∧ OwnAt wr w.heap.size ahQU nhQU chQU (digs Q.num.natAbs) ∧ OwnAt wr w.heap.size ahQD nhQD chQD (digs Q.den) ∧
          OffO v2.ownBlock ahQU nhQU ∧ OffO v2.ownBlock ahQD nhQD ∧ v2.ownBlock ≠ some bb ∧ Below w.heap.size w wr) (fun _ i _ => U - (intOf i).toNat)
        case atStart => exact ⟨0, _, rfl, Nat.zero_le _, .inr rfl, rfl, hv1, by rw [show hitN s U 0 = 0 from rfl, List.replicate_zero, List.append_nil]; exact hv2, qb0, qb1, qb2, lb, hQU, hQD, f2U, f2D, nb2, hB⟩
        case round =>
          clear hv1 hv2 qb0 qb1 qb2 lb hQU hQD f2U f2D nb2 hB
          obtain ⟨e, v3, rfl, he, hc, rfl, hv1, hv2, qb0, qb1, qb2, lb, hQU, hQD, f2U, f2D, nb2, hB⟩ := hrel
          have hle2 := hitN_le s U e
          by_cases hlt2 : e < U
          · have te : decide ((e : Int) < (U : Int)) = true := decide_eq_true (by omega)
            by_cases hM2 : 2 ≤ M
            · have tm : decide ((2 : Int) ≤ (M : Int)) = true := decide_eq_true (by omega)
              have hEI : wrap64 ((2 : Int) ^ e) = ((2 ^ e : Nat) : Int) := by
                have h1 : (2 : Int) ^ e = ((2 ^ e : Nat) : Int) := by simp
                have h2 : 2 ^ e ≤ 64 := by have := Nat.pow_le_pow_right (n := 2) (by decide) (show e ≤ 6 by omega); simpa using this
                rw [h1]
                clear h1
                generalize 2 ^ e = E9 at *
                unfold wrap64
                omega
              have hcb := clr_bits s HS64.out e (by omega)
              have hcl6 : clr s e < 64 := Nat.lt_of_le_of_lt (by unfold clr; split; exact Nat.sub_le _ _; exact Nat.le_refl _) HS64.out
              have hhit : hitN s U (e + 1) = hitN s U e + (if metN (clr s e) U = 1 then 1 else 0) := rfl
              obtain ⟨E, hE⟩ : ∃ E, 2 ^ e = E := ⟨_, rfl⟩
              rw [hE] at hEI hcb
              obtain ⟨C, hC⟩ : ∃ C, clr s e = C := ⟨_, rfl⟩
              rw [hC] at hcb hcl6 hhit
              have hmc := fun w => met24 C U w hcl6 (by omega)
              obtain ⟨R, hR⟩ : ∃ R, metN C U = R := ⟨_, rfl⟩
              rw [hR] at hhit
              simp only [hR] at hmc
              have HMC := Lib.hid hmc
              have HHI := Lib.hid hhit
              have HEI := Lib.hid hEI
              have HCB := Lib.hid hcb
              clear hE hC hR hmc hhit hEI hcb
              go_wp2_with fail
              with_reducible refine (HMT.out _).mono ?_
              rintro e1 w5 ⟨rfl, hb⟩
              have hv1 := hv1.past hb
              have hv2 := hv2.past hb
              have qb0 := bq hb lb qb0
              have qb1 := bq hb lb qb1
              have qb2 := bq hb lb qb2
              have lb := bl hb lb
              have hQU := hQU.past hb
              have hQD := hQD.past hb
              have hB := below_later hB hb
              clear hb
              go_wp2_with fail
              rw [HEI.out, HCB.out]
              with_reducible refine (HMC.out _).mono ?_
              rintro e1 w6 ⟨rfl, hb⟩
              have hv1 := hv1.past hb
              have hv2 := hv2.past hb
              have qb0 := bq hb lb qb0
              have qb1 := bq hb lb qb1
              have qb2 := bq hb lb qb2
              have lb := bl hb lb
              have hQU := hQU.past hb
              have hQD := hQD.past hb
              have hB := below_later hB hb
              clear hb
              by_cases hR1 : R = 1
              · have tr : ((R : Int) == 1) = true := by simp [hR1]
                have hal : Below w6.heap.size w6 (w6.alloc (.cells #[.bool (neg Q.num), .slice ahQU nhQU chQU, .slice ahQD nhQD chQD] 36)) := (Below.refl _ _).alloc (Nat.le_refl _) _
                have y0 : (w6.alloc (.cells #[.bool (neg Q.num), .slice ahQU nhQU chQU, .slice ahQD nhQD chQD] 36)).cell? ⟨w6.heap.size, 0, none⟩ = some (.bool (neg Q.num)) := by rw [World.cell?_alloc_at _ _ _ _ rfl]; rfl
                have y1 : (w6.alloc (.cells #[.bool (neg Q.num), .slice ahQU nhQU chQU, .slice ahQD nhQD chQD] 36)).cell? ⟨w6.heap.size, 1, none⟩ = some (.slice ahQU nhQU chQU) := by rw [World.cell?_alloc_at _ _ _ _ rfl]; rfl
                have y2 : (w6.alloc (.cells #[.bool (neg Q.num), .slice ahQU nhQU chQU, .slice ahQD nhQD chQD] 36)).cell? ⟨w6.heap.size, 2, none⟩ = some (.slice ahQD nhQD chQD) := by rw [World.cell?_alloc_at _ _ _ _ rfl]; rfl
                have zU := hQU.past hal
                have zD := hQD.past hal
                have zv := hv2.past hal
                have zo := hv1.past hal
                have zs0 := hal.size
                have zb := bl hal lb
                have zB := below_later hB hal
                have zBs := zB.size
                have x0 := bq hal lb qb0
                have x1 := bq hal lb qb1
                have x2 := bq hal lb qb2
                clear hal
                go_wp2_with (at_builtin; go_loud (refine wpList_push_ratA rfl _ _ rfl w.heap.size v3 (leftL zs K U m ++ List.replicate (hitN s U e) Q) v1.ownBlock Q rfl zv w6.heap.size _ _ _ _ _ _ rfl y0 y1 y2 zU zD f2U f2D f1U f1D (fun k e => (zo.lt k e).2) (by first | omega | (rw [List.length_append, List.length_replicate]; omega)) zBs ?_; intro v4 w4 k1 k2 k3 k4))
                have qb0 := (World.cell?_of_block (w := (w6.alloc (.cells #[.bool (neg Q.num), .slice ahQU nhQU chQU, .slice ahQD nhQD chQD] 36))) (a := ⟨bb, 0, none⟩) (k2.block bb zb (fun e => nb2 e.symm))).trans x0
                have qb1 := (World.cell?_of_block (w := (w6.alloc (.cells #[.bool (neg Q.num), .slice ahQU nhQU chQU, .slice ahQD nhQD chQD] 36))) (a := ⟨bb, 1, none⟩) (k2.block bb zb (fun e => nb2 e.symm))).trans x1
                have qb2 := (World.cell?_of_block (w := (w6.alloc (.cells #[.bool (neg Q.num), .slice ahQU nhQU chQU, .slice ahQD nhQD chQD] 36))) (a := ⟨bb, 2, none⟩) (k2.block bb zb (fun e => nb2 e.symm))).trans x2
                have lb := Nat.lt_of_lt_of_le zb k2.size
                have hQU := zU.grown k2 f2U
                have hQD := zD.grown k2 f2D
                have f2U := f2U.turn zU k3
                have f2D := f2D.turn zD k3
                have nb2 : v4.ownBlock ≠ some bb := fun e => by
                  rcases k3 with h | h
                  · exact nb2 (h.symm.trans e)
                  · rw [h] at e; have := Option.some.inj e; omega
                have hB := zB.trans k4
                have hv1 := zo.other k2 k3
                have hv2 := k1
                clear x0 x1 x2 y0 y1 y2 zU zD zv zo zB zBs zb zs0 k1 k2 k3 k4
                go_roundw
                case rel => exact ⟨e + 1, _, rfl, by omega, .inl hM2, by go_num, hv1, by rw [HHI.out, if_pos hR1, List.replicate_succ', ← List.append_assoc]; exact hv2, qb0, qb1, qb2, lb, hQU, hQD, f2U, f2D, nb2, hB⟩
                case measure => simp [intOf]; omega
              · have tr : ((R : Int) == 1) = false := by rw [beq_eq_false_iff_ne]; omega
                go_wp2
                go_roundw
                case rel => exact ⟨e + 1, _, rfl, by omega, .inl hM2, by go_num, hv1, by rw [HHI.out, if_neg hR1, Nat.add_zero]; exact hv2, qb0, qb1, qb2, lb, hQU, hQD, f2U, f2D, nb2, hB⟩
                case measure => simp [intOf]; omega
            · have tm : decide ((2 : Int) ≤ (M : Int)) = false := decide_eq_false (by omega)
              obtain rfl : e = 0 := by omega
              have hv2 : RatsA wr w.heap.size v3 (leftL zs K U m ++ List.replicate 0 Q) v1.ownBlock := hv2
              go_wp2_with fail
              with_reducible refine (HMT.out _).mono ?_
              rintro e1 w5 ⟨rfl, hb⟩
              have hv1 := hv1.past hb
              have hv2 := hv2.past hb
              have qb0 := bq hb lb qb0
              have qb1 := bq hb lb qb1
              have qb2 := bq hb lb qb2
              have lb := bl hb lb
              have hQU := hQU.past hb
              have hQD := hQD.past hb
              have hB := below_later hB hb
              clear hb
              go_wp2
              go_roundw
              case rel =>
                refine ⟨m + 1, _, _, rfl, rfl, by have := HS1.out; omega, ?_, ?_, by have := HS1.out; congr 1; omega, hB⟩
                · rw [HJL.out, if_neg hJM]; exact hv1
                · rw [HLL.out, if_neg hM2]; exact hv2
              case measure => have := HS1.out; simp [intOf]; omega

          · have te : decide ((e : Int) < (U : Int)) = false := decide_eq_false (by omega)
            obtain rfl : e = U := by omega
            have hM2 : 2 ≤ M := by omega
            go_wp2
            go_roundw
            case rel =>
              refine ⟨m + 1, _, _, rfl, rfl, by have := HS1.out; omega, ?_, ?_, by have := HS1.out; congr 1; omega, hB⟩
              · rw [HJL.out, if_neg hJM]; exact hv1
              · rw [HLL.out, if_pos hM2]; exact hv2
            case measure => have := HS1.out; simp [intOf]; omega
    · obtain rfl : s = N := by omega
      go_wp2_with fail
      · exfalso
        have h9 : (s : Int) < wrap64 ((2 : Int) ^ K) := by assumption
        rw [HW.out] at h9
        omega
      · obtain ⟨al1, cl1, rfl, gl1⟩ := hv1.at_
        obtain ⟨al2, cl2, rfl, gl2⟩ := hv2.at_
        have hlj := justL_len zs K U J m
        have hl6 : (leftL zs K U m).length ≤ 400 := Nat.le_trans (leftL_len zs K U m) (Nat.le_trans (Nat.mul_le_mul (show m ≤ 64 by omega) (show U ≤ 6 by omega)) (by decide))
        have hmN : s - 1 = m := by have := HS1.out; omega
        have hjs := HJS.out
        rw [hmN] at hjs
        have HJS2 := Lib.hid (show sumQ 0 (fun i => (justL zs K U J m).getD i 0) (justL zs K U J m).length = inR24 zs K U J from hjs)
        have hps := HPS.out
        have hpn := fun h0 => HPN.out h0 (mkRat (U : Int) 1)
        rw [hmN] at hps hpn
        have hinl := in_len HOK.out (show K ≤ 20 by omega) hU2 hJ2
        have hcll : rlen (cloudR zs K U) ≤ 20000 := cloud_len HOK.out (show K ≤ 20 by omega) hU2 (U + 1 - 2) (Nat.le_refl _)
        have hin := fun w g => In_ok a n c zs K U J w g HOK.out hK1 (by omega) hU2 hJ2
        have hclo := fun w g => Cloud_ok a n c zs K U w g HOK.out hK1 (by omega) hU2
        have hfr : ∃ F, (∀ w, IntsAt w a n c zs → Calls Try.prog 25 #[.slice a n c, .int .i64 (K : Int), .int .i64 (U : Int)] w (RetOk w F)) ∧ F * cloudR zs K U * mkRat (U : Int) 1 = sumL24 (leftL zs K U m) ∧ rlen F ≤ 1000000 := by
          by_cases h0 : cloudR zs K U = 0
          · exact ⟨0, fun w g => Free_none a n c zs K U w g HOK.out hK1 (by omega) hU2 hU1 h0, hpn h0, by decide⟩
          · exact ⟨freeR zs K U, fun w g => Free_ok a n c zs K U w g HOK.out hK1 (by omega) hU2 (by have := mt (cloud_one (zs := zs) (k := K) (u := U)) h0; omega) h0, hps h0, (free_share HOK.out (by omega) hU2 h0).2.2⟩
        obtain ⟨F, hFc, hFp, hFl⟩ := hfr
        obtain ⟨I, hI⟩ : ∃ I, inR24 zs K U J = I := ⟨_, rfl⟩
        obtain ⟨C, hC⟩ : ∃ C, cloudR zs K U = C := ⟨_, rfl⟩
        rw [hI] at hinl
        rw [hC] at hcll hFp
        simp only [hI] at hin
        simp only [hC] at hclo
        have HJS3 := Lib.hid (HJS2.out.trans hI)
        obtain ⟨Y, hY⟩ : ∃ Y, sumL24 (leftL zs K U m) = Y := ⟨_, rfl⟩
        rw [hY] at hFp
        have HY := Lib.hid (show sumQ 0 (fun i => (leftL zs K U m).getD i 0) (leftL zs K U m).length = Y from hY)
        have hn1 := fun w => pair24 (x := (U : Int)) (y := 1) (q := mkRat (U : Int) 1) rfl w (by omega) (by decide) (by decide)
        have hnl : rlen (mkRat (U : Int) 1) ≤ 1 := rlen_mkRat (by decide) (digs_length_le.2 (by simp; omega)) (by decide)
        obtain ⟨U1, hU1e⟩ : ∃ U1, mkRat (U : Int) 1 = U1 := ⟨_, rfl⟩
        rw [hU1e] at hFp hnl
        simp only [hU1e] at hn1
        have HI := Lib.hid hin
        have HCL := Lib.hid hclo
        have HFR := Lib.hid hFc
        have HFP := Lib.hid hFp
        have HN1 := Lib.hid hn1
        have LF := Lib.hid (show rlen F ≤ 1048576 by omega)
        have LC := Lib.hid (show rlen C ≤ 1048576 by omega)
        have LU := Lib.hid (show rlen U1 ≤ 1048576 by omega)
        have LJ := Lib.hid (all_len (just_len (zs := zs) (k := K) (u := U) (j := J) HOK.out hK2 m))
        have LL := Lib.hid (all_len (left_len (zs := zs) (k := K) (u := U) HOK.out hK2 m))
        have HJ64 := Lib.hid (show 100 + (justL zs K U J m).length * (100 + 1) ≤ 17179869184 by omega)
        have HL64 := Lib.hid (show 100 + (leftL zs K U m).length * (100 + 1) ≤ 17179869184 by omega)
        clear hjs hps hpn hinl hcll hin hclo hFc hFp hFl hI hC hY hn1 hnl hU1e hv1 hv2
        refine (add_rats 100 gl1 LJ.out (by decide) HJ64.out).mono ?_
        rintro e w3 ⟨ahSU, nhSU, chSU, ahSD, nhSD, chSD, rfl, hSU, hSD, hb⟩
        have g := g.past hb
        have gl1 := gl1.past hb
        have gl2 := gl2.past hb
        have hB := below_later hB hb
        clear hb
        rw [HJS3.out] at hSU hSD ⊢
        go_wp2_with fail
        obtain ⟨w4, hW, hz0, hb, q, f⟩ := box1g w3 (w3.heap.size) (by omega) #[.bool (neg (I).num), .slice ahSU nhSU chSU, .slice ahSD nhSD chSD] 36
        rw [hW]
        clear hW
        have g := g.past hb
        have gl1 := gl1.past hb
        have gl2 := gl2.past hb
        have hSU := hSU.past hb
        have hSD := hSD.past hb
        have hB := below_later hB hb
        clear hb
        have ls : w3.heap.size < w4.heap.size := by omega
        have qs0 := q 0; have qs1 := q 1; have qs2 := q 2
        simp only [List.getElem?_toArray, List.getElem?_cons_zero, List.getElem?_cons_succ] at qs0 qs1 qs2
        clear q f
        clear hz0
        refine (HI.out _ g).mono ?_
        rintro e w5 ⟨ahXU, nhXU, chXU, ahXD, nhXD, chXD, rfl, hXU, hXD, hb⟩
        have g := g.past hb
        have gl1 := gl1.past hb
        have gl2 := gl2.past hb
        have hSU := hSU.past hb
        have hSD := hSD.past hb
        have qs0 := bq hb ls qs0; have qs1 := bq hb ls qs1; have qs2 := bq hb ls qs2
        have ls := bl hb ls
        have hB := below_later hB hb
        clear hb
        go_wp2_with fail
        obtain ⟨w6, hW, hz0, hb, q, f⟩ := box1g w5 (w5.heap.size) (by omega) #[.bool (neg (I).num), .slice ahXU nhXU chXU, .slice ahXD nhXD chXD] 36
        rw [hW]
        clear hW
        have g := g.past hb
        have gl1 := gl1.past hb
        have gl2 := gl2.past hb
        have hSU := hSU.past hb
        have hSD := hSD.past hb
        have hXU := hXU.past hb
        have hXD := hXD.past hb
        have qs0 := bq hb ls qs0; have qs1 := bq hb ls qs1; have qs2 := bq hb ls qs2
        have ls := bl hb ls
        have hB := below_later hB hb
        clear hb
        have lx : w5.heap.size < w6.heap.size := by omega
        have qx0 := q 0; have qx1 := q 1; have qx2 := q 2
        simp only [List.getElem?_toArray, List.getElem?_cons_zero, List.getElem?_cons_succ] at qx0 qx1 qx2
        clear q f
        clear hz0
        with_reducible refine (same24 hSU.toNatAt hSD.toNatAt hXU.toNatAt hXD.toNatAt).mono ?_
        rintro e w7 ⟨rfl, hb⟩
        have g := g.past hb
        have gl1 := gl1.past hb
        have gl2 := gl2.past hb
        have hSU := hSU.past hb
        have hSD := hSD.past hb
        have hXU := hXU.past hb
        have hXD := hXD.past hb
        have qs0 := bq hb ls qs0; have qs1 := bq hb ls qs1; have qs2 := bq hb ls qs2
        have ls := bl hb ls
        have qx0 := bq hb lx qx0; have qx1 := bq hb lx qx1; have qx2 := bq hb lx qx2
        have lx := bl hb lx
        have hB := below_later hB hb
        clear hb
        go_wp2_with fail
        refine (add_rats 100 gl2 LL.out (by decide) HL64.out).mono ?_
        rintro e w8 ⟨ahYU, nhYU, chYU, ahYD, nhYD, chYD, rfl, hYU, hYD, hb⟩
        have g := g.past hb
        have gl2 := gl2.past hb
        have hB := below_later hB hb
        clear hb
        rw [HY.out] at hYU hYD ⊢
        go_wp2_with fail
        obtain ⟨w9, hW, hz0, hb, q, f⟩ := box1g w8 (w8.heap.size) (by omega) #[.bool (neg (Y).num), .slice ahYU nhYU chYU, .slice ahYD nhYD chYD] 36
        rw [hW]
        clear hW
        have g := g.past hb
        have hYU := hYU.past hb
        have hYD := hYD.past hb
        have hB := below_later hB hb
        clear hb
        have ly : w8.heap.size < w9.heap.size := by omega
        have qy0 := q 0; have qy1 := q 1; have qy2 := q 2
        simp only [List.getElem?_toArray, List.getElem?_cons_zero, List.getElem?_cons_succ] at qy0 qy1 qy2
        clear q f
        clear hz0
        refine (HCL.out _ g).mono ?_
        rintro e w10 ⟨ahCU, nhCU, chCU, ahCD, nhCD, chCD, rfl, hCU, hCD, hb⟩
        have g := g.past hb
        have hYU := hYU.past hb
        have hYD := hYD.past hb
        have qy0 := bq hb ly qy0; have qy1 := bq hb ly qy1; have qy2 := bq hb ly qy2
        have ly := bl hb ly
        have hB := below_later hB hb
        clear hb
        go_wp2_with fail
        obtain ⟨w11, hW, hz0, hb, q, f⟩ := box1g w10 (w10.heap.size) (by omega) #[.bool (neg (C).num), .slice ahCU nhCU chCU, .slice ahCD nhCD chCD] 36
        rw [hW]
        clear hW
        have g := g.past hb
        have hYU := hYU.past hb
        have hYD := hYD.past hb
        have hCU := hCU.past hb
        have hCD := hCD.past hb
        have qy0 := bq hb ly qy0; have qy1 := bq hb ly qy1; have qy2 := bq hb ly qy2
        have ly := bl hb ly
        have hB := below_later hB hb
        clear hb
        have lc : w10.heap.size < w11.heap.size := by omega
        have qc0 := q 0; have qc1 := q 1; have qc2 := q 2
        simp only [List.getElem?_toArray, List.getElem?_cons_zero, List.getElem?_cons_succ] at qc0 qc1 qc2
        clear q f
        clear hz0
        refine (HFR.out _ g).mono ?_
        rintro e w12 ⟨ahFU, nhFU, chFU, ahFD, nhFD, chFD, rfl, hFU, hFD, hb⟩
        have g := g.past hb
        have hYU := hYU.past hb
        have hYD := hYD.past hb
        have hCU := hCU.past hb
        have hCD := hCD.past hb
        have qy0 := bq hb ly qy0; have qy1 := bq hb ly qy1; have qy2 := bq hb ly qy2
        have ly := bl hb ly
        have qc0 := bq hb lc qc0; have qc1 := bq hb lc qc1; have qc2 := bq hb lc qc2
        have lc := bl hb lc
        have hB := below_later hB hb
        clear hb
        go_wp2_with fail
        obtain ⟨w13, hW, hz0, hb, q, f⟩ := box1g w12 (w12.heap.size) (by omega) #[.bool (neg (F).num), .slice ahFU nhFU chFU, .slice ahFD nhFD chFD] 36
        rw [hW]
        clear hW
        have hYU := hYU.past hb
        have hYD := hYD.past hb
        have hCU := hCU.past hb
        have hCD := hCD.past hb
        have hFU := hFU.past hb
        have hFD := hFD.past hb
        have qy0 := bq hb ly qy0; have qy1 := bq hb ly qy1; have qy2 := bq hb ly qy2
        have ly := bl hb ly
        have qc0 := bq hb lc qc0; have qc1 := bq hb lc qc1; have qc2 := bq hb lc qc2
        have lc := bl hb lc
        have hB := below_later hB hb
        clear hb
        have lf : w12.heap.size < w13.heap.size := by omega
        have qf0 := q 0; have qf1 := q 1; have qf2 := q 2
        simp only [List.getElem?_toArray, List.getElem?_cons_zero, List.getElem?_cons_succ] at qf0 qf1 qf2
        clear q f
        clear hz0
        refine (HN1.out _).mono ?_
        rintro e w14 ⟨ahNU, nhNU, chNU, ahND, nhND, chND, rfl, hNU, hND, hb⟩
        have hYU := hYU.past hb
        have hYD := hYD.past hb
        have hCU := hCU.past hb
        have hCD := hCD.past hb
        have hFU := hFU.past hb
        have hFD := hFD.past hb
        have qy0 := bq hb ly qy0; have qy1 := bq hb ly qy1; have qy2 := bq hb ly qy2
        have ly := bl hb ly
        have qc0 := bq hb lc qc0; have qc1 := bq hb lc qc1; have qc2 := bq hb lc qc2
        have lc := bl hb lc
        have qf0 := bq hb lf qf0; have qf1 := bq hb lf qf1; have qf2 := bq hb lf qf2
        have lf := bl hb lf
        have hB := below_later hB hb
        clear hb
        go_wp2_with fail
        obtain ⟨w15, hW, hz0, hb, q, f⟩ := box1g w14 (w14.heap.size) (by omega) #[.bool (neg (U1).num), .slice ahNU nhNU chNU, .slice ahND nhND chND] 36
        rw [hW]
        clear hW
        have hYU := hYU.past hb
        have hYD := hYD.past hb
        have hCU := hCU.past hb
        have hCD := hCD.past hb
        have hFU := hFU.past hb
        have hFD := hFD.past hb
        have hNU := hNU.past hb
        have hND := hND.past hb
        have qy0 := bq hb ly qy0; have qy1 := bq hb ly qy1; have qy2 := bq hb ly qy2
        have ly := bl hb ly
        have qc0 := bq hb lc qc0; have qc1 := bq hb lc qc1; have qc2 := bq hb lc qc2
        have lc := bl hb lc
        have qf0 := bq hb lf qf0; have qf1 := bq hb lf qf1; have qf2 := bq hb lf qf2
        have lf := bl hb lf
        have hB := below_later hB hb
        clear hb
        have ln : w14.heap.size < w15.heap.size := by omega
        have qn0 := q 0; have qn1 := q 1; have qn2 := q 2
        simp only [List.getElem?_toArray, List.getElem?_cons_zero, List.getElem?_cons_succ] at qn0 qn1 qn2
        clear q f
        obtain ⟨w16, hW, hz1, hb, q, f⟩ := box1g w15 (w14.heap.size + 1) (by omega) #[.bool (neg (F).num), .slice ahFU nhFU chFU, .slice ahFD nhFD chFD, .bool (neg (C).num), .slice ahCU nhCU chCU, .slice ahCD nhCD chCD, .bool (neg (U1).num), .slice ahNU nhNU chNU, .slice ahND nhND chND] 36
        rw [hW]
        clear hW
        have hYU := hYU.past hb
        have hYD := hYD.past hb
        have hCU := hCU.past hb
        have hCD := hCD.past hb
        have hFU := hFU.past hb
        have hFD := hFD.past hb
        have hNU := hNU.past hb
        have hND := hND.past hb
        have qy0 := bq hb ly qy0; have qy1 := bq hb ly qy1; have qy2 := bq hb ly qy2
        have ly := bl hb ly
        have qc0 := bq hb lc qc0; have qc1 := bq hb lc qc1; have qc2 := bq hb lc qc2
        have lc := bl hb lc
        have qf0 := bq hb lf qf0; have qf1 := bq hb lf qf1; have qf2 := bq hb lf qf2
        have lf := bl hb lf
        have qn0 := bq hb ln qn0; have qn1 := bq hb ln qn1; have qn2 := bq hb ln qn2
        have ln := bl hb ln
        have hB := below_later hB hb
        clear hb
        have lv : w14.heap.size + 1 < w16.heap.size := by omega
        have qv0 := q 0; have qv1 := q 1; have qv2 := q 2; have qv3 := q 3; have qv4 := q 4; have qv5 := q 5; have qv6 := q 6; have qv7 := q 7; have qv8 := q 8
        simp only [List.getElem?_toArray, List.getElem?_cons_zero, List.getElem?_cons_succ] at qv0 qv1 qv2 qv3 qv4 qv5 qv6 qv7 qv8
        clear q f
        clear hz0
        clear hz1
        with_reducible refine (mul_three (RatsAt.three lv qv0 qv1 qv2 qv3 qv4 qv5 qv6 qv7 qv8 hFU.toNatAt hFD.toNatAt hCU.toNatAt hCD.toNatAt hNU.toNatAt hND.toNatAt) LF.out LC.out LU.out).mono ?_
        rintro e w17 ⟨ahPU, nhPU, chPU, ahPD, nhPD, chPD, rfl, hPU, hPD, hb⟩
        have hYU := hYU.past hb
        have hYD := hYD.past hb
        have hCU := hCU.past hb
        have hCD := hCD.past hb
        have hFU := hFU.past hb
        have hFD := hFD.past hb
        have hNU := hNU.past hb
        have hND := hND.past hb
        have qy0 := bq hb ly qy0; have qy1 := bq hb ly qy1; have qy2 := bq hb ly qy2
        have ly := bl hb ly
        have qc0 := bq hb lc qc0; have qc1 := bq hb lc qc1; have qc2 := bq hb lc qc2
        have lc := bl hb lc
        have qf0 := bq hb lf qf0; have qf1 := bq hb lf qf1; have qf2 := bq hb lf qf2
        have lf := bl hb lf
        have qn0 := bq hb ln qn0; have qn1 := bq hb ln qn1; have qn2 := bq hb ln qn2
        have ln := bl hb ln
        have qv0 := bq hb lv qv0; have qv1 := bq hb lv qv1; have qv2 := bq hb lv qv2; have qv3 := bq hb lv qv3; have qv4 := bq hb lv qv4; have qv5 := bq hb lv qv5; have qv6 := bq hb lv qv6; have qv7 := bq hb lv qv7; have qv8 := bq hb lv qv8
        have lv := bl hb lv
        have hB := below_later hB hb
        clear hb
        rw [HFP.out] at hPU hPD ⊢
        go_wp2_with fail
        obtain ⟨w18, hW, hz0, hb, q, f⟩ := box1g w17 (w17.heap.size) (by omega) #[.bool (neg (Y).num), .slice ahPU nhPU chPU, .slice ahPD nhPD chPD] 36
        rw [hW]
        clear hW
        have hYU := hYU.past hb
        have hYD := hYD.past hb
        have hPU := hPU.past hb
        have hPD := hPD.past hb
        have qy0 := bq hb ly qy0; have qy1 := bq hb ly qy1; have qy2 := bq hb ly qy2
        have ly := bl hb ly
        have hB := below_later hB hb
        clear hb
        have lp : w17.heap.size < w18.heap.size := by omega
        have qp0 := q 0; have qp1 := q 1; have qp2 := q 2
        simp only [List.getElem?_toArray, List.getElem?_cons_zero, List.getElem?_cons_succ] at qp0 qp1 qp2
        clear q f
        clear hz0
        with_reducible refine (same24 hPU.toNatAt hPD.toNatAt hYU.toNatAt hYD.toNatAt).mono ?_
        rintro e w19 ⟨rfl, hb⟩
        have hYU := hYU.past hb
        have hYD := hYD.past hb
        have hPU := hPU.past hb
        have hPD := hPD.past hb
        have qy0 := bq hb ly qy0; have qy1 := bq hb ly qy1; have qy2 := bq hb ly qy2
        have ly := bl hb ly
        have qp0 := bq hb lp qp0; have qp1 := bq hb lp qp1; have qp2 := bq hb lp qp2
        have lp := bl hb lp
        have hB := below_later hB hb
        clear hb
        go_wp2
        go_ret
        exact ⟨rfl, hB⟩

theorem chanceCounts_any (a : Option Addr) (n c : Nat) (zs : List Int) (k u j : Int) (w : World) (g : IntsAt w a n c zs) (hx : -9223372036854775808 ≤ k ∧ k ≤ 9223372036854775807) (hy : -9223372036854775808 ≤ u ∧ u ≤ 9223372036854775807) (hz : -9223372036854775808 ≤ j ∧ j ≤ 9223372036854775807) :
    Calls Try.prog 7 #[.slice a n c, .int .i64 k, .int .i64 u, .int .i64 j] w (RetVal w (.bool true)) := by
  have e1 : pickI k 6 = k % 6 := by unfold pickI; rw [if_neg (by decide)]
  obtain ⟨K, hK⟩ : ∃ K : Nat, pickI k 6 + 1 = (K : Int) := ⟨(k % 6 + 1).toNat, by rw [e1]; omega⟩
  have hK3 : k % 6 + 1 = (K : Int) := by rw [← e1]; exact hK
  have e2 : pickI u (K : Int) = u % (K : Int) := by unfold pickI; rw [if_neg (by omega)]
  have b1 := Int.emod_nonneg u (show (K : Int) ≠ 0 by omega)
  have b2 := Int.emod_lt_of_pos u (show 0 < (K : Int) by omega)
  obtain ⟨U, hU⟩ : ∃ U : Nat, pickI u (K : Int) + 1 = (U : Int) := ⟨(u % (K : Int) + 1).toNat, by rw [e2]; omega⟩
  have hU2 : U ≤ K ∧ 1 ≤ U := by rw [e2] at hU; omega
  have e3 : pickI j ((U : Int) + 1) = j % ((U : Int) + 1) := by unfold pickI; rw [if_neg (by omega)]
  have b3 := Int.emod_nonneg j (show (U : Int) + 1 ≠ 0 by omega)
  have b4 := Int.emod_lt_of_pos j (show 0 < (U : Int) + 1 by omega)
  obtain ⟨J, hJ⟩ : ∃ J : Nat, pickI j ((U : Int) + 1) = (J : Int) := ⟨(j % ((U : Int) + 1)).toNat, by rw [e3]; omega⟩
  have hJ2 : J ≤ U := by rw [e3] at hJ; omega
  by_cases hn : 6 < n
  · exact counts_far a n c zs k u j K U J w g hx hy hz hK (by omega) (by omega) hU hU2.2 hU2.1 hJ hJ2 hn
  · by_cases hok : okT zs (K : Int)
    · exact counts_main a n c zs k u j K U J w g hx hy hz hK (by omega) (by omega) hU hU2.2 hU2.1 hJ hJ2 (by omega) hok
    · exact counts_bad a n c zs k u j K U J w g hx hy hz hK (by omega) (by omega) hU hU2.2 hU2.1 hJ hJ2 (by omega) hok

end Go.Proofs.Ytlkoenpdmlbhlaa
