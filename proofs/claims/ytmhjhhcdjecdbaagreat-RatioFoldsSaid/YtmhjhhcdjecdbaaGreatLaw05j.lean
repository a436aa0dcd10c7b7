/- the laws of ratio: RatioFolds. -/
import Derived.Test.YtmhjhhcdjecdbaaGreatLaw05e
import Derived.Test.YtmhjhhcdjecdbaaGreatKit6
import Derived.Test.YtmhjhhcdjecdbaaGreatRats1
import Derived.Test.YtmhjhhcdjecdbaaGreatRatio15
import Derived.Test.YtmhjhhcdjecdbaaGreatTake
set_option linter.unusedVariables false
set_option linter.unusedSimpArgs false
namespace Go.Proofs.YtmhjhhcdjecdbaaGreat
open Go.RowKit

theorem longB_all {f : Nat → Bool × List Nat × List Nat} {n : Nat} (h : longB f n = false) : n ≤ 6 ∧ ∀ i, i < n → (f i).2.1.length ≤ 5 ∧ (f i).2.2.length ≤ 5 := by
  have h6 : n ≤ 6 := by
    unfold longB at h
    rw [Bool.or_eq_false_iff, decide_eq_false_iff_not] at h
    omega
  refine ⟨h6, fun i hi => ?_⟩
  cases hl : longP (f i)
  · exact longP_no.1 hl
  · rw [longB_yes hi (by omega) hl] at h; cases h

set_option maxRecDepth 100000 in
set_option maxHeartbeats 4000000 in
theorem ratioFolds_long (ar : Option Addr) (nr cc : Nat) (f : Nat → Bool × List Nat × List Nat) (w : World) (gr : RatsAt w ar nr cc f) (hl : longB f nr = true) :
    Calls Tryz.prog 3 #[.slice ar nr cc] w (RetVal w (.bool true)) := by
  have LB := Lib.hid hl
  clear hl
  go_enter Tryz.func3, Tryz.ntmps3
  have hB := Below.refl w.heap.size w
  go_wp2_with fail
  with_reducible refine (long05_any _ _ _ _ _ gr).mono ?_
  rintro e w1 ⟨rfl, hb⟩
  have gr := gr.past hb
  have hB := below_later hB hb
  clear hb
  rw [LB.out]
  go_wp2_with fail
  with_reducible refine (awake05 _).mono ?_
  rintro e w2 ⟨rfl, hb⟩
  have gr := gr.past hb
  have hB := below_later hB hb
  clear hb
  go_wp2
  go_ret
  exact ⟨rfl, hB⟩

set_option maxRecDepth 100000 in
set_option maxHeartbeats 16000000 in
theorem ratioFolds_short (ar : Option Addr) (nr cc : Nat) (f : Nat → Bool × List Nat × List Nat) (w : World) (gr : RatsAt w ar nr cc f) (hl : longB f nr = false) :
    Calls Tryz.prog 3 #[.slice ar nr cc] w (RetVal w (.bool true)) := by
  obtain ⟨hn6, hk⟩ := longB_all hl
  have LB := Lib.hid hl
  have HK := Lib.hid hk
  have hK1 : 5 + nr * (5 + 1) ≤ 17179869184 := by omega
  have hK2 : 5 + nr * (5 + 1) ≤ 40000 := by omega
  obtain ⟨A, hA⟩ : ∃ A, foldA (· + ·) 0 f nr = A := ⟨_, rfl⟩
  obtain ⟨M, hM⟩ : ∃ M, foldA (· * ·) 1 f nr = M := ⟨_, rfl⟩
  have HA := Lib.hid hA
  have HM := Lib.hid hM
  have gr0 := gr
  clear hl hk hA hM
  go_enter Tryz.func3, Tryz.ntmps3
  have hB := Below.refl w.heap.size w
  go_wp2_with fail
  with_reducible refine (long05_any _ _ _ _ _ gr).mono ?_
  rintro e w1 ⟨rfl, hb⟩
  have gr := gr.past hb
  have hB := below_later hB hb
  clear hb
  rw [LB.out]
  go_wp2_with fail
  go_loopw [3, 4] (fun v i wr => ∃ (k : Nat), k ≤ nr ∧ i = .int .i64 ((k : Nat) : Int) ∧ RatsOwn wr w.heap.size v k f ∧ Below w.heap.size w wr) (fun v i _ => nr - (intOf i).toNat)
  case atStart => exact ⟨0, Nat.zero_le _, rfl, RatsOwn.nil _ _ _, hB⟩
  case round =>
    clear hB gr
    obtain ⟨k, hk, rfl, hv, hB⟩ := hrel
    by_cases hlt : k < nr
    · rcases gr0.cell with h0 | ⟨b, o, rfl, hbl, hc⟩
      · omega
      obtain ⟨a5, n5, c5, a6, n6, c6, q1, q2, q3, h5, h6⟩ := hc k hlt
      have q1 := (hB.cell (p := ⟨b, _, none⟩) hbl).trans q1
      have q2 := (hB.cell (p := ⟨b, _, none⟩) hbl).trans q2
      have q3 := (hB.cell (p := ⟨b, _, none⟩) hbl).trans q3
      have b5 : n5 ≤ 5 := by have := (HK.out k hlt).1; have := h5.len; omega
      have b6 : n6 ≤ 5 := by have := (HK.out k hlt).2; have := h6.len; omega
      have h5 := h5.past hB
      have h6 := h6.past hB
      have hlb := hv.lt
      clear hc
      go_wp2_with fail
      with_reducible refine (copyRatio_any (f k).1 _ _ _ (f k).2.1 _ _ _ (f k).2.2 _ h5 h6 (by omega) (by omega)).mono ?_
      rintro e w1 ⟨ahCU, nhCU, chCU, ahCD, nhCD, chCD, rfl, hCU, hCD, hb⟩
      have hv := hv.past hb
      have hB1 := below_later hB hb
      have hal : Below w1.heap.size w1 (w1.alloc (.cells #[.bool (f k).1, .slice ahCU nhCU chCU, .slice ahCD nhCD chCD] 30)) := (Below.refl _ _).alloc (Nat.le_refl _) _
      have hv2 := hv.past hal
      have hU2 := hCU.past hal
      have hD2 := hCD.past hal
      have z0 : (w1.alloc (.cells #[.bool (f k).1, .slice ahCU nhCU chCU, .slice ahCD nhCD chCD] 30)).cell? ⟨w1.heap.size, 0, none⟩ = some (.bool (f k).1) := by rw [World.cell?_alloc_at _ _ _ _ rfl]; rfl
      have z1 : (w1.alloc (.cells #[.bool (f k).1, .slice ahCU nhCU chCU, .slice ahCD nhCD chCD] 30)).cell? ⟨w1.heap.size, 1, none⟩ = some (.slice ahCU nhCU chCU) := by rw [World.cell?_alloc_at _ _ _ _ rfl]; rfl
      have z2 : (w1.alloc (.cells #[.bool (f k).1, .slice ahCU nhCU chCU, .slice ahCD nhCD chCD] 30)).cell? ⟨w1.heap.size, 2, none⟩ = some (.slice ahCD nhCD chCD) := by rw [World.cell?_alloc_at _ _ _ _ rfl]; rfl
      have hB2 := below_later hB1 hal
      have hsz2 := hB2.size
      have hBs := hB.size
      go_wp2_with (at_builtin; go_loud (refine wpList_push_rat rfl _ _ rfl w.heap.size k _ f rfl hv2 w1.heap.size _ _ _ _ _ _ rfl z0 z1 z2 wr.heap.size hU2 hD2 hBs (fun j e => (hlb j e).2) (by omega) hsz2 ?_; intro v2 w2 hr2 hb2))
      go_roundw
      case rel => exact ⟨k + 1, by omega, by go_num, hr2, hB2.trans hb2⟩
      case measure => simp [intOf]; omega
    · obtain rfl : k = nr := by omega
      obtain ⟨ai, ci, rfl, hin⟩ := hv.at_
      have gr := gr0.past hB
      have hw0 := hB.size
      clear hv hlt
      have hZ := Below.refl wr.heap.size wr
      have zB := hB
      have zgr := gr
      have zhin := hin
      go_wp2_with fail
      with_reducible refine (add05_any _ _ _ f 5 _ hin (by decide) HK.out hK1).mono ?_
      rintro e w1 ⟨ahAU, nhAU, chAU, ahAD, nhAD, chAD, rfl, hAU, hAD, hb⟩
      have hAU := hAU.mono hZ.size
      have hAD := hAD.mono hZ.size
      have gr := gr.past hb
      have hin := hin.past hb
      have hB := below_later hB hb
      have hZ := below_later hZ hb
      clear hb
      rw [HA.out] at hAU hAD ⊢
      go_wp2_with fail
      obtain ⟨w2, hW, hz0, hb, q, f⟩ := box1g w1 (w1.heap.size) (by omega) #[.bool (neg (Ans.up (A))), .slice ahAU nhAU chAU, .slice ahAD nhAD chAD] 30
      have gx : wr.heap.size ≤ w1.heap.size := by have := hZ.size; omega
      rw [hW]
      clear hW
      have gr := gr.past hb
      have hin := hin.past hb
      have hAU := hAU.past hb
      have hAD := hAD.past hb
      have hB := below_later hB hb
      have hZ := below_later hZ hb
      clear hb
      have lx : w1.heap.size < w2.heap.size := by omega
      have qx0 := q 0; have qx1 := q 1; have qx2 := q 2
      simp only [List.getElem?_toArray, List.getElem?_cons_zero, List.getElem?_cons_succ] at qx0 qx1 qx2
      have xx : BoxAt w2 (w1.heap.size) 3 := BoxAt.of q f rfl (by simp [notU_bool, notU_slice, notU_i64])
      clear q f
      clear hz0
      with_reducible refine (radd05_any _ _ _ f 5 _ gr (by decide) HK.out hK2).mono ?_
      rintro e w3 ⟨akAU, nkAU, ckAU, akAD, nkAD, ckAD, rfl, kAU, kAD, hb⟩
      have kAU := kAU.mono hZ.size
      have kAD := kAD.mono hZ.size
      have gr := gr.past hb
      have hin := hin.past hb
      have hAU := hAU.past hb
      have hAD := hAD.past hb
      have qx0 := bq hb lx qx0; have qx1 := bq hb lx qx1; have qx2 := bq hb lx qx2
      have xx := xx.past hb lx
      have lx := bl hb lx
      have hB := below_later hB hb
      have hZ := below_later hZ hb
      clear hb
      rw [HA.out] at kAU kAD ⊢
      go_wp2_with fail
      obtain ⟨w4, hW, hz0, hb, q, f⟩ := box1g w3 (w3.heap.size) (by omega) #[.bool (neg (Ans.up (A))), .slice akAU nkAU ckAU, .slice akAD nkAD ckAD] 30
      have gy : wr.heap.size ≤ w3.heap.size := by have := hZ.size; omega
      rw [hW]
      clear hW
      have gr := gr.past hb
      have hin := hin.past hb
      have hAU := hAU.past hb
      have hAD := hAD.past hb
      have kAU := kAU.past hb
      have kAD := kAD.past hb
      have qx0 := bq hb lx qx0; have qx1 := bq hb lx qx1; have qx2 := bq hb lx qx2
      have xx := xx.past hb lx
      have lx := bl hb lx
      have hB := below_later hB hb
      have hZ := below_later hZ hb
      clear hb
      have ly : w3.heap.size < w4.heap.size := by omega
      have qy0 := q 0; have qy1 := q 1; have qy2 := q 2
      simp only [List.getElem?_toArray, List.getElem?_cons_zero, List.getElem?_cons_succ] at qy0 qy1 qy2
      have xy : BoxAt w4 (w3.heap.size) 3 := BoxAt.of q f rfl (by simp [notU_bool, notU_slice, notU_i64])
      clear q f
      clear hz0
      with_reducible refine (like05_yes wr.heap.size (A) _ _ _ _ _ _ _ _ _ _ _ _ _ hZ.size hAU hAD kAU.toNatAt kAD.toNatAt).mono ?_
      rintro e w5 ⟨rfl, hb, K⟩
      have qx0 := K.cell _ _ qx0 (nu rfl)
      have qx1 := K.cell _ _ qx1 (nu rfl)
      have qx2 := K.cell _ _ qx2 (nu rfl)
      have xx := K.box xx
      have lx := Nat.lt_of_lt_of_le lx K.size
      have qy0 := K.cell _ _ qy0 (nu rfl)
      have qy1 := K.cell _ _ qy1 (nu rfl)
      have qy2 := K.cell _ _ qy2 (nu rfl)
      have xy := K.box xy
      have ly := Nat.lt_of_lt_of_le ly K.size
      have hZ := hZ.trans hb
      clear hb K
      have gr := zgr.past hZ
      have hin := zhin.past hZ
      have hB := below_later zB hZ
      go_wp2_with fail
      with_reducible refine (mul05_any _ _ _ f 5 _ hin (by decide) HK.out hK1).mono ?_
      rintro e w6 ⟨ahMU, nhMU, chMU, ahMD, nhMD, chMD, rfl, hMU, hMD, hb⟩
      have hMU := hMU.mono hZ.size
      have hMD := hMD.mono hZ.size
      have gr := gr.past hb
      have hin := hin.past hb
      have qx0 := bq hb lx qx0; have qx1 := bq hb lx qx1; have qx2 := bq hb lx qx2
      have xx := xx.past hb lx
      have lx := bl hb lx
      have qy0 := bq hb ly qy0; have qy1 := bq hb ly qy1; have qy2 := bq hb ly qy2
      have xy := xy.past hb ly
      have ly := bl hb ly
      have hB := below_later hB hb
      have hZ := below_later hZ hb
      clear hb
      rw [HM.out] at hMU hMD ⊢
      have zf0 := xx.f 0 (by decide)
      have zf1 := xx.f 1 (by decide)
      have zf2 := xx.f 2 (by decide)
      go_wp2_with fail
      obtain ⟨w7, hW, hO, qN0, qN1, qN2, xN⟩ := store3 xx (.bool (neg (Ans.up (M)))) (.slice ahMU nhMU chMU) (.slice ahMD nhMD chMD) (nu rfl) (nu rfl) (nu rfl)
      try rw [hW]
      clear hW
      have hMU := hO.own hMU
      have hMD := hO.own hMD
      have lx : w1.heap.size < w7.heap.size := by rw [hO.size]; exact lx
      have qy0 := (hO.cell (b2 := w3.heap.size) (k := 0) (by omega)).trans qy0
      have qy1 := (hO.cell (b2 := w3.heap.size) (k := 1) (by omega)).trans qy1
      have qy2 := (hO.cell (b2 := w3.heap.size) (k := 2) (by omega)).trans qy2
      have xy := hO.box xy
      have ly : w3.heap.size < w7.heap.size := by rw [hO.size]; exact ly
      have qx0 := qN0
      have qx1 := qN1
      have qx2 := qN2
      have xx := xN
      have hB := hO.below (by omega) hB
      have hZ := hO.below (by omega) hZ
      clear hO qN0 qN1 qN2 xN zf0 zf1 zf2
      have gr := zgr.past hZ
      have hin := zhin.past hZ
      have hB := below_later zB hZ
      go_wp2_with fail
      with_reducible refine (rmul05_any _ _ _ f 5 _ gr (by decide) HK.out hK2).mono ?_
      rintro e w8 ⟨akMU, nkMU, ckMU, akMD, nkMD, ckMD, rfl, kMU, kMD, hb⟩
      have kMU := kMU.mono hZ.size
      have kMD := kMD.mono hZ.size
      have hMU := hMU.past hb
      have hMD := hMD.past hb
      have gr := gr.past hb
      have hin := hin.past hb
      have qx0 := bq hb lx qx0; have qx1 := bq hb lx qx1; have qx2 := bq hb lx qx2
      have xx := xx.past hb lx
      have lx := bl hb lx
      have qy0 := bq hb ly qy0; have qy1 := bq hb ly qy1; have qy2 := bq hb ly qy2
      have xy := xy.past hb ly
      have ly := bl hb ly
      have hB := below_later hB hb
      have hZ := below_later hZ hb
      clear hb
      rw [HM.out] at kMU kMD ⊢
      have zf0 := xy.f 0 (by decide)
      have zf1 := xy.f 1 (by decide)
      have zf2 := xy.f 2 (by decide)
      go_wp2_with fail
      obtain ⟨w9, hW, hO, qN0, qN1, qN2, xN⟩ := store3 xy (.bool (neg (Ans.up (M)))) (.slice akMU nkMU ckMU) (.slice akMD nkMD ckMD) (nu rfl) (nu rfl) (nu rfl)
      try rw [hW]
      clear hW
      have hMU := hO.own hMU
      have hMD := hO.own hMD
      have kMU := hO.own kMU
      have kMD := hO.own kMD
      have qx0 := (hO.cell (b2 := w1.heap.size) (k := 0) (by omega)).trans qx0
      have qx1 := (hO.cell (b2 := w1.heap.size) (k := 1) (by omega)).trans qx1
      have qx2 := (hO.cell (b2 := w1.heap.size) (k := 2) (by omega)).trans qx2
      have xx := hO.box xx
      have lx : w1.heap.size < w9.heap.size := by rw [hO.size]; exact lx
      have ly : w3.heap.size < w9.heap.size := by rw [hO.size]; exact ly
      have qy0 := qN0
      have qy1 := qN1
      have qy2 := qN2
      have xy := xN
      have hB := hO.below (by omega) hB
      have hZ := hO.below (by omega) hZ
      clear hO qN0 qN1 qN2 xN zf0 zf1 zf2
      have gr := zgr.past hZ
      have hin := zhin.past hZ
      have hB := below_later zB hZ
      go_wp2_with fail
      with_reducible refine (like05_yes wr.heap.size (M) _ _ _ _ _ _ _ _ _ _ _ _ _ hZ.size hMU hMD kMU.toNatAt kMD.toNatAt).mono ?_
      rintro e w10 ⟨rfl, hb, K⟩
      have qx0 := K.cell _ _ qx0 (nu rfl)
      have qx1 := K.cell _ _ qx1 (nu rfl)
      have qx2 := K.cell _ _ qx2 (nu rfl)
      have xx := K.box xx
      have lx := Nat.lt_of_lt_of_le lx K.size
      have qy0 := K.cell _ _ qy0 (nu rfl)
      have qy1 := K.cell _ _ qy1 (nu rfl)
      have qy2 := K.cell _ _ qy2 (nu rfl)
      have xy := K.box xy
      have ly := Nat.lt_of_lt_of_le ly K.size
      have hZ := hZ.trans hb
      clear hb K
      have gr := zgr.past hZ
      have hin := zhin.past hZ
      have hB := below_later zB hZ
      go_wp2_with fail
      clear zgr zhin hZ zB
      go_loopw [9, 10] (fun s i wr => ∃ (j : Nat), j ≤ k ∧ s = .bool true ∧ i = .int .i64 ((j : Nat) : Int) ∧ RatsAt wr ar k cc f ∧ RatsAt wr ai k ci f ∧ Below w.heap.size w wr) (fun s i _ => k - (intOf i).toNat)
      case atStart => exact ⟨0, Nat.zero_le _, rfl, rfl, gr, hin, hB⟩
      case round =>
        clear gr hin hB
        obtain ⟨j, hj, rfl, rfl, gr, hin, hB⟩ := hrel
        by_cases hlt : j < k
        · rcases gr.cell with h0 | ⟨b, o, rfl, hbl, hc⟩
          · omega
          rcases hin.cell with h0 | ⟨bi, oi, rfl, hbi, hci⟩
          · omega
          obtain ⟨a5, n5, c5, a6, n6, c6, q1, q2, q3, h5, h6⟩ := hc j hlt
          obtain ⟨a7, n7, c7, a8, n8, c8, p1, p2, p3, h7, h8⟩ := hci j hlt
          have b5 : n5 ≤ 5 := by have := (HK.out j hlt).1; have := h5.len; omega
          have b6 : n6 ≤ 5 := by have := (HK.out j hlt).2; have := h6.len; omega
          have b7 : n7 ≤ 5 := by have := (HK.out j hlt).1; have := h7.len; omega
          have b8 : n8 ≤ 5 := by have := (HK.out j hlt).2; have := h8.len; omega
          clear hc hci
          obtain ⟨⟨b1, l1, l2⟩, hfj⟩ : ∃ x, f j = x := ⟨_, rfl⟩
          rw [hfj] at h5 h6 h7 h8 q1 p1
          obtain ⟨X, hX⟩ : ∃ X, chkR b1 l1 l2 = X := ⟨_, rfl⟩
          have HX := Lib.hid hX
          simp only at h5 h6 h7 h8 q1 p1
          clear hX hfj
          go_wp2_with fail
          refine wp_region_held_drew (S := fun w' => (True) ∧ Below wr.heap.size wr w') (by kernel_rfl) ⟨trivial, (Below.refl _ _).drew⟩ (fun hHeld => ?_)
          refine takeL 0 (.bool true) rfl (by kernel_rfl) (by kernel_rfl) (by kernel_rfl) (fun _ _ _ h => h) (Or.inl ⟨by rfl, ?_⟩) (by assumption) ?_
          · intro ws hSw; obtain ⟨s0, sB⟩ := hSw; go_simp
          try simp only [Act.put, List.setIfInBounds_toArray, List.set_cons_zero, List.set_cons_succ]
          refine takeL 1 (.bool true) rfl (by kernel_rfl) (by kernel_rfl) (by kernel_rfl) (fun _ _ _ h => h) (Or.inl ⟨by rfl, ?_⟩) (by assumption) ?_
          · intro ws hSw; obtain ⟨s0, sB⟩ := hSw; go_simp
          try simp only [Act.put, List.setIfInBounds_toArray, List.set_cons_zero, List.set_cons_succ]
          refine takeL 2 (.slice (some ⟨bi, oi, none⟩) k ci) rfl (by kernel_rfl) (by kernel_rfl) (by kernel_rfl) (fun _ _ _ h => h) (Or.inl ⟨by rfl, ?_⟩) (by assumption) ?_
          · intro ws hSw; obtain ⟨s0, sB⟩ := hSw; go_simp
          try simp only [Act.put, List.setIfInBounds_toArray, List.set_cons_zero, List.set_cons_succ]
          refine takeL 3 (.int .i64 (j : Int)) rfl (by kernel_rfl) (by kernel_rfl) (by kernel_rfl) (fun _ _ _ h => h) (Or.inl ⟨by rfl, ?_⟩) (by assumption) ?_
          · intro ws hSw; obtain ⟨s0, sB⟩ := hSw; go_simp
          try simp only [Act.put, List.setIfInBounds_toArray, List.set_cons_zero, List.set_cons_succ]
          refine takeL 4 (.pointer (some ⟨bi, oi + j * 3, none⟩)) rfl (by kernel_rfl) (by kernel_rfl) (by kernel_rfl) (fun _ _ _ h => h) (Or.inl ⟨by rfl, ?_⟩) (by assumption) ?_
          · intro ws hSw; obtain ⟨s0, sB⟩ := hSw; go_simp
          try simp only [Act.put, List.setIfInBounds_toArray, List.set_cons_zero, List.set_cons_succ]
          refine takeL 5 (.agg #[.bool b1, .slice a7 n7 c7, .slice a8 n8 c8]) rfl (by kernel_rfl) (by kernel_rfl) (by kernel_rfl) (fun _ _ _ h => h) (Or.inl ⟨by rfl, ?_⟩) (by assumption) ?_
          · intro ws hSw; obtain ⟨s0, sB⟩ := hSw; have e5 := (sB.cell (p := ⟨bi, _, none⟩) hbi).trans p1; have e6 := (sB.cell (p := ⟨bi, _, none⟩) hbi).trans p2; have e7 := (sB.cell (p := ⟨bi, _, none⟩) hbi).trans p3; go_simp
          try simp only [Act.put, List.setIfInBounds_toArray, List.set_cons_zero, List.set_cons_succ]
          refine takeL 7 (.slice (some ⟨b, o, none⟩) k cc) rfl (by kernel_rfl) (by kernel_rfl) (by kernel_rfl) (fun _ _ _ h => h) (Or.inl ⟨by rfl, ?_⟩) (by assumption) ?_
          · intro ws hSw; obtain ⟨s0, sB⟩ := hSw; go_simp
          try simp only [Act.put, List.setIfInBounds_toArray, List.set_cons_zero, List.set_cons_succ]
          refine takeL 8 (.int .i64 (j : Int)) rfl (by kernel_rfl) (by kernel_rfl) (by kernel_rfl) (fun _ _ _ h => h) (Or.inl ⟨by rfl, ?_⟩) (by assumption) ?_
          · intro ws hSw; obtain ⟨s0, sB⟩ := hSw; go_simp
          try simp only [Act.put, List.setIfInBounds_toArray, List.set_cons_zero, List.set_cons_succ]
          refine takeL 9 (.pointer (some ⟨b, o + j * 3, none⟩)) rfl (by kernel_rfl) (by kernel_rfl) (by kernel_rfl) (fun _ _ _ h => h) (Or.inl ⟨by rfl, ?_⟩) (by assumption) ?_
          · intro ws hSw; obtain ⟨s0, sB⟩ := hSw; go_simp
          try simp only [Act.put, List.setIfInBounds_toArray, List.set_cons_zero, List.set_cons_succ]
          refine takeL 10 (.agg #[.bool b1, .slice a5 n5 c5, .slice a6 n6 c6]) rfl (by kernel_rfl) (by kernel_rfl) (by kernel_rfl) (fun _ _ _ h => h) (Or.inl ⟨by rfl, ?_⟩) (by assumption) ?_
          · intro ws hSw; obtain ⟨s0, sB⟩ := hSw; have e5 := (sB.cell (p := ⟨b, _, none⟩) hbl).trans q1; have e6 := (sB.cell (p := ⟨b, _, none⟩) hbl).trans q2; have e7 := (sB.cell (p := ⟨b, _, none⟩) hbl).trans q3; go_simp
          try simp only [Act.put, List.setIfInBounds_toArray, List.set_cons_zero, List.set_cons_succ]
          refine wpAnyH_ready (rs := [6]) (by kernel_rfl) (by simp) ?_
          refine consL rfl (fun K hK => ?_) AllReadyH.nil
          go_simp
          have hS := hHeld
          with_reducible refine (check05_any b1 _ _ _ l1 _ _ _ l2 _ (h7.past hS.2) (h8.past hS.2) (by omega) (by omega)).mono ?_
          rintro e w1 ⟨rfl, hbw1⟩
          rw [HX.out]
          refine hK.out _ _ ⟨trivial, below_later hS.2 hbw1⟩ (fun hHeld => ?_)
          clear hK K hS
          try simp only [Act.put, List.setIfInBounds_toArray, List.set_cons_zero, List.set_cons_succ]
          refine wpAnyH_ready (rs := [11]) (by kernel_rfl) (by simp) ?_
          refine consL rfl (fun K hK => ?_) AllReadyH.nil
          go_simp
          have hS := hHeld
          with_reducible refine (rcheck05_any b1 _ _ _ l1 _ _ _ l2 _ (h5.past hS.2) (h6.past hS.2) (by omega) (by omega)).mono ?_
          rintro e w2 ⟨rfl, hbw2⟩
          rw [HX.out]
          refine hK.out _ _ ⟨trivial, below_later hS.2 hbw2⟩ (fun hHeld => ?_)
          clear hK K hS
          try simp only [Act.put, List.setIfInBounds_toArray, List.set_cons_zero, List.set_cons_succ]
          refine takeL 12 (.bool true) rfl (by kernel_rfl) (by kernel_rfl) (by kernel_rfl) (fun _ _ _ h => h) (Or.inl ⟨by rfl, ?_⟩) (by assumption) ?_
          · intro ws hSw; obtain ⟨s0, sB⟩ := hSw; go_simp
          try simp only [Act.put, List.setIfInBounds_toArray, List.set_cons_zero, List.set_cons_succ]
          refine takeL 13 (.bool true) rfl (by kernel_rfl) (by kernel_rfl) (by kernel_rfl) (fun _ _ _ h => h) (Or.inl ⟨by rfl, ?_⟩) (by assumption) ?_
          · intro ws hSw; obtain ⟨s0, sB⟩ := hSw; go_simp
          try simp only [Act.put, List.setIfInBounds_toArray, List.set_cons_zero, List.set_cons_succ]
          refine takeL 14 (.bool true) rfl (by kernel_rfl) (by kernel_rfl) (by kernel_rfl) (fun _ _ _ h => h) (Or.inl ⟨by rfl, ?_⟩) (by assumption) ?_
          · intro ws hSw; obtain ⟨s0, sB⟩ := hSw; go_simp
          try simp only [Act.put, List.setIfInBounds_toArray, List.set_cons_zero, List.set_cons_succ]
          refine takeL 15 (.slice (some ⟨bi, oi, none⟩) k ci) rfl (by kernel_rfl) (by kernel_rfl) (by kernel_rfl) (fun _ _ _ h => h) (Or.inl ⟨by rfl, ?_⟩) (by assumption) ?_
          · intro ws hSw; obtain ⟨s0, sB⟩ := hSw; go_simp
          try simp only [Act.put, List.setIfInBounds_toArray, List.set_cons_zero, List.set_cons_succ]
          refine takeL 16 (.int .i64 (j : Int)) rfl (by kernel_rfl) (by kernel_rfl) (by kernel_rfl) (fun _ _ _ h => h) (Or.inl ⟨by rfl, ?_⟩) (by assumption) ?_
          · intro ws hSw; obtain ⟨s0, sB⟩ := hSw; go_simp
          try simp only [Act.put, List.setIfInBounds_toArray, List.set_cons_zero, List.set_cons_succ]
          refine takeL 17 (.pointer (some ⟨bi, oi + j * 3, none⟩)) rfl (by kernel_rfl) (by kernel_rfl) (by kernel_rfl) (fun _ _ _ h => h) (Or.inl ⟨by rfl, ?_⟩) (by assumption) ?_
          · intro ws hSw; obtain ⟨s0, sB⟩ := hSw; go_simp
          try simp only [Act.put, List.setIfInBounds_toArray, List.set_cons_zero, List.set_cons_succ]
          refine takeL 18 (.agg #[.bool b1, .slice a7 n7 c7, .slice a8 n8 c8]) rfl (by kernel_rfl) (by kernel_rfl) (by kernel_rfl) (fun _ _ _ h => h) (Or.inl ⟨by rfl, ?_⟩) (by assumption) ?_
          · intro ws hSw; obtain ⟨s0, sB⟩ := hSw; have e5 := (sB.cell (p := ⟨bi, _, none⟩) hbi).trans p1; have e6 := (sB.cell (p := ⟨bi, _, none⟩) hbi).trans p2; have e7 := (sB.cell (p := ⟨bi, _, none⟩) hbi).trans p3; go_simp
          try simp only [Act.put, List.setIfInBounds_toArray, List.set_cons_zero, List.set_cons_succ]
          refine takeL 19 (.slice (some ⟨b, o, none⟩) k cc) rfl (by kernel_rfl) (by kernel_rfl) (by kernel_rfl) (fun _ _ _ h => h) (Or.inl ⟨by rfl, ?_⟩) (by assumption) ?_
          · intro ws hSw; obtain ⟨s0, sB⟩ := hSw; go_simp
          try simp only [Act.put, List.setIfInBounds_toArray, List.set_cons_zero, List.set_cons_succ]
          refine takeL 20 (.int .i64 (j : Int)) rfl (by kernel_rfl) (by kernel_rfl) (by kernel_rfl) (fun _ _ _ h => h) (Or.inl ⟨by rfl, ?_⟩) (by assumption) ?_
          · intro ws hSw; obtain ⟨s0, sB⟩ := hSw; go_simp
          try simp only [Act.put, List.setIfInBounds_toArray, List.set_cons_zero, List.set_cons_succ]
          refine takeL 21 (.pointer (some ⟨b, o + j * 3, none⟩)) rfl (by kernel_rfl) (by kernel_rfl) (by kernel_rfl) (fun _ _ _ h => h) (Or.inl ⟨by rfl, ?_⟩) (by assumption) ?_
          · intro ws hSw; obtain ⟨s0, sB⟩ := hSw; go_simp
          try simp only [Act.put, List.setIfInBounds_toArray, List.set_cons_zero, List.set_cons_succ]
          refine takeL 22 (.agg #[.bool b1, .slice a5 n5 c5, .slice a6 n6 c6]) rfl (by kernel_rfl) (by kernel_rfl) (by kernel_rfl) (fun _ _ _ h => h) (Or.inl ⟨by rfl, ?_⟩) (by assumption) ?_
          · intro ws hSw; obtain ⟨s0, sB⟩ := hSw; have e5 := (sB.cell (p := ⟨b, _, none⟩) hbl).trans q1; have e6 := (sB.cell (p := ⟨b, _, none⟩) hbl).trans q2; have e7 := (sB.cell (p := ⟨b, _, none⟩) hbl).trans q3; go_simp
          try simp only [Act.put, List.setIfInBounds_toArray, List.set_cons_zero, List.set_cons_succ]
          refine wpAnyH_ready (rs := [23]) (by kernel_rfl) (by simp) ?_
          refine consL rfl (fun K hK => ?_) AllReadyH.nil
          go_simp
          have hS := hHeld
          with_reducible refine (sameRatio_any b1 _ _ _ l1 _ _ _ l2 b1 _ _ _ l1 _ _ _ l2 _ (h7.past hS.2) (h8.past hS.2) (h5.past hS.2) (h6.past hS.2)).mono ?_
          rintro e w3 ⟨rfl, hbw3⟩
          rw [eqR_same]
          refine hK.out _ _ ⟨trivial, below_later hS.2 hbw3⟩ (fun hHeld => ?_)
          clear hK K hS
          try simp only [Act.put, List.setIfInBounds_toArray, List.set_cons_zero, List.set_cons_succ]
          refine takeL 24 (.bool true) rfl (by kernel_rfl) (by kernel_rfl) (by kernel_rfl) (fun _ _ _ h => h) (Or.inl ⟨by rfl, ?_⟩) (by assumption) ?_
          · intro ws hSw; obtain ⟨s0, sB⟩ := hSw; go_simp
          try simp only [Act.put, List.setIfInBounds_toArray, List.set_cons_zero, List.set_cons_succ]
          refine takeL 25 (.bool true) rfl (by kernel_rfl) (by kernel_rfl) (by kernel_rfl) (fun _ _ _ h => h) (Or.inl ⟨by rfl, ?_⟩) (by assumption) ?_
          · intro ws hSw; obtain ⟨s0, sB⟩ := hSw; go_simp
          try simp only [Act.put, List.setIfInBounds_toArray, List.set_cons_zero, List.set_cons_succ]
          refine wpAnyH_done (by kernel_rfl) ?_ _
          have hbR := hHeld.2
          have gr := gr.past hbR
          have hin := hin.past hbR
          have h5 := h5.past hbR
          have h6 := h6.past hbR
          have h7 := h7.past hbR
          have h8 := h8.past hbR
          have hB := below_later hB hbR
          clear hHeld hbR
          go_wp2
          go_roundw
          case rel => exact ⟨j + 1, by omega, rfl, by go_num, gr, hin, hB⟩
          case measure => simp [intOf]; omega
        · obtain rfl : j = k := by omega
          clear hlt
          go_wp2_with fail
          with_reducible refine (awake05 _).mono ?_
          rintro e w1 ⟨rfl, hb⟩
          have hB := below_later hB hb
          clear hb
          go_wp2
          go_ret
          exact ⟨rfl, hB⟩

theorem ratioFolds_any {ar : Option Addr} {nr cc : Nat} {f : Nat → Bool × List Nat × List Nat} {w : World} (gr : RatsAt w ar nr cc f) :
    Calls Tryz.prog 3 #[.slice ar nr cc] w (RetVal w (.bool true)) := by
  cases hl : longB f nr
  · exact ratioFolds_short ar nr cc f w gr hl
  · exact ratioFolds_long ar nr cc f w gr hl

end Go.Proofs.YtmhjhhcdjecdbaaGreat
