import Derived.Test.YtoecndogaklngaaGreatDoorS0Df
import Derived.Test.YtoecndogaklngaaGreatDoorDigRef4Df
import Derived.Test.YtoecndogaklngaaGreatDoorRefs10Df
set_option linter.unusedVariables false
set_option linter.unusedSimpArgs false
namespace Go.Proofs.YtoecndogaklngaaGreatDoor
open Go.RowKit
theorem ext_list (s : ByteArray) (a b : Nat) : (s.extract a b).data.toList = (s.data.toList.drop a).take (b - a) := by
 rw [ByteArray.data_extract, Array.toList_extract]
theorem ext_from (s : ByteArray) (a : Nat) : (s.extract a s.size).data.toList = s.data.toList.drop a := by
 rw [ext_list, List.take_of_length_le]
 rw [List.length_drop, size_list]
 exact Nat.le_refl _
theorem ext_to (s : ByteArray) (a : Nat) : (s.extract 0 a).data.toList = s.data.toList.take a := by
 rw [ext_list, List.drop_zero, Nat.sub_zero]
theorem bareL_len (l : List UInt8) : (bareL l).length ≤ l.length := by
 unfold bareL
 split
 · rw [List.length_drop]; omega
 · exact Nat.le_refl _
theorem minus_at (s : ByteArray) : minusL s.data.toList = (decide (0 < s.size) && decide (L8 s.data.toList 0 = 45)) := by
 rw [← size_list]
 unfold minusL L8
 cases h : s.data.toList with
 | nil => rfl
 | cons c l =>
   have e : (c = 45) ↔ c.toNat = 45 := by rw [← UInt8.toNat_inj]; rfl
   simp [e]
   rw [Bool.eq_iff_iff]
   simp [e]
set_option maxRecDepth 100000 in
set_option maxHeartbeats 4000000 in
theorem rread_long (s : ByteArray) (w : World) (h : 10000 < s.size) (hs : s.size ≤ 9223372036854775807) :
 Calls Tryz.prog 10 #[.string s] w (RetRead w (false, 0, 0) 4 10000) := by
 go_enter Tryz.func10, Tryz.ntmps10
 go_wp2
 refine bodyPost_ret (v := .tuple #[.agg #[.bool false, .slice none 0 0, .slice none 0 0], .agg #[.int .i64 4, .int .i64 10000]]) (by simp [results, Tryz.results10, go_sem]) rfl ⟨none, 0, 0, none, 0, 0, rfl, OwnAt.nil _ _, OwnAt.nil _ _, ?_⟩
 exact ((Below.refl _ _).alloc (Nat.le_refl _) _).alloc (by simp) _
set_option maxRecDepth 100000 in
set_option maxHeartbeats 8000000 in
theorem rread_empty (s : ByteArray) (w : World) (h : s.size ≤ 10000) (h0 : s.size = 0) :
 Calls Tryz.prog 10 #[.string s] w (RetRead w (readR s.data.toList) (readE s.data.toList) (readA s.data.toList)) := by
 have HS := Lib.hid h
 have tS : decide ((10000 : Int) < (s.size : Int)) = false := decide_eq_false (by omega)
 have hM := minus_at s
 rw [show decide (0 < s.size) = false from decide_eq_false (by omega), Bool.false_and] at hM
 have hRL : s.data.toList = bareL s.data.toList := by unfold bareL; rw [hM]; rfl
 have t1 : ¬ (0 : Int) < (s.size : Int) := by omega
 have t2 : decide ((0 : Int) < (s.size : Int)) = false := decide_eq_false t1
 have HM : Hid (minusL s.data.toList = false) := Lib.hid hM
 have hRl : s.size ≤ 10000 := by
  rw [← size_list, hRL]
  have h1 := size_list s
  have h2 := bareL_len s.data.toList
  omega
 have hpl := slashL_le s.data.toList
 rw [size_list] at hpl
 have hnb := fun i => slashL_before (l := s.data.toList) (i := i)
 have hat := slashL_at (l := s.data.toList)
 rw [size_list] at hat
 have hU := ext_to s (slashL s.data.toList)
 have hV := ext_from s (slashL s.data.toList + 1)
 have hrp : readP s.data.toList = if okL (s.data.toList.take (slashL s.data.toList)) then
  if slashL s.data.toList < s.size then
   if okL (s.data.toList.drop (slashL s.data.toList + 1)) then some (false && decide (getN (s.data.toList.take (slashL s.data.toList)) ≠ 0), getN (s.data.toList.take (slashL s.data.toList)), getN (s.data.toList.drop (slashL s.data.toList + 1))) else none
  else some (false && decide (getN (s.data.toList.take (slashL s.data.toList)) ≠ 0), getN (s.data.toList.take (slashL s.data.toList)), 1)
 else none := by
  unfold readP
  rw [← hRL, HM.out, size_list]
 obtain ⟨P, hP⟩ : ∃ P, slashL s.data.toList = P := ⟨_, rfl⟩
 rw [hP] at hpl hat hU hV hrp
 simp only [hP] at hnb
 obtain ⟨U, hUe⟩ : ∃ U, s.extract 0 P = U := ⟨_, rfl⟩
 obtain ⟨V, hVe⟩ : ∃ V, s.extract (P + 1) s.size = V := ⟨_, rfl⟩
 rw [hUe] at hU
 rw [hVe] at hV
 rw [← hU, ← hV] at hrp
 have hUs : U.size ≤ 10000 := by rw [← size_list, hU, List.length_take, size_list]; omega
 have hVs : V.size ≤ 10000 := by rw [← size_list, hV, List.length_drop, size_list]; omega
 have hgu := fun w => rget_any U w (by omega)
 have hgv := fun w => rget_any V w (by omega)
 have hln5 := getN_len U.data.toList
 have hln6 := getN_len V.data.toList
 have hoku := getE_ok U.data.toList
 have hokv := getE_ok V.data.toList
 obtain ⟨N, hN⟩ : ∃ N, getN U.data.toList = N := ⟨_, rfl⟩
 obtain ⟨E, hE⟩ : ∃ E, getE U.data.toList = E := ⟨_, rfl⟩
 obtain ⟨A, hA⟩ : ∃ A, getA U.data.toList = A := ⟨_, rfl⟩
 obtain ⟨N2, hN2⟩ : ∃ N2, getN V.data.toList = N2 := ⟨_, rfl⟩
 obtain ⟨E2, hE2⟩ : ∃ E2, getE V.data.toList = E2 := ⟨_, rfl⟩
 obtain ⟨A2, hA2⟩ : ∃ A2, getA V.data.toList = A2 := ⟨_, rfl⟩
 rw [hN] at hln5 hrp
 rw [hN2] at hln6 hrp
 rw [hE] at hoku
 rw [hE2] at hokv
 simp only [hN, hE, hA] at hgu
 simp only [hN2, hE2, hA2] at hgv
 have HNB := Lib.hid hnb
 have HAT := Lib.hid hat
 have HRPP := Lib.hid hrp
 have HGU := Lib.hid hgu
 have HGV := Lib.hid hgv
 have LN5 := Lib.hid hln5
 have LN6 := Lib.hid hln6
 have HOKU := Lib.hid hoku
 have HOKV := Lib.hid hokv
 clear hnb hat hU hV hrp hP hRL hM hgu hgv hln5 hln6 hoku hokv hN hE hA hN2 hE2 hA2 hUs hVs h
 go_enter Tryz.func10, Tryz.ntmps10
 go_wp2_with fail
 obtain ⟨wA, hWA, zA, hbA, qA, fA⟩ := box1g w (w.heap.size) rfl #[.bool false, .slice none 0 0, .slice none 0 0] 27
 rw [hWA]
 obtain ⟨wB, hWB, zB, hbB, qB, fB⟩ := box1g wA (w.heap.size + 1) (by omega) #[.int .i64 0, .int .i64 0] 35
 rw [hWB]
 obtain ⟨wC, hWC, zC, hbC, qC, fC⟩ := box1g wB (w.heap.size + 1 + 1) (by omega) #[.int .i64 6, .int .i64 0] 35
 rw [hWC]
 have hX : Boxes3 w wC w.heap.size := by
  have b2 : BoxAt wA w.heap.size 3 := BoxAt.of qA fA rfl (by simp [notU_bool, notU_slice])
  have b3 : BoxAt wB (w.heap.size + 1) 2 := BoxAt.of qB fB rfl (by simp [notU_i64])
  exact ⟨(b2.past hbB (by omega)).past hbC (by omega), b3.past hbC (by omega), qC 0, qC 1, by omega, below_later (below_later hbA hbB) hbC⟩
 clear qA fA qB fB qC fC hWA hWB hWC zA zB zC hbA hbB hbC
 go_loopw [7] (fun s7 wr => ∃ j : Nat, j ≤ P ∧ s7 = .int .i64 (j : Int) ∧ wr = wC) (fun s7 _ => P - (intOf s7).toNat)
 case atStart => exact ⟨0, Nat.zero_le _, rfl, rfl⟩
 case round =>
  obtain ⟨j, hj, rfl, rfl⟩ := hrel
  by_cases hlt : j < P
  · exact absurd hlt (by omega)
  · obtain rfl : j = P := by omega
    have hB := hX.bel
    by_cases hpr : j < s.size
    · exact absurd hpr (by omega)
    · have hrp := HRPP.out
      rw [if_neg hpr] at hrp
      have HRQ := Lib.hid hrp
      have tj : ¬ (j : Int) < (s.size : Int) := by omega
      have tj0 : decide ((j : Int) < (s.size : Int)) = false := decide_eq_false tj
      have tj3 : (j : Int) ≤ (s.size : Int) := by omega
      clear hrp
      by_cases hE : E = 0
      · have HE := Lib.hid (HOKU.out.1 hE)
        have tE : ((E : Int) != 0) = false := bne_eq_false_iff_eq.2 (by omega)
        clear hE
        have hrp := HRQ.out
        rw [HE.out] at hrp
        have HRP : Hid (readP s.data.toList = some (false && decide (N ≠ 0), N, 1)) := Lib.hid hrp
        clear hrp
        go_wp2_with fail
        refine (HGU.out _).mono ?_
        rintro e w31 ⟨a5, n5, c5, rfl, h5, hb⟩
        have h5 := h5.mono hB.size
        have hX := hX.past hb
        have hB := below_later hB hb
        clear hb
        have szc := hB.size
        go_wp2_with fail
        obtain ⟨w32, hW, hz0, hb, q, f⟩ := box1g w31 (w31.heap.size) (by omega) #[.int .i64 (E : Int), .int .i64 (A : Int)] 35
        rw [hW]
        clear hW
        have hX := hX.past hb
        have h5 := h5.past hb
        have hB := below_later hB hb
        clear hb
        have lf : w31.heap.size < w32.heap.size := by omega
        have qf0 := q 0; have qf1 := q 1
        simp only [lgA, lgZ, lgS] at qf0 qf1
        clear q f
        obtain ⟨w33, hW, hz1, hb, q, f⟩ := box1g w32 (w31.heap.size + 1) (by omega) #[.int .u64 1] 42
        have h0one : OwnAt w33 w32.heap.size (some ⟨w31.heap.size + 1, 0, none⟩) 1 1 [1] := by rw [← hW]; exact litG _ _ _ [1] 1 (by omega) rfl rfl (by decide) (by first | decide | (simp; omega))
        rw [hW]
        clear hW
        have hX := hX.past hb
        have h5 := h5.past hb
        obtain ⟨qf0, qf1, lf⟩ := bq2 hb lf qf0 qf1
        have hB := below_later hB hb
        clear hb
        have one := h0one
        clear h0one
        have one := one.mono (B' := w.heap.size) (by omega)
        clear q f
        clear hz0
        clear hz1
        have hn5 : n5 ≤ 10000 := by have := h5.len; have := LN5.out; omega
        obtain ⟨d, hdd⟩ : ∃ d, 1 = d := ⟨_, rfl⟩
        have h6 := one
        rw [show ([1] : List Nat) = digs d by rw [← hdd]; decide] at h6
        rw [hdd] at HRP
        clear one hdd
        have hmk : ∀ (w : World), NatAt w a5 n5 c5 (digs N) → Calls Tryz.prog 27 #[.bool false, .slice a5 n5 c5] w (RetInt w (sg false N)) := fun w h => by
         have := rsmake_any false a5 n5 c5 (digs N) w h (by omega)
         rwa [val_digs] at this
        have HMK := Lib.hid hmk
        have eB : neg (sg false N) = (false && decide (N ≠ 0)) := by
         rw [neg_sg]
         by_cases e : N = 0
         · subst e; simp
         · have e2 : 0 < N := Nat.pos_of_ne_zero e
           simp [e, e2]
        obtain ⟨Z, hZ⟩ : ∃ Z, (false && decide (N ≠ 0)) = Z := ⟨_, rfl⟩
        have hZN : Z = true → N ≠ 0 := by
         intro e
         rw [← hZ] at e
         cases hN0 : decide (N ≠ 0) with
         | true => exact of_decide_eq_true hN0
         | false => rw [hN0] at e; simp at e
        rw [hZ] at eB
        rw [hZ] at HRP
        have HZN := Lib.hid hZN
        have HEB := Lib.hid eB
        clear hmk hZ hZN eB
        have hln := LN5.out
        have htx := fun w a n c (g1 : NatAt w a n c (digs N)) (g2 : NatAt w (some ⟨w31.heap.size + 1, 0, none⟩) 1 1 (digs d)) (hn : n ≤ 100000) => rtext_any Z a n c (digs N) (some ⟨w31.heap.size + 1, 0, none⟩) 1 1 (digs d) w g1 g2 hn (by omega)
        clear hln
        by_cases hc : chkR Z (digs N) (digs d) = 0
        · have hT : textE Z (digs N) (digs d) = textB Z N d := by
           unfold textE
           rw [if_pos hc, val_digs, val_digs]
          simp only [hT, hc] at htx
          obtain ⟨T, hTT⟩ : ∃ T, textB Z N d = T := ⟨_, rfl⟩
          rw [hTT] at htx
          have HTX := Lib.hid htx
          have HTT := Lib.hid hTT
          have HC := Lib.hid hc
          clear htx hTT hT hc
          by_cases hs : T = s
          · subst hs
            go_wp2_with fail
            refine (HMK.out _ h5.toNatAt).mono ?_
            rintro e w34 ⟨aU, nU, cU, rfl, hU, hb⟩
            have hU := hU.mono hB.size
            have hX := hX.past hb
            have h5 := h5.past hb
            have h6 := h6.past hb
            obtain ⟨qf0, qf1, lf⟩ := bq2 hb lf qf0 qf1
            have hB := below_later hB hb
            clear hb
            rw [natAbs_sg] at hU
            rw [HEB.out]
            go_wp2_with fail
            obtain ⟨w35, hW, hz0, hb, q, f⟩ := box1g w34 (w34.heap.size) (by omega) #[.bool Z, .slice aU nU cU, .slice (some ⟨w31.heap.size + 1, 0, none⟩) 1 1] 27
            rw [hW]
            clear hW
            have hX := hX.past hb
            have h5 := h5.past hb
            have h6 := h6.past hb
            have hU := hU.past hb
            obtain ⟨qf0, qf1, lf⟩ := bq2 hb lf qf0 qf1
            have hB := below_later hB hb
            clear hb
            have lx : w34.heap.size < w35.heap.size := by omega
            have qx0 := q 0; have qx1 := q 1; have qx2 := q 2
            simp only [lgA, lgZ, lgS] at qx0 qx1 qx2
            clear q f
            clear hz0
            refine (HTX.out _ _ _ _ hU.toNatAt h6.toNatAt (by have := hU.len; have := LN5.out; omega)).mono ?_
            rintro e w36 ⟨rfl, hb⟩
            have hX := hX.past hb
            have h5 := h5.past hb
            have h6 := h6.past hb
            have hU := hU.past hb
            obtain ⟨qf0, qf1, lf⟩ := bq2 hb lf qf0 qf1
            obtain ⟨qx0, qx1, qx2, lx⟩ := bq3 hb lx qx0 qx1 qx2
            have hB := below_later hB hb
            clear hb
            obtain ⟨u0, u1, u2, r0, r1, r2, p0, p1, p2, m0, m1, m2⟩ := hX.x2.three
            obtain ⟨u3, u4, r3, r4, p3, p4, m3, m4⟩ := hX.x3.two
            go_wp2_with fail
            obtain ⟨wY, hWY, hbY, y0, y1, y2, y3, y4, hown⟩ := hX.put Z aU nU cU (some ⟨w31.heap.size + 1, 0, none⟩) 1 1 0 0
            rw [hWY]
            refine bodyPost_ret (v := .tuple #[.agg #[.bool Z, .slice aU nU cU, .slice (some ⟨w31.heap.size + 1, 0, none⟩) 1 1], .agg #[.int .i64 0, .int .i64 0]]) (by simp [results, Tryz.results10, go_sem, y0, y1, y2, y3, y4]) rfl ?_
            have hl : T.data.toList.length ≤ 10000 := by rw [size_list]; exact HS.out
            have hte : textP Z N d = T.data.toList := by rw [← HTT.out, textB_list]
            obtain ⟨e1, e2, e3⟩ := told_yes hl HRP.out (by rw [partsOk_chk HZN.out, HC.out, hte]; simp)
            rw [e1, e2, e3]
            exact ⟨aU, nU, cU, (some ⟨w31.heap.size + 1, 0, none⟩), 1, 1, rfl, hown _ _ _ _ _ hU, hown _ _ _ _ _ h6, hbY⟩
          · have HTS := Lib.hid hs
            have tT : (T.toList == s.toList) = false := by
             rw [beq_eq_false_iff_ne]
             intro e
             rw [toList_data, toList_data] at e
             exact hs (by cases T; cases s; congr 1; exact Array.toList_inj.1 e)
            clear hs
            go_wp2_with fail
            refine (HMK.out _ h5.toNatAt).mono ?_
            rintro e w34 ⟨aU, nU, cU, rfl, hU, hb⟩
            have hU := hU.mono hB.size
            have hX := hX.past hb
            have h5 := h5.past hb
            have h6 := h6.past hb
            obtain ⟨qf0, qf1, lf⟩ := bq2 hb lf qf0 qf1
            have hB := below_later hB hb
            clear hb
            rw [natAbs_sg] at hU
            rw [HEB.out]
            go_wp2_with fail
            obtain ⟨w35, hW, hz0, hb, q, f⟩ := box1g w34 (w34.heap.size) (by omega) #[.bool Z, .slice aU nU cU, .slice (some ⟨w31.heap.size + 1, 0, none⟩) 1 1] 27
            rw [hW]
            clear hW
            have hX := hX.past hb
            have h5 := h5.past hb
            have h6 := h6.past hb
            have hU := hU.past hb
            obtain ⟨qf0, qf1, lf⟩ := bq2 hb lf qf0 qf1
            have hB := below_later hB hb
            clear hb
            have lx : w34.heap.size < w35.heap.size := by omega
            have qx0 := q 0; have qx1 := q 1; have qx2 := q 2
            simp only [lgA, lgZ, lgS] at qx0 qx1 qx2
            clear q f
            clear hz0
            refine (HTX.out _ _ _ _ hU.toNatAt h6.toNatAt (by have := hU.len; have := LN5.out; omega)).mono ?_
            rintro e w36 ⟨rfl, hb⟩
            have hX := hX.past hb
            have h5 := h5.past hb
            have h6 := h6.past hb
            have hU := hU.past hb
            obtain ⟨qf0, qf1, lf⟩ := bq2 hb lf qf0 qf1
            obtain ⟨qx0, qx1, qx2, lx⟩ := bq3 hb lx qx0 qx1 qx2
            have hB := below_later hB hb
            clear hb
            go_wp2_with fail
            have q2a := hX.q0
            have q2b := hX.q1
            obtain ⟨u0, u1, u2, r0, r1, r2, p0, p1, p2, m0, m1, m2⟩ := hX.x2.three
            obtain ⟨u3, u4, r3, r4, p3, p4, m3, m4⟩ := hX.x3.two
            go_region
            obtain ⟨wY, hWY, hbY, y0, y1, y2, y3, y4, _⟩ := hX.put false none 0 0 none 0 0 6 0
            rw [hWY]
            clear hWY
            go_wp2_with fail
            refine bodyPost_ret (v := .tuple #[.agg #[.bool false, .slice none 0 0, .slice none 0 0], .agg #[.int .i64 6, .int .i64 0]]) (by simp [results, Tryz.results10, go_sem, y0, y1, y2, y3, y4]) rfl ?_
            have hl : s.data.toList.length ≤ 10000 := by rw [size_list]; exact HS.out
            obtain ⟨e1, e2, e3⟩ := told_bad hl (HRP.out) (by rw [partsOk_chk HZN.out]; have : textP Z N d ≠ s.data.toList := (by intro e; apply HTS.out; rw [← HTT.out]; unfold textB; rw [e]); simp [this])
            rw [e1, e2, e3]
            exact ⟨none, 0, 0, none, 0, 0, rfl, OwnAt.nil _ _, OwnAt.nil _ _, hbY.drew⟩
        · have hT : textE Z (digs N) (digs d) = ⟨#[]⟩ := if_neg hc
          simp only [hT, chkR_no hc] at htx
          have HTX := Lib.hid htx
          have HC := Lib.hid hc
          clear htx hT hc
          go_wp2_with fail
          refine (HMK.out _ h5.toNatAt).mono ?_
          rintro e w34 ⟨aU, nU, cU, rfl, hU, hb⟩
          have hU := hU.mono hB.size
          have hX := hX.past hb
          have h5 := h5.past hb
          have h6 := h6.past hb
          obtain ⟨qf0, qf1, lf⟩ := bq2 hb lf qf0 qf1
          have hB := below_later hB hb
          clear hb
          rw [natAbs_sg] at hU
          rw [HEB.out]
          go_wp2_with fail
          obtain ⟨w35, hW, hz0, hb, q, f⟩ := box1g w34 (w34.heap.size) (by omega) #[.bool Z, .slice aU nU cU, .slice (some ⟨w31.heap.size + 1, 0, none⟩) 1 1] 27
          rw [hW]
          clear hW
          have hX := hX.past hb
          have h5 := h5.past hb
          have h6 := h6.past hb
          have hU := hU.past hb
          obtain ⟨qf0, qf1, lf⟩ := bq2 hb lf qf0 qf1
          have hB := below_later hB hb
          clear hb
          have lx : w34.heap.size < w35.heap.size := by omega
          have qx0 := q 0; have qx1 := q 1; have qx2 := q 2
          simp only [lgA, lgZ, lgS] at qx0 qx1 qx2
          clear q f
          clear hz0
          refine (HTX.out _ _ _ _ hU.toNatAt h6.toNatAt (by have := hU.len; have := LN5.out; omega)).mono ?_
          rintro e w36 ⟨rfl, hb⟩
          have hX := hX.past hb
          have h5 := h5.past hb
          have h6 := h6.past hb
          have hU := hU.past hb
          obtain ⟨qf0, qf1, lf⟩ := bq2 hb lf qf0 qf1
          obtain ⟨qx0, qx1, qx2, lx⟩ := bq3 hb lx qx0 qx1 qx2
          have hB := below_later hB hb
          clear hb
          go_wp2_with fail
          have q2a := hX.q0
          have q2b := hX.q1
          obtain ⟨u0, u1, u2, r0, r1, r2, p0, p1, p2, m0, m1, m2⟩ := hX.x2.three
          obtain ⟨u3, u4, r3, r4, p3, p4, m3, m4⟩ := hX.x3.two
          go_region
          obtain ⟨wY, hWY, hbY, y0, y1, y2, y3, y4, _⟩ := hX.put false none 0 0 none 0 0 6 0
          rw [hWY]
          clear hWY
          go_wp2_with fail
          refine bodyPost_ret (v := .tuple #[.agg #[.bool false, .slice none 0 0, .slice none 0 0], .agg #[.int .i64 6, .int .i64 0]]) (by simp [results, Tryz.results10, go_sem, y0, y1, y2, y3, y4]) rfl ?_
          have hl : s.data.toList.length ≤ 10000 := by rw [size_list]; exact HS.out
          obtain ⟨e1, e2, e3⟩ := told_bad hl (HRP.out) (by rw [partsOk_chk HZN.out]; have := HC.out; simp [this])
          rw [e1, e2, e3]
          exact ⟨none, 0, 0, none, 0, 0, rfl, OwnAt.nil _ _, OwnAt.nil _ _, hbY.drew⟩
      · have tE : ((E : Int) != 0) = true := bne_iff_ne.2 (by omega)
        have HNO := Lib.hid hE
        clear hE
        go_wp2_with fail
        refine (HGU.out _).mono ?_
        rintro e w31 ⟨a5, n5, c5, rfl, h5, hb⟩
        have h5 := h5.mono hB.size
        have hX := hX.past hb
        have hB := below_later hB hb
        clear hb
        have szc := hB.size
        go_wp2_with fail
        obtain ⟨w32, hW, hz0, hb, q, f⟩ := box1g w31 (w31.heap.size) (by omega) #[.int .i64 (E : Int), .int .i64 (A : Int)] 35
        rw [hW]
        clear hW
        have hX := hX.past hb
        have h5 := h5.past hb
        have hB := below_later hB hb
        clear hb
        have lf : w31.heap.size < w32.heap.size := by omega
        have qf0 := q 0; have qf1 := q 1
        simp only [lgA, lgZ, lgS] at qf0 qf1
        clear q f
        obtain ⟨w33, hW, hz1, hb, q, f⟩ := box1g w32 (w31.heap.size + 1) (by omega) #[.int .u64 1] 42
        have h0one : OwnAt w33 w32.heap.size (some ⟨w31.heap.size + 1, 0, none⟩) 1 1 [1] := by rw [← hW]; exact litG _ _ _ [1] 1 (by omega) rfl rfl (by decide) (by first | decide | (simp; omega))
        rw [hW]
        clear hW
        have hX := hX.past hb
        have h5 := h5.past hb
        obtain ⟨qf0, qf1, lf⟩ := bq2 hb lf qf0 qf1
        have hB := below_later hB hb
        clear hb
        have one := h0one
        clear h0one
        have one := one.mono (B' := w.heap.size) (by omega)
        clear q f
        clear hz0
        clear hz1
        have q2a := hX.q0
        have q2b := hX.q1
        obtain ⟨u0, u1, u2, r0, r1, r2, p0, p1, p2, m0, m1, m2⟩ := hX.x2.three
        obtain ⟨u3, u4, r3, r4, p3, p4, m3, m4⟩ := hX.x3.two
        go_region
        obtain ⟨wY, hWY, hbY, y0, y1, y2, y3, y4, _⟩ := hX.put false none 0 0 none 0 0 6 0
        rw [hWY]
        clear hWY
        go_wp2_with fail
        refine bodyPost_ret (v := .tuple #[.agg #[.bool false, .slice none 0 0, .slice none 0 0], .agg #[.int .i64 6, .int .i64 0]]) (by simp [results, Tryz.results10, go_sem, y0, y1, y2, y3, y4]) rfl ?_
        have hl : s.data.toList.length ≤ 10000 := by rw [size_list]; exact HS.out
        obtain ⟨e1, e2, e3⟩ := told_none hl (by rw [HRQ.out]; cases hq : okL U.data.toList with | false => rfl | true => exact absurd (HOKU.out.2 hq) HNO.out)
        rw [e1, e2, e3]
        exact ⟨none, 0, 0, none, 0, 0, rfl, OwnAt.nil _ _, OwnAt.nil _ _, hbY.drew⟩
set_option maxRecDepth 100000 in
set_option maxHeartbeats 8000000 in
theorem rread_minus (s : ByteArray) (w : World) (h : s.size ≤ 10000) (h0 : 0 < s.size) (h1 : L8 s.data.toList 0 = 45) :
 Calls Tryz.prog 10 #[.string s] w (RetRead w (readR s.data.toList) (readE s.data.toList) (readA s.data.toList)) := by
 have HS := Lib.hid h
 have tS : decide ((10000 : Int) < (s.size : Int)) = false := decide_eq_false (by omega)
 have hM := minus_at s
 rw [h1, show decide (0 < s.size) = true from decide_eq_true h0] at hM
 have hM : minusL s.data.toList = true := hM
 obtain ⟨R, hRe⟩ : ∃ R, s.extract 1 s.size = R := ⟨_, rfl⟩
 have hRL : R.data.toList = bareL s.data.toList := by unfold bareL; rw [hM, ← hRe, ext_from]; rfl
 have t2 : decide ((0 : Int) < (s.size : Int)) = true := decide_eq_true (by omega)
 have t3 : (1 : Int) ≤ (s.size : Int) := by omega
 have hix : ∀ W, (Instr.index 9 (.string s) (.int .i64 0)).run Tryz.prog W = .ok (.int .u8 45) W := fun W => by
  have := str_index s 0 h0 W
  rw [h1] at this
  exact this
 have HM : Hid (minusL s.data.toList = true) := Lib.hid hM
 have hRl : R.size ≤ 10000 := by
  rw [← size_list, hRL]
  have h1 := size_list s
  have h2 := bareL_len s.data.toList
  omega
 have hpl := slashL_le R.data.toList
 rw [size_list] at hpl
 have hnb := fun i => slashL_before (l := R.data.toList) (i := i)
 have hat := slashL_at (l := R.data.toList)
 rw [size_list] at hat
 have hU := ext_to R (slashL R.data.toList)
 have hV := ext_from R (slashL R.data.toList + 1)
 have hrp : readP s.data.toList = if okL (R.data.toList.take (slashL R.data.toList)) then
  if slashL R.data.toList < R.size then
   if okL (R.data.toList.drop (slashL R.data.toList + 1)) then some (true && decide (getN (R.data.toList.take (slashL R.data.toList)) ≠ 0), getN (R.data.toList.take (slashL R.data.toList)), getN (R.data.toList.drop (slashL R.data.toList + 1))) else none
  else some (true && decide (getN (R.data.toList.take (slashL R.data.toList)) ≠ 0), getN (R.data.toList.take (slashL R.data.toList)), 1)
 else none := by
  unfold readP
  rw [← hRL, HM.out, size_list]
 obtain ⟨P, hP⟩ : ∃ P, slashL R.data.toList = P := ⟨_, rfl⟩
 rw [hP] at hpl hat hU hV hrp
 simp only [hP] at hnb
 obtain ⟨U, hUe⟩ : ∃ U, R.extract 0 P = U := ⟨_, rfl⟩
 obtain ⟨V, hVe⟩ : ∃ V, R.extract (P + 1) R.size = V := ⟨_, rfl⟩
 rw [hUe] at hU
 rw [hVe] at hV
 rw [← hU, ← hV] at hrp
 have hUs : U.size ≤ 10000 := by rw [← size_list, hU, List.length_take, size_list]; omega
 have hVs : V.size ≤ 10000 := by rw [← size_list, hV, List.length_drop, size_list]; omega
 have hgu := fun w => rget_any U w (by omega)
 have hgv := fun w => rget_any V w (by omega)
 have hln5 := getN_len U.data.toList
 have hln6 := getN_len V.data.toList
 have hoku := getE_ok U.data.toList
 have hokv := getE_ok V.data.toList
 obtain ⟨N, hN⟩ : ∃ N, getN U.data.toList = N := ⟨_, rfl⟩
 obtain ⟨E, hE⟩ : ∃ E, getE U.data.toList = E := ⟨_, rfl⟩
 obtain ⟨A, hA⟩ : ∃ A, getA U.data.toList = A := ⟨_, rfl⟩
 obtain ⟨N2, hN2⟩ : ∃ N2, getN V.data.toList = N2 := ⟨_, rfl⟩
 obtain ⟨E2, hE2⟩ : ∃ E2, getE V.data.toList = E2 := ⟨_, rfl⟩
 obtain ⟨A2, hA2⟩ : ∃ A2, getA V.data.toList = A2 := ⟨_, rfl⟩
 rw [hN] at hln5 hrp
 rw [hN2] at hln6 hrp
 rw [hE] at hoku
 rw [hE2] at hokv
 simp only [hN, hE, hA] at hgu
 simp only [hN2, hE2, hA2] at hgv
 have HNB := Lib.hid hnb
 have HAT := Lib.hid hat
 have HRPP := Lib.hid hrp
 have HGU := Lib.hid hgu
 have HGV := Lib.hid hgv
 have LN5 := Lib.hid hln5
 have LN6 := Lib.hid hln6
 have HOKU := Lib.hid hoku
 have HOKV := Lib.hid hokv
 clear hnb hat hU hV hrp hP hRL hM hgu hgv hln5 hln6 hoku hokv hN hE hA hN2 hE2 hA2 hUs hVs h
 go_enter Tryz.func10, Tryz.ntmps10
 go_wp2_with fail
 obtain ⟨wA, hWA, zA, hbA, qA, fA⟩ := box1g w (w.heap.size) rfl #[.bool false, .slice none 0 0, .slice none 0 0] 27
 rw [hWA]
 obtain ⟨wB, hWB, zB, hbB, qB, fB⟩ := box1g wA (w.heap.size + 1) (by omega) #[.int .i64 0, .int .i64 0] 35
 rw [hWB]
 obtain ⟨wC, hWC, zC, hbC, qC, fC⟩ := box1g wB (w.heap.size + 1 + 1) (by omega) #[.int .i64 6, .int .i64 0] 35
 rw [hWC]
 have hX : Boxes3 w wC w.heap.size := by
  have b2 : BoxAt wA w.heap.size 3 := BoxAt.of qA fA rfl (by simp [notU_bool, notU_slice])
  have b3 : BoxAt wB (w.heap.size + 1) 2 := BoxAt.of qB fB rfl (by simp [notU_i64])
  exact ⟨(b2.past hbB (by omega)).past hbC (by omega), b3.past hbC (by omega), qC 0, qC 1, by omega, below_later (below_later hbA hbB) hbC⟩
 clear qA fA qB fB qC fC hWA hWB hWC zA zB zC hbA hbB hbC
 go_loopw [7] (fun s7 wr => ∃ j : Nat, j ≤ P ∧ s7 = .int .i64 (j : Int) ∧ wr = wC) (fun s7 _ => P - (intOf s7).toNat)
 case atStart => exact ⟨0, Nat.zero_le _, rfl, rfl⟩
 case round =>
  obtain ⟨j, hj, rfl, rfl⟩ := hrel
  by_cases hlt : j < P
  · have hij := fun W => str_index R j (by omega) W
    have hne := HNB.out j hlt
    obtain ⟨X2, hX2⟩ : ∃ X, L8 R.data.toList j = X := ⟨_, rfl⟩
    rw [hX2] at hne
    simp only [hX2] at hij
    have tn : ((X2 : Int) != 47) = true := bne_iff_ne.2 (by omega)
    have tj : (j : Int) < (R.size : Int) := by omega
    have HLT := Lib.hid hlt
    clear hX2
    go_wp2_with fail
    go_roundw
    case measure => have := HLT.out; simp [intOf] <;> omega
    case rel => exact ⟨j + 1, by have := HLT.out; omega, by go_num, by trivial⟩
  · obtain rfl : j = P := by omega
    have hB := hX.bel
    by_cases hpr : j < R.size
    · have hij : ∀ W, (Instr.index 9 (.string R) (.int .i64 (j : Int))).run Tryz.prog W = .ok (.int .u8 47) W := fun W => by
       have := str_index R j hpr W
       rw [HAT.out hpr] at this
       exact this
      have hrp := HRPP.out
      rw [if_pos hpr] at hrp
      have HRQ := Lib.hid hrp
      have tj : (j : Int) < (R.size : Int) := by omega
      have tj2 : (j : Int) + 1 ≤ (R.size : Int) := by omega
      have tj3 : (j : Int) ≤ (R.size : Int) := by omega
      clear hrp
      by_cases hE2 : E2 = 0
      · have HE2 := Lib.hid (HOKV.out.1 hE2)
        have tE2 : ((E2 : Int) != 0) = false := bne_eq_false_iff_eq.2 (by omega)
        clear hE2
        by_cases hE : E = 0
        · have HE := Lib.hid (HOKU.out.1 hE)
          have tE : ((E : Int) != 0) = false := bne_eq_false_iff_eq.2 (by omega)
          clear hE
          have hrp := HRQ.out
          rw [HE.out, HE2.out] at hrp
          have HRP : Hid (readP s.data.toList = some (true && decide (N ≠ 0), N, N2)) := Lib.hid hrp
          clear hrp
          by_cases hd0 : N2 = 0
          · subst hd0
            go_wp2_with fail
            refine (HGU.out _).mono ?_
            rintro e w31 ⟨a5, n5, c5, rfl, h5, hb⟩
            have h5 := h5.mono hB.size
            have hX := hX.past hb
            have hB := below_later hB hb
            clear hb
            have szc := hB.size
            go_wp2_with fail
            obtain ⟨w32, hW, hz0, hb, q, f⟩ := box1g w31 (w31.heap.size) (by omega) #[.int .i64 (E : Int), .int .i64 (A : Int)] 35
            rw [hW]
            clear hW
            have hX := hX.past hb
            have h5 := h5.past hb
            have hB := below_later hB hb
            clear hb
            have lf : w31.heap.size < w32.heap.size := by omega
            have qf0 := q 0; have qf1 := q 1
            simp only [lgA, lgZ, lgS] at qf0 qf1
            clear q f
            obtain ⟨w33, hW, hz1, hb, q, f⟩ := box1g w32 (w31.heap.size + 1) (by omega) #[.int .u64 1] 42
            have h0one : OwnAt w33 w32.heap.size (some ⟨w31.heap.size + 1, 0, none⟩) 1 1 [1] := by rw [← hW]; exact litG _ _ _ [1] 1 (by omega) rfl rfl (by decide) (by first | decide | (simp; omega))
            rw [hW]
            clear hW
            have hX := hX.past hb
            have h5 := h5.past hb
            obtain ⟨qf0, qf1, lf⟩ := bq2 hb lf qf0 qf1
            have hB := below_later hB hb
            clear hb
            have one := h0one
            clear h0one
            have one := one.mono (B' := w.heap.size) (by omega)
            clear q f
            clear hz0
            clear hz1
            refine (HGV.out _).mono ?_
            rintro e w34 ⟨a6, n6, c6, rfl, h6, hb⟩
            have h6 := h6.mono hB.size
            have hX := hX.past hb
            have h5 := h5.past hb
            have one := one.past hb
            obtain ⟨qf0, qf1, lf⟩ := bq2 hb lf qf0 qf1
            have hB := below_later hB hb
            clear hb
            have l6 := h6.len
            rw [digs_zero] at l6
            obtain rfl : n6 = 0 := l6.symm
            clear l6
            go_wp2_with fail
            obtain ⟨w35, hW, hz0, hb, q, f⟩ := box1g w34 (w34.heap.size) (by omega) #[.int .i64 (E2 : Int), .int .i64 (A2 : Int)] 35
            rw [hW]
            clear hW
            have hX := hX.past hb
            have h5 := h5.past hb
            have one := one.past hb
            have h6 := h6.past hb
            obtain ⟨qf0, qf1, lf⟩ := bq2 hb lf qf0 qf1
            have hB := below_later hB hb
            clear hb
            have lf2 : w34.heap.size < w35.heap.size := by omega
            have qf20 := q 0; have qf21 := q 1
            simp only [lgA, lgZ, lgS] at qf20 qf21
            clear q f
            clear hz0
            have q2a := hX.q0
            have q2b := hX.q1
            obtain ⟨u0, u1, u2, r0, r1, r2, p0, p1, p2, m0, m1, m2⟩ := hX.x2.three
            obtain ⟨u3, u4, r3, r4, p3, p4, m3, m4⟩ := hX.x3.two
            go_region
            obtain ⟨wY, hWY, hbY, y0, y1, y2, y3, y4, _⟩ := hX.put false none 0 0 none 0 0 6 0
            rw [hWY]
            clear hWY
            go_wp2_with fail
            refine bodyPost_ret (v := .tuple #[.agg #[.bool false, .slice none 0 0, .slice none 0 0], .agg #[.int .i64 6, .int .i64 0]]) (by simp [results, Tryz.results10, go_sem, y0, y1, y2, y3, y4]) rfl ?_
            have hl : s.data.toList.length ≤ 10000 := by rw [size_list]; exact HS.out
            obtain ⟨e1, e2, e3⟩ := told_bad hl HRP.out (by unfold partsOk; simp)
            rw [e1, e2, e3]
            exact ⟨none, 0, 0, none, 0, 0, rfl, OwnAt.nil _ _, OwnAt.nil _ _, hbY.drew⟩
          · obtain ⟨d, hdd⟩ : ∃ d, N2 = d := ⟨_, rfl⟩
            rw [hdd] at HRP HGV LN6 hd0
            have hln6 := LN6.out
            have HD0 := Lib.hid hd0
            go_wp2_with fail
            refine (HGU.out _).mono ?_
            rintro e w31 ⟨a5, n5, c5, rfl, h5, hb⟩
            have h5 := h5.mono hB.size
            have hX := hX.past hb
            have hB := below_later hB hb
            clear hb
            have szc := hB.size
            go_wp2_with fail
            obtain ⟨w32, hW, hz0, hb, q, f⟩ := box1g w31 (w31.heap.size) (by omega) #[.int .i64 (E : Int), .int .i64 (A : Int)] 35
            rw [hW]
            clear hW
            have hX := hX.past hb
            have h5 := h5.past hb
            have hB := below_later hB hb
            clear hb
            have lf : w31.heap.size < w32.heap.size := by omega
            have qf0 := q 0; have qf1 := q 1
            simp only [lgA, lgZ, lgS] at qf0 qf1
            clear q f
            obtain ⟨w33, hW, hz1, hb, q, f⟩ := box1g w32 (w31.heap.size + 1) (by omega) #[.int .u64 1] 42
            have h0one : OwnAt w33 w32.heap.size (some ⟨w31.heap.size + 1, 0, none⟩) 1 1 [1] := by rw [← hW]; exact litG _ _ _ [1] 1 (by omega) rfl rfl (by decide) (by first | decide | (simp; omega))
            rw [hW]
            clear hW
            have hX := hX.past hb
            have h5 := h5.past hb
            obtain ⟨qf0, qf1, lf⟩ := bq2 hb lf qf0 qf1
            have hB := below_later hB hb
            clear hb
            have one := h0one
            clear h0one
            have one := one.mono (B' := w.heap.size) (by omega)
            clear q f
            clear hz0
            clear hz1
            refine (HGV.out _).mono ?_
            rintro e w34 ⟨a6, n6, c6, rfl, h6, hb⟩
            have h6 := h6.mono hB.size
            have hX := hX.past hb
            have h5 := h5.past hb
            have one := one.past hb
            obtain ⟨qf0, qf1, lf⟩ := bq2 hb lf qf0 qf1
            have hB := below_later hB hb
            clear hb
            have l6 := h6.len
            have hdp : n6 ≠ 0 := fun e => HD0.out (digs_len0.1 (by rw [l6]; exact e))
            have hn6 : n6 ≤ 10000 := by omega
            have hn5 : n5 ≤ 10000 := by have := h5.len; have := LN5.out; omega
            have tz : ((n6 : Int) == 0) = false := beq_eq_false_iff_ne.2 (by omega)
            clear l6 hln6
            have hmk : ∀ (w : World), NatAt w a5 n5 c5 (digs N) → Calls Tryz.prog 27 #[.bool true, .slice a5 n5 c5] w (RetInt w (sg true N)) := fun w h => by
             have := rsmake_any true a5 n5 c5 (digs N) w h (by omega)
             rwa [val_digs] at this
            have HMK := Lib.hid hmk
            have eB : neg (sg true N) = (true && decide (N ≠ 0)) := by
             rw [neg_sg]
             by_cases e : N = 0
             · subst e; simp
             · have e2 : 0 < N := Nat.pos_of_ne_zero e
               simp [e, e2]
            obtain ⟨Z, hZ⟩ : ∃ Z, (true && decide (N ≠ 0)) = Z := ⟨_, rfl⟩
            have hZN : Z = true → N ≠ 0 := by
             intro e
             rw [← hZ] at e
             cases hN0 : decide (N ≠ 0) with
             | true => exact of_decide_eq_true hN0
             | false => rw [hN0] at e; simp at e
            rw [hZ] at eB
            rw [hZ] at HRP
            have HZN := Lib.hid hZN
            have HEB := Lib.hid eB
            clear hmk hZ hZN eB
            have hln := LN5.out
            have htx := fun w a n c (g1 : NatAt w a n c (digs N)) (g2 : NatAt w a6 n6 c6 (digs d)) (hn : n ≤ 100000) => rtext_any Z a n c (digs N) a6 n6 c6 (digs d) w g1 g2 hn (by omega)
            clear hln
            by_cases hc : chkR Z (digs N) (digs d) = 0
            · have hT : textE Z (digs N) (digs d) = textB Z N d := by
               unfold textE
               rw [if_pos hc, val_digs, val_digs]
              simp only [hT, hc] at htx
              obtain ⟨T, hTT⟩ : ∃ T, textB Z N d = T := ⟨_, rfl⟩
              rw [hTT] at htx
              have HTX := Lib.hid htx
              have HTT := Lib.hid hTT
              have HC := Lib.hid hc
              clear htx hTT hT hc
              by_cases hs : T = s
              · subst hs
                go_wp2_with fail
                obtain ⟨w35, hW, hz0, hb, q, f⟩ := box1g w34 (w34.heap.size) (by omega) #[.int .i64 (E2 : Int), .int .i64 (A2 : Int)] 35
                rw [hW]
                clear hW
                have hX := hX.past hb
                have h5 := h5.past hb
                have one := one.past hb
                have h6 := h6.past hb
                obtain ⟨qf0, qf1, lf⟩ := bq2 hb lf qf0 qf1
                have hB := below_later hB hb
                clear hb
                have lf2 : w34.heap.size < w35.heap.size := by omega
                have qf20 := q 0; have qf21 := q 1
                simp only [lgA, lgZ, lgS] at qf20 qf21
                clear q f
                clear hz0
                refine (HMK.out _ h5.toNatAt).mono ?_
                rintro e w36 ⟨aU, nU, cU, rfl, hU, hb⟩
                have hU := hU.mono hB.size
                have hX := hX.past hb
                have h5 := h5.past hb
                have one := one.past hb
                have h6 := h6.past hb
                obtain ⟨qf0, qf1, lf⟩ := bq2 hb lf qf0 qf1
                obtain ⟨qf20, qf21, lf2⟩ := bq2 hb lf2 qf20 qf21
                have hB := below_later hB hb
                clear hb
                rw [natAbs_sg] at hU
                rw [HEB.out]
                go_wp2_with fail
                obtain ⟨w37, hW, hz0, hb, q, f⟩ := box1g w36 (w36.heap.size) (by omega) #[.bool Z, .slice aU nU cU, .slice a6 n6 c6] 27
                rw [hW]
                clear hW
                have hX := hX.past hb
                have h5 := h5.past hb
                have one := one.past hb
                have h6 := h6.past hb
                have hU := hU.past hb
                obtain ⟨qf0, qf1, lf⟩ := bq2 hb lf qf0 qf1
                obtain ⟨qf20, qf21, lf2⟩ := bq2 hb lf2 qf20 qf21
                have hB := below_later hB hb
                clear hb
                have lx : w36.heap.size < w37.heap.size := by omega
                have qx0 := q 0; have qx1 := q 1; have qx2 := q 2
                simp only [lgA, lgZ, lgS] at qx0 qx1 qx2
                clear q f
                clear hz0
                refine (HTX.out _ _ _ _ hU.toNatAt h6.toNatAt (by have := hU.len; have := LN5.out; omega)).mono ?_
                rintro e w38 ⟨rfl, hb⟩
                have hX := hX.past hb
                have h5 := h5.past hb
                have one := one.past hb
                have h6 := h6.past hb
                have hU := hU.past hb
                obtain ⟨qf0, qf1, lf⟩ := bq2 hb lf qf0 qf1
                obtain ⟨qf20, qf21, lf2⟩ := bq2 hb lf2 qf20 qf21
                obtain ⟨qx0, qx1, qx2, lx⟩ := bq3 hb lx qx0 qx1 qx2
                have hB := below_later hB hb
                clear hb
                obtain ⟨u0, u1, u2, r0, r1, r2, p0, p1, p2, m0, m1, m2⟩ := hX.x2.three
                obtain ⟨u3, u4, r3, r4, p3, p4, m3, m4⟩ := hX.x3.two
                go_wp2_with fail
                obtain ⟨wY, hWY, hbY, y0, y1, y2, y3, y4, hown⟩ := hX.put Z aU nU cU a6 n6 c6 0 0
                rw [hWY]
                refine bodyPost_ret (v := .tuple #[.agg #[.bool Z, .slice aU nU cU, .slice a6 n6 c6], .agg #[.int .i64 0, .int .i64 0]]) (by simp [results, Tryz.results10, go_sem, y0, y1, y2, y3, y4]) rfl ?_
                have hl : T.data.toList.length ≤ 10000 := by rw [size_list]; exact HS.out
                have hte : textP Z N d = T.data.toList := by rw [← HTT.out, textB_list]
                obtain ⟨e1, e2, e3⟩ := told_yes hl HRP.out (by rw [partsOk_chk HZN.out, HC.out, hte]; simp)
                rw [e1, e2, e3]
                exact ⟨aU, nU, cU, a6, n6, c6, rfl, hown _ _ _ _ _ hU, hown _ _ _ _ _ h6, hbY⟩
              · have HTS := Lib.hid hs
                have tT : (T.toList == s.toList) = false := by
                 rw [beq_eq_false_iff_ne]
                 intro e
                 rw [toList_data, toList_data] at e
                 exact hs (by cases T; cases s; congr 1; exact Array.toList_inj.1 e)
                clear hs
                go_wp2_with fail
                obtain ⟨w35, hW, hz0, hb, q, f⟩ := box1g w34 (w34.heap.size) (by omega) #[.int .i64 (E2 : Int), .int .i64 (A2 : Int)] 35
                rw [hW]
                clear hW
                have hX := hX.past hb
                have h5 := h5.past hb
                have one := one.past hb
                have h6 := h6.past hb
                obtain ⟨qf0, qf1, lf⟩ := bq2 hb lf qf0 qf1
                have hB := below_later hB hb
                clear hb
                have lf2 : w34.heap.size < w35.heap.size := by omega
                have qf20 := q 0; have qf21 := q 1
                simp only [lgA, lgZ, lgS] at qf20 qf21
                clear q f
                clear hz0
                refine (HMK.out _ h5.toNatAt).mono ?_
                rintro e w36 ⟨aU, nU, cU, rfl, hU, hb⟩
                have hU := hU.mono hB.size
                have hX := hX.past hb
                have h5 := h5.past hb
                have one := one.past hb
                have h6 := h6.past hb
                obtain ⟨qf0, qf1, lf⟩ := bq2 hb lf qf0 qf1
                obtain ⟨qf20, qf21, lf2⟩ := bq2 hb lf2 qf20 qf21
                have hB := below_later hB hb
                clear hb
                rw [natAbs_sg] at hU
                rw [HEB.out]
                go_wp2_with fail
                obtain ⟨w37, hW, hz0, hb, q, f⟩ := box1g w36 (w36.heap.size) (by omega) #[.bool Z, .slice aU nU cU, .slice a6 n6 c6] 27
                rw [hW]
                clear hW
                have hX := hX.past hb
                have h5 := h5.past hb
                have one := one.past hb
                have h6 := h6.past hb
                have hU := hU.past hb
                obtain ⟨qf0, qf1, lf⟩ := bq2 hb lf qf0 qf1
                obtain ⟨qf20, qf21, lf2⟩ := bq2 hb lf2 qf20 qf21
                have hB := below_later hB hb
                clear hb
                have lx : w36.heap.size < w37.heap.size := by omega
                have qx0 := q 0; have qx1 := q 1; have qx2 := q 2
                simp only [lgA, lgZ, lgS] at qx0 qx1 qx2
                clear q f
                clear hz0
                refine (HTX.out _ _ _ _ hU.toNatAt h6.toNatAt (by have := hU.len; have := LN5.out; omega)).mono ?_
                rintro e w38 ⟨rfl, hb⟩
                have hX := hX.past hb
                have h5 := h5.past hb
                have one := one.past hb
                have h6 := h6.past hb
                have hU := hU.past hb
                obtain ⟨qf0, qf1, lf⟩ := bq2 hb lf qf0 qf1
                obtain ⟨qf20, qf21, lf2⟩ := bq2 hb lf2 qf20 qf21
                obtain ⟨qx0, qx1, qx2, lx⟩ := bq3 hb lx qx0 qx1 qx2
                have hB := below_later hB hb
                clear hb
                go_wp2_with fail
                have q2a := hX.q0
                have q2b := hX.q1
                obtain ⟨u0, u1, u2, r0, r1, r2, p0, p1, p2, m0, m1, m2⟩ := hX.x2.three
                obtain ⟨u3, u4, r3, r4, p3, p4, m3, m4⟩ := hX.x3.two
                go_region
                obtain ⟨wY, hWY, hbY, y0, y1, y2, y3, y4, _⟩ := hX.put false none 0 0 none 0 0 6 0
                rw [hWY]
                clear hWY
                go_wp2_with fail
                refine bodyPost_ret (v := .tuple #[.agg #[.bool false, .slice none 0 0, .slice none 0 0], .agg #[.int .i64 6, .int .i64 0]]) (by simp [results, Tryz.results10, go_sem, y0, y1, y2, y3, y4]) rfl ?_
                have hl : s.data.toList.length ≤ 10000 := by rw [size_list]; exact HS.out
                obtain ⟨e1, e2, e3⟩ := told_bad hl (HRP.out) (by rw [partsOk_chk HZN.out]; have : textP Z N d ≠ s.data.toList := (by intro e; apply HTS.out; rw [← HTT.out]; unfold textB; rw [e]); simp [this])
                rw [e1, e2, e3]
                exact ⟨none, 0, 0, none, 0, 0, rfl, OwnAt.nil _ _, OwnAt.nil _ _, hbY.drew⟩
            · have hT : textE Z (digs N) (digs d) = ⟨#[]⟩ := if_neg hc
              simp only [hT, chkR_no hc] at htx
              have HTX := Lib.hid htx
              have HC := Lib.hid hc
              clear htx hT hc
              go_wp2_with fail
              obtain ⟨w35, hW, hz0, hb, q, f⟩ := box1g w34 (w34.heap.size) (by omega) #[.int .i64 (E2 : Int), .int .i64 (A2 : Int)] 35
              rw [hW]
              clear hW
              have hX := hX.past hb
              have h5 := h5.past hb
              have one := one.past hb
              have h6 := h6.past hb
              obtain ⟨qf0, qf1, lf⟩ := bq2 hb lf qf0 qf1
              have hB := below_later hB hb
              clear hb
              have lf2 : w34.heap.size < w35.heap.size := by omega
              have qf20 := q 0; have qf21 := q 1
              simp only [lgA, lgZ, lgS] at qf20 qf21
              clear q f
              clear hz0
              refine (HMK.out _ h5.toNatAt).mono ?_
              rintro e w36 ⟨aU, nU, cU, rfl, hU, hb⟩
              have hU := hU.mono hB.size
              have hX := hX.past hb
              have h5 := h5.past hb
              have one := one.past hb
              have h6 := h6.past hb
              obtain ⟨qf0, qf1, lf⟩ := bq2 hb lf qf0 qf1
              obtain ⟨qf20, qf21, lf2⟩ := bq2 hb lf2 qf20 qf21
              have hB := below_later hB hb
              clear hb
              rw [natAbs_sg] at hU
              rw [HEB.out]
              go_wp2_with fail
              obtain ⟨w37, hW, hz0, hb, q, f⟩ := box1g w36 (w36.heap.size) (by omega) #[.bool Z, .slice aU nU cU, .slice a6 n6 c6] 27
              rw [hW]
              clear hW
              have hX := hX.past hb
              have h5 := h5.past hb
              have one := one.past hb
              have h6 := h6.past hb
              have hU := hU.past hb
              obtain ⟨qf0, qf1, lf⟩ := bq2 hb lf qf0 qf1
              obtain ⟨qf20, qf21, lf2⟩ := bq2 hb lf2 qf20 qf21
              have hB := below_later hB hb
              clear hb
              have lx : w36.heap.size < w37.heap.size := by omega
              have qx0 := q 0; have qx1 := q 1; have qx2 := q 2
              simp only [lgA, lgZ, lgS] at qx0 qx1 qx2
              clear q f
              clear hz0
              refine (HTX.out _ _ _ _ hU.toNatAt h6.toNatAt (by have := hU.len; have := LN5.out; omega)).mono ?_
              rintro e w38 ⟨rfl, hb⟩
              have hX := hX.past hb
              have h5 := h5.past hb
              have one := one.past hb
              have h6 := h6.past hb
              have hU := hU.past hb
              obtain ⟨qf0, qf1, lf⟩ := bq2 hb lf qf0 qf1
              obtain ⟨qf20, qf21, lf2⟩ := bq2 hb lf2 qf20 qf21
              obtain ⟨qx0, qx1, qx2, lx⟩ := bq3 hb lx qx0 qx1 qx2
              have hB := below_later hB hb
              clear hb
              go_wp2_with fail
              have q2a := hX.q0
              have q2b := hX.q1
              obtain ⟨u0, u1, u2, r0, r1, r2, p0, p1, p2, m0, m1, m2⟩ := hX.x2.three
              obtain ⟨u3, u4, r3, r4, p3, p4, m3, m4⟩ := hX.x3.two
              go_region
              obtain ⟨wY, hWY, hbY, y0, y1, y2, y3, y4, _⟩ := hX.put false none 0 0 none 0 0 6 0
              rw [hWY]
              clear hWY
              go_wp2_with fail
              refine bodyPost_ret (v := .tuple #[.agg #[.bool false, .slice none 0 0, .slice none 0 0], .agg #[.int .i64 6, .int .i64 0]]) (by simp [results, Tryz.results10, go_sem, y0, y1, y2, y3, y4]) rfl ?_
              have hl : s.data.toList.length ≤ 10000 := by rw [size_list]; exact HS.out
              obtain ⟨e1, e2, e3⟩ := told_bad hl (HRP.out) (by rw [partsOk_chk HZN.out]; have := HC.out; simp [this])
              rw [e1, e2, e3]
              exact ⟨none, 0, 0, none, 0, 0, rfl, OwnAt.nil _ _, OwnAt.nil _ _, hbY.drew⟩
        · have tE : ((E : Int) != 0) = true := bne_iff_ne.2 (by omega)
          have HNO := Lib.hid hE
          clear hE
          go_wp2_with fail
          refine (HGU.out _).mono ?_
          rintro e w31 ⟨a5, n5, c5, rfl, h5, hb⟩
          have h5 := h5.mono hB.size
          have hX := hX.past hb
          have hB := below_later hB hb
          clear hb
          have szc := hB.size
          go_wp2_with fail
          obtain ⟨w32, hW, hz0, hb, q, f⟩ := box1g w31 (w31.heap.size) (by omega) #[.int .i64 (E : Int), .int .i64 (A : Int)] 35
          rw [hW]
          clear hW
          have hX := hX.past hb
          have h5 := h5.past hb
          have hB := below_later hB hb
          clear hb
          have lf : w31.heap.size < w32.heap.size := by omega
          have qf0 := q 0; have qf1 := q 1
          simp only [lgA, lgZ, lgS] at qf0 qf1
          clear q f
          obtain ⟨w33, hW, hz1, hb, q, f⟩ := box1g w32 (w31.heap.size + 1) (by omega) #[.int .u64 1] 42
          have h0one : OwnAt w33 w32.heap.size (some ⟨w31.heap.size + 1, 0, none⟩) 1 1 [1] := by rw [← hW]; exact litG _ _ _ [1] 1 (by omega) rfl rfl (by decide) (by first | decide | (simp; omega))
          rw [hW]
          clear hW
          have hX := hX.past hb
          have h5 := h5.past hb
          obtain ⟨qf0, qf1, lf⟩ := bq2 hb lf qf0 qf1
          have hB := below_later hB hb
          clear hb
          have one := h0one
          clear h0one
          have one := one.mono (B' := w.heap.size) (by omega)
          clear q f
          clear hz0
          clear hz1
          refine (HGV.out _).mono ?_
          rintro e w34 ⟨a6, n6, c6, rfl, h6, hb⟩
          have h6 := h6.mono hB.size
          have hX := hX.past hb
          have h5 := h5.past hb
          have one := one.past hb
          obtain ⟨qf0, qf1, lf⟩ := bq2 hb lf qf0 qf1
          have hB := below_later hB hb
          clear hb
          go_wp2_with fail
          obtain ⟨w35, hW, hz0, hb, q, f⟩ := box1g w34 (w34.heap.size) (by omega) #[.int .i64 (E2 : Int), .int .i64 (A2 : Int)] 35
          rw [hW]
          clear hW
          have hX := hX.past hb
          have h5 := h5.past hb
          have one := one.past hb
          have h6 := h6.past hb
          obtain ⟨qf0, qf1, lf⟩ := bq2 hb lf qf0 qf1
          have hB := below_later hB hb
          clear hb
          have lf2 : w34.heap.size < w35.heap.size := by omega
          have qf20 := q 0; have qf21 := q 1
          simp only [lgA, lgZ, lgS] at qf20 qf21
          clear q f
          clear hz0
          have q2a := hX.q0
          have q2b := hX.q1
          obtain ⟨u0, u1, u2, r0, r1, r2, p0, p1, p2, m0, m1, m2⟩ := hX.x2.three
          obtain ⟨u3, u4, r3, r4, p3, p4, m3, m4⟩ := hX.x3.two
          go_region
          obtain ⟨wY, hWY, hbY, y0, y1, y2, y3, y4, _⟩ := hX.put false none 0 0 none 0 0 6 0
          rw [hWY]
          clear hWY
          go_wp2_with fail
          refine bodyPost_ret (v := .tuple #[.agg #[.bool false, .slice none 0 0, .slice none 0 0], .agg #[.int .i64 6, .int .i64 0]]) (by simp [results, Tryz.results10, go_sem, y0, y1, y2, y3, y4]) rfl ?_
          have hl : s.data.toList.length ≤ 10000 := by rw [size_list]; exact HS.out
          obtain ⟨e1, e2, e3⟩ := told_none hl (by rw [HRQ.out]; cases hq : okL U.data.toList with | false => rfl | true => exact absurd (HOKU.out.2 hq) HNO.out)
          rw [e1, e2, e3]
          exact ⟨none, 0, 0, none, 0, 0, rfl, OwnAt.nil _ _, OwnAt.nil _ _, hbY.drew⟩
      · have tE2 : ((E2 : Int) != 0) = true := bne_iff_ne.2 (by omega)
        have HNO := Lib.hid hE2
        clear hE2
        go_wp2_with fail
        refine (HGU.out _).mono ?_
        rintro e w31 ⟨a5, n5, c5, rfl, h5, hb⟩
        have h5 := h5.mono hB.size
        have hX := hX.past hb
        have hB := below_later hB hb
        clear hb
        have szc := hB.size
        go_wp2_with fail
        obtain ⟨w32, hW, hz0, hb, q, f⟩ := box1g w31 (w31.heap.size) (by omega) #[.int .i64 (E : Int), .int .i64 (A : Int)] 35
        rw [hW]
        clear hW
        have hX := hX.past hb
        have h5 := h5.past hb
        have hB := below_later hB hb
        clear hb
        have lf : w31.heap.size < w32.heap.size := by omega
        have qf0 := q 0; have qf1 := q 1
        simp only [lgA, lgZ, lgS] at qf0 qf1
        clear q f
        obtain ⟨w33, hW, hz1, hb, q, f⟩ := box1g w32 (w31.heap.size + 1) (by omega) #[.int .u64 1] 42
        have h0one : OwnAt w33 w32.heap.size (some ⟨w31.heap.size + 1, 0, none⟩) 1 1 [1] := by rw [← hW]; exact litG _ _ _ [1] 1 (by omega) rfl rfl (by decide) (by first | decide | (simp; omega))
        rw [hW]
        clear hW
        have hX := hX.past hb
        have h5 := h5.past hb
        obtain ⟨qf0, qf1, lf⟩ := bq2 hb lf qf0 qf1
        have hB := below_later hB hb
        clear hb
        have one := h0one
        clear h0one
        have one := one.mono (B' := w.heap.size) (by omega)
        clear q f
        clear hz0
        clear hz1
        refine (HGV.out _).mono ?_
        rintro e w34 ⟨a6, n6, c6, rfl, h6, hb⟩
        have h6 := h6.mono hB.size
        have hX := hX.past hb
        have h5 := h5.past hb
        have one := one.past hb
        obtain ⟨qf0, qf1, lf⟩ := bq2 hb lf qf0 qf1
        have hB := below_later hB hb
        clear hb
        go_wp2_with fail
        obtain ⟨w35, hW, hz0, hb, q, f⟩ := box1g w34 (w34.heap.size) (by omega) #[.int .i64 (E2 : Int), .int .i64 (A2 : Int)] 35
        rw [hW]
        clear hW
        have hX := hX.past hb
        have h5 := h5.past hb
        have one := one.past hb
        have h6 := h6.past hb
        obtain ⟨qf0, qf1, lf⟩ := bq2 hb lf qf0 qf1
        have hB := below_later hB hb
        clear hb
        have lf2 : w34.heap.size < w35.heap.size := by omega
        have qf20 := q 0; have qf21 := q 1
        simp only [lgA, lgZ, lgS] at qf20 qf21
        clear q f
        clear hz0
        have q2a := hX.q0
        have q2b := hX.q1
        obtain ⟨u0, u1, u2, r0, r1, r2, p0, p1, p2, m0, m1, m2⟩ := hX.x2.three
        obtain ⟨u3, u4, r3, r4, p3, p4, m3, m4⟩ := hX.x3.two
        go_region
        obtain ⟨wY, hWY, hbY, y0, y1, y2, y3, y4, _⟩ := hX.put false none 0 0 none 0 0 6 0
        rw [hWY]
        clear hWY
        go_wp2_with fail
        refine bodyPost_ret (v := .tuple #[.agg #[.bool false, .slice none 0 0, .slice none 0 0], .agg #[.int .i64 6, .int .i64 0]]) (by simp [results, Tryz.results10, go_sem, y0, y1, y2, y3, y4]) rfl ?_
        have hl : s.data.toList.length ≤ 10000 := by rw [size_list]; exact HS.out
        obtain ⟨e1, e2, e3⟩ := told_none hl (by rw [HRQ.out]; cases hq : okL V.data.toList with | false => cases okL U.data.toList <;> rfl | true => exact absurd (HOKV.out.2 hq) HNO.out)
        rw [e1, e2, e3]
        exact ⟨none, 0, 0, none, 0, 0, rfl, OwnAt.nil _ _, OwnAt.nil _ _, hbY.drew⟩
    · have hrp := HRPP.out
      rw [if_neg hpr] at hrp
      have HRQ := Lib.hid hrp
      have tj : ¬ (j : Int) < (R.size : Int) := by omega
      have tj0 : decide ((j : Int) < (R.size : Int)) = false := decide_eq_false tj
      have tj3 : (j : Int) ≤ (R.size : Int) := by omega
      clear hrp
      by_cases hE : E = 0
      · have HE := Lib.hid (HOKU.out.1 hE)
        have tE : ((E : Int) != 0) = false := bne_eq_false_iff_eq.2 (by omega)
        clear hE
        have hrp := HRQ.out
        rw [HE.out] at hrp
        have HRP : Hid (readP s.data.toList = some (true && decide (N ≠ 0), N, 1)) := Lib.hid hrp
        clear hrp
        go_wp2_with fail
        refine (HGU.out _).mono ?_
        rintro e w31 ⟨a5, n5, c5, rfl, h5, hb⟩
        have h5 := h5.mono hB.size
        have hX := hX.past hb
        have hB := below_later hB hb
        clear hb
        have szc := hB.size
        go_wp2_with fail
        obtain ⟨w32, hW, hz0, hb, q, f⟩ := box1g w31 (w31.heap.size) (by omega) #[.int .i64 (E : Int), .int .i64 (A : Int)] 35
        rw [hW]
        clear hW
        have hX := hX.past hb
        have h5 := h5.past hb
        have hB := below_later hB hb
        clear hb
        have lf : w31.heap.size < w32.heap.size := by omega
        have qf0 := q 0; have qf1 := q 1
        simp only [lgA, lgZ, lgS] at qf0 qf1
        clear q f
        obtain ⟨w33, hW, hz1, hb, q, f⟩ := box1g w32 (w31.heap.size + 1) (by omega) #[.int .u64 1] 42
        have h0one : OwnAt w33 w32.heap.size (some ⟨w31.heap.size + 1, 0, none⟩) 1 1 [1] := by rw [← hW]; exact litG _ _ _ [1] 1 (by omega) rfl rfl (by decide) (by first | decide | (simp; omega))
        rw [hW]
        clear hW
        have hX := hX.past hb
        have h5 := h5.past hb
        obtain ⟨qf0, qf1, lf⟩ := bq2 hb lf qf0 qf1
        have hB := below_later hB hb
        clear hb
        have one := h0one
        clear h0one
        have one := one.mono (B' := w.heap.size) (by omega)
        clear q f
        clear hz0
        clear hz1
        have hn5 : n5 ≤ 10000 := by have := h5.len; have := LN5.out; omega
        obtain ⟨d, hdd⟩ : ∃ d, 1 = d := ⟨_, rfl⟩
        have h6 := one
        rw [show ([1] : List Nat) = digs d by rw [← hdd]; decide] at h6
        rw [hdd] at HRP
        clear one hdd
        have hmk : ∀ (w : World), NatAt w a5 n5 c5 (digs N) → Calls Tryz.prog 27 #[.bool true, .slice a5 n5 c5] w (RetInt w (sg true N)) := fun w h => by
         have := rsmake_any true a5 n5 c5 (digs N) w h (by omega)
         rwa [val_digs] at this
        have HMK := Lib.hid hmk
        have eB : neg (sg true N) = (true && decide (N ≠ 0)) := by
         rw [neg_sg]
         by_cases e : N = 0
         · subst e; simp
         · have e2 : 0 < N := Nat.pos_of_ne_zero e
           simp [e, e2]
        obtain ⟨Z, hZ⟩ : ∃ Z, (true && decide (N ≠ 0)) = Z := ⟨_, rfl⟩
        have hZN : Z = true → N ≠ 0 := by
         intro e
         rw [← hZ] at e
         cases hN0 : decide (N ≠ 0) with
         | true => exact of_decide_eq_true hN0
         | false => rw [hN0] at e; simp at e
        rw [hZ] at eB
        rw [hZ] at HRP
        have HZN := Lib.hid hZN
        have HEB := Lib.hid eB
        clear hmk hZ hZN eB
        have hln := LN5.out
        have htx := fun w a n c (g1 : NatAt w a n c (digs N)) (g2 : NatAt w (some ⟨w31.heap.size + 1, 0, none⟩) 1 1 (digs d)) (hn : n ≤ 100000) => rtext_any Z a n c (digs N) (some ⟨w31.heap.size + 1, 0, none⟩) 1 1 (digs d) w g1 g2 hn (by omega)
        clear hln
        by_cases hc : chkR Z (digs N) (digs d) = 0
        · have hT : textE Z (digs N) (digs d) = textB Z N d := by
           unfold textE
           rw [if_pos hc, val_digs, val_digs]
          simp only [hT, hc] at htx
          obtain ⟨T, hTT⟩ : ∃ T, textB Z N d = T := ⟨_, rfl⟩
          rw [hTT] at htx
          have HTX := Lib.hid htx
          have HTT := Lib.hid hTT
          have HC := Lib.hid hc
          clear htx hTT hT hc
          by_cases hs : T = s
          · subst hs
            go_wp2_with fail
            refine (HMK.out _ h5.toNatAt).mono ?_
            rintro e w34 ⟨aU, nU, cU, rfl, hU, hb⟩
            have hU := hU.mono hB.size
            have hX := hX.past hb
            have h5 := h5.past hb
            have h6 := h6.past hb
            obtain ⟨qf0, qf1, lf⟩ := bq2 hb lf qf0 qf1
            have hB := below_later hB hb
            clear hb
            rw [natAbs_sg] at hU
            rw [HEB.out]
            go_wp2_with fail
            obtain ⟨w35, hW, hz0, hb, q, f⟩ := box1g w34 (w34.heap.size) (by omega) #[.bool Z, .slice aU nU cU, .slice (some ⟨w31.heap.size + 1, 0, none⟩) 1 1] 27
            rw [hW]
            clear hW
            have hX := hX.past hb
            have h5 := h5.past hb
            have h6 := h6.past hb
            have hU := hU.past hb
            obtain ⟨qf0, qf1, lf⟩ := bq2 hb lf qf0 qf1
            have hB := below_later hB hb
            clear hb
            have lx : w34.heap.size < w35.heap.size := by omega
            have qx0 := q 0; have qx1 := q 1; have qx2 := q 2
            simp only [lgA, lgZ, lgS] at qx0 qx1 qx2
            clear q f
            clear hz0
            refine (HTX.out _ _ _ _ hU.toNatAt h6.toNatAt (by have := hU.len; have := LN5.out; omega)).mono ?_
            rintro e w36 ⟨rfl, hb⟩
            have hX := hX.past hb
            have h5 := h5.past hb
            have h6 := h6.past hb
            have hU := hU.past hb
            obtain ⟨qf0, qf1, lf⟩ := bq2 hb lf qf0 qf1
            obtain ⟨qx0, qx1, qx2, lx⟩ := bq3 hb lx qx0 qx1 qx2
            have hB := below_later hB hb
            clear hb
            obtain ⟨u0, u1, u2, r0, r1, r2, p0, p1, p2, m0, m1, m2⟩ := hX.x2.three
            obtain ⟨u3, u4, r3, r4, p3, p4, m3, m4⟩ := hX.x3.two
            go_wp2_with fail
            obtain ⟨wY, hWY, hbY, y0, y1, y2, y3, y4, hown⟩ := hX.put Z aU nU cU (some ⟨w31.heap.size + 1, 0, none⟩) 1 1 0 0
            rw [hWY]
            refine bodyPost_ret (v := .tuple #[.agg #[.bool Z, .slice aU nU cU, .slice (some ⟨w31.heap.size + 1, 0, none⟩) 1 1], .agg #[.int .i64 0, .int .i64 0]]) (by simp [results, Tryz.results10, go_sem, y0, y1, y2, y3, y4]) rfl ?_
            have hl : T.data.toList.length ≤ 10000 := by rw [size_list]; exact HS.out
            have hte : textP Z N d = T.data.toList := by rw [← HTT.out, textB_list]
            obtain ⟨e1, e2, e3⟩ := told_yes hl HRP.out (by rw [partsOk_chk HZN.out, HC.out, hte]; simp)
            rw [e1, e2, e3]
            exact ⟨aU, nU, cU, (some ⟨w31.heap.size + 1, 0, none⟩), 1, 1, rfl, hown _ _ _ _ _ hU, hown _ _ _ _ _ h6, hbY⟩
          · have HTS := Lib.hid hs
            have tT : (T.toList == s.toList) = false := by
             rw [beq_eq_false_iff_ne]
             intro e
             rw [toList_data, toList_data] at e
             exact hs (by cases T; cases s; congr 1; exact Array.toList_inj.1 e)
            clear hs
            go_wp2_with fail
            refine (HMK.out _ h5.toNatAt).mono ?_
            rintro e w34 ⟨aU, nU, cU, rfl, hU, hb⟩
            have hU := hU.mono hB.size
            have hX := hX.past hb
            have h5 := h5.past hb
            have h6 := h6.past hb
            obtain ⟨qf0, qf1, lf⟩ := bq2 hb lf qf0 qf1
            have hB := below_later hB hb
            clear hb
            rw [natAbs_sg] at hU
            rw [HEB.out]
            go_wp2_with fail
            obtain ⟨w35, hW, hz0, hb, q, f⟩ := box1g w34 (w34.heap.size) (by omega) #[.bool Z, .slice aU nU cU, .slice (some ⟨w31.heap.size + 1, 0, none⟩) 1 1] 27
            rw [hW]
            clear hW
            have hX := hX.past hb
            have h5 := h5.past hb
            have h6 := h6.past hb
            have hU := hU.past hb
            obtain ⟨qf0, qf1, lf⟩ := bq2 hb lf qf0 qf1
            have hB := below_later hB hb
            clear hb
            have lx : w34.heap.size < w35.heap.size := by omega
            have qx0 := q 0; have qx1 := q 1; have qx2 := q 2
            simp only [lgA, lgZ, lgS] at qx0 qx1 qx2
            clear q f
            clear hz0
            refine (HTX.out _ _ _ _ hU.toNatAt h6.toNatAt (by have := hU.len; have := LN5.out; omega)).mono ?_
            rintro e w36 ⟨rfl, hb⟩
            have hX := hX.past hb
            have h5 := h5.past hb
            have h6 := h6.past hb
            have hU := hU.past hb
            obtain ⟨qf0, qf1, lf⟩ := bq2 hb lf qf0 qf1
            obtain ⟨qx0, qx1, qx2, lx⟩ := bq3 hb lx qx0 qx1 qx2
            have hB := below_later hB hb
            clear hb
            go_wp2_with fail
            have q2a := hX.q0
            have q2b := hX.q1
            obtain ⟨u0, u1, u2, r0, r1, r2, p0, p1, p2, m0, m1, m2⟩ := hX.x2.three
            obtain ⟨u3, u4, r3, r4, p3, p4, m3, m4⟩ := hX.x3.two
            go_region
            obtain ⟨wY, hWY, hbY, y0, y1, y2, y3, y4, _⟩ := hX.put false none 0 0 none 0 0 6 0
            rw [hWY]
            clear hWY
            go_wp2_with fail
            refine bodyPost_ret (v := .tuple #[.agg #[.bool false, .slice none 0 0, .slice none 0 0], .agg #[.int .i64 6, .int .i64 0]]) (by simp [results, Tryz.results10, go_sem, y0, y1, y2, y3, y4]) rfl ?_
            have hl : s.data.toList.length ≤ 10000 := by rw [size_list]; exact HS.out
            obtain ⟨e1, e2, e3⟩ := told_bad hl (HRP.out) (by rw [partsOk_chk HZN.out]; have : textP Z N d ≠ s.data.toList := (by intro e; apply HTS.out; rw [← HTT.out]; unfold textB; rw [e]); simp [this])
            rw [e1, e2, e3]
            exact ⟨none, 0, 0, none, 0, 0, rfl, OwnAt.nil _ _, OwnAt.nil _ _, hbY.drew⟩
        · have hT : textE Z (digs N) (digs d) = ⟨#[]⟩ := if_neg hc
          simp only [hT, chkR_no hc] at htx
          have HTX := Lib.hid htx
          have HC := Lib.hid hc
          clear htx hT hc
          go_wp2_with fail
          refine (HMK.out _ h5.toNatAt).mono ?_
          rintro e w34 ⟨aU, nU, cU, rfl, hU, hb⟩
          have hU := hU.mono hB.size
          have hX := hX.past hb
          have h5 := h5.past hb
          have h6 := h6.past hb
          obtain ⟨qf0, qf1, lf⟩ := bq2 hb lf qf0 qf1
          have hB := below_later hB hb
          clear hb
          rw [natAbs_sg] at hU
          rw [HEB.out]
          go_wp2_with fail
          obtain ⟨w35, hW, hz0, hb, q, f⟩ := box1g w34 (w34.heap.size) (by omega) #[.bool Z, .slice aU nU cU, .slice (some ⟨w31.heap.size + 1, 0, none⟩) 1 1] 27
          rw [hW]
          clear hW
          have hX := hX.past hb
          have h5 := h5.past hb
          have h6 := h6.past hb
          have hU := hU.past hb
          obtain ⟨qf0, qf1, lf⟩ := bq2 hb lf qf0 qf1
          have hB := below_later hB hb
          clear hb
          have lx : w34.heap.size < w35.heap.size := by omega
          have qx0 := q 0; have qx1 := q 1; have qx2 := q 2
          simp only [lgA, lgZ, lgS] at qx0 qx1 qx2
          clear q f
          clear hz0
          refine (HTX.out _ _ _ _ hU.toNatAt h6.toNatAt (by have := hU.len; have := LN5.out; omega)).mono ?_
          rintro e w36 ⟨rfl, hb⟩
          have hX := hX.past hb
          have h5 := h5.past hb
          have h6 := h6.past hb
          have hU := hU.past hb
          obtain ⟨qf0, qf1, lf⟩ := bq2 hb lf qf0 qf1
          obtain ⟨qx0, qx1, qx2, lx⟩ := bq3 hb lx qx0 qx1 qx2
          have hB := below_later hB hb
          clear hb
          go_wp2_with fail
          have q2a := hX.q0
          have q2b := hX.q1
          obtain ⟨u0, u1, u2, r0, r1, r2, p0, p1, p2, m0, m1, m2⟩ := hX.x2.three
          obtain ⟨u3, u4, r3, r4, p3, p4, m3, m4⟩ := hX.x3.two
          go_region
          obtain ⟨wY, hWY, hbY, y0, y1, y2, y3, y4, _⟩ := hX.put false none 0 0 none 0 0 6 0
          rw [hWY]
          clear hWY
          go_wp2_with fail
          refine bodyPost_ret (v := .tuple #[.agg #[.bool false, .slice none 0 0, .slice none 0 0], .agg #[.int .i64 6, .int .i64 0]]) (by simp [results, Tryz.results10, go_sem, y0, y1, y2, y3, y4]) rfl ?_
          have hl : s.data.toList.length ≤ 10000 := by rw [size_list]; exact HS.out
          obtain ⟨e1, e2, e3⟩ := told_bad hl (HRP.out) (by rw [partsOk_chk HZN.out]; have := HC.out; simp [this])
          rw [e1, e2, e3]
          exact ⟨none, 0, 0, none, 0, 0, rfl, OwnAt.nil _ _, OwnAt.nil _ _, hbY.drew⟩
      · have tE : ((E : Int) != 0) = true := bne_iff_ne.2 (by omega)
        have HNO := Lib.hid hE
        clear hE
        go_wp2_with fail
        refine (HGU.out _).mono ?_
        rintro e w31 ⟨a5, n5, c5, rfl, h5, hb⟩
        have h5 := h5.mono hB.size
        have hX := hX.past hb
        have hB := below_later hB hb
        clear hb
        have szc := hB.size
        go_wp2_with fail
        obtain ⟨w32, hW, hz0, hb, q, f⟩ := box1g w31 (w31.heap.size) (by omega) #[.int .i64 (E : Int), .int .i64 (A : Int)] 35
        rw [hW]
        clear hW
        have hX := hX.past hb
        have h5 := h5.past hb
        have hB := below_later hB hb
        clear hb
        have lf : w31.heap.size < w32.heap.size := by omega
        have qf0 := q 0; have qf1 := q 1
        simp only [lgA, lgZ, lgS] at qf0 qf1
        clear q f
        obtain ⟨w33, hW, hz1, hb, q, f⟩ := box1g w32 (w31.heap.size + 1) (by omega) #[.int .u64 1] 42
        have h0one : OwnAt w33 w32.heap.size (some ⟨w31.heap.size + 1, 0, none⟩) 1 1 [1] := by rw [← hW]; exact litG _ _ _ [1] 1 (by omega) rfl rfl (by decide) (by first | decide | (simp; omega))
        rw [hW]
        clear hW
        have hX := hX.past hb
        have h5 := h5.past hb
        obtain ⟨qf0, qf1, lf⟩ := bq2 hb lf qf0 qf1
        have hB := below_later hB hb
        clear hb
        have one := h0one
        clear h0one
        have one := one.mono (B' := w.heap.size) (by omega)
        clear q f
        clear hz0
        clear hz1
        have q2a := hX.q0
        have q2b := hX.q1
        obtain ⟨u0, u1, u2, r0, r1, r2, p0, p1, p2, m0, m1, m2⟩ := hX.x2.three
        obtain ⟨u3, u4, r3, r4, p3, p4, m3, m4⟩ := hX.x3.two
        go_region
        obtain ⟨wY, hWY, hbY, y0, y1, y2, y3, y4, _⟩ := hX.put false none 0 0 none 0 0 6 0
        rw [hWY]
        clear hWY
        go_wp2_with fail
        refine bodyPost_ret (v := .tuple #[.agg #[.bool false, .slice none 0 0, .slice none 0 0], .agg #[.int .i64 6, .int .i64 0]]) (by simp [results, Tryz.results10, go_sem, y0, y1, y2, y3, y4]) rfl ?_
        have hl : s.data.toList.length ≤ 10000 := by rw [size_list]; exact HS.out
        obtain ⟨e1, e2, e3⟩ := told_none hl (by rw [HRQ.out]; cases hq : okL U.data.toList with | false => rfl | true => exact absurd (HOKU.out.2 hq) HNO.out)
        rw [e1, e2, e3]
        exact ⟨none, 0, 0, none, 0, 0, rfl, OwnAt.nil _ _, OwnAt.nil _ _, hbY.drew⟩
set_option maxRecDepth 100000 in
set_option maxHeartbeats 8000000 in
theorem rread_plain (s : ByteArray) (w : World) (h : s.size ≤ 10000) (h0 : 0 < s.size) (h1 : L8 s.data.toList 0 ≠ 45) :
 Calls Tryz.prog 10 #[.string s] w (RetRead w (readR s.data.toList) (readE s.data.toList) (readA s.data.toList)) := by
 have HS := Lib.hid h
 have tS : decide ((10000 : Int) < (s.size : Int)) = false := decide_eq_false (by omega)
 have hM := minus_at s
 rw [show decide (L8 s.data.toList 0 = 45) = false from decide_eq_false h1, Bool.and_false] at hM
 have hRL : s.data.toList = bareL s.data.toList := by unfold bareL; rw [hM]; rfl
 have t2 : decide ((0 : Int) < (s.size : Int)) = true := decide_eq_true (by omega)
 obtain ⟨X, hX0⟩ : ∃ X, L8 s.data.toList 0 = X := ⟨_, rfl⟩
 rw [hX0] at h1
 have t3 : ((X : Int) == 45) = false := beq_eq_false_iff_ne.2 (by omega)
 have hix : ∀ W, (Instr.index 9 (.string s) (.int .i64 0)).run Tryz.prog W = .ok (.int .u8 (X : Int)) W := fun W => by
  have := str_index s 0 h0 W
  rw [hX0] at this
  exact this
 have HM : Hid (minusL s.data.toList = false) := Lib.hid hM
 have hRl : s.size ≤ 10000 := by
  rw [← size_list, hRL]
  have h1 := size_list s
  have h2 := bareL_len s.data.toList
  omega
 have hpl := slashL_le s.data.toList
 rw [size_list] at hpl
 have hnb := fun i => slashL_before (l := s.data.toList) (i := i)
 have hat := slashL_at (l := s.data.toList)
 rw [size_list] at hat
 have hU := ext_to s (slashL s.data.toList)
 have hV := ext_from s (slashL s.data.toList + 1)
 have hrp : readP s.data.toList = if okL (s.data.toList.take (slashL s.data.toList)) then
  if slashL s.data.toList < s.size then
   if okL (s.data.toList.drop (slashL s.data.toList + 1)) then some (false && decide (getN (s.data.toList.take (slashL s.data.toList)) ≠ 0), getN (s.data.toList.take (slashL s.data.toList)), getN (s.data.toList.drop (slashL s.data.toList + 1))) else none
  else some (false && decide (getN (s.data.toList.take (slashL s.data.toList)) ≠ 0), getN (s.data.toList.take (slashL s.data.toList)), 1)
 else none := by
  unfold readP
  rw [← hRL, HM.out, size_list]
 obtain ⟨P, hP⟩ : ∃ P, slashL s.data.toList = P := ⟨_, rfl⟩
 rw [hP] at hpl hat hU hV hrp
 simp only [hP] at hnb
 obtain ⟨U, hUe⟩ : ∃ U, s.extract 0 P = U := ⟨_, rfl⟩
 obtain ⟨V, hVe⟩ : ∃ V, s.extract (P + 1) s.size = V := ⟨_, rfl⟩
 rw [hUe] at hU
 rw [hVe] at hV
 rw [← hU, ← hV] at hrp
 have hUs : U.size ≤ 10000 := by rw [← size_list, hU, List.length_take, size_list]; omega
 have hVs : V.size ≤ 10000 := by rw [← size_list, hV, List.length_drop, size_list]; omega
 have hgu := fun w => rget_any U w (by omega)
 have hgv := fun w => rget_any V w (by omega)
 have hln5 := getN_len U.data.toList
 have hln6 := getN_len V.data.toList
 have hoku := getE_ok U.data.toList
 have hokv := getE_ok V.data.toList
 obtain ⟨N, hN⟩ : ∃ N, getN U.data.toList = N := ⟨_, rfl⟩
 obtain ⟨E, hE⟩ : ∃ E, getE U.data.toList = E := ⟨_, rfl⟩
 obtain ⟨A, hA⟩ : ∃ A, getA U.data.toList = A := ⟨_, rfl⟩
 obtain ⟨N2, hN2⟩ : ∃ N2, getN V.data.toList = N2 := ⟨_, rfl⟩
 obtain ⟨E2, hE2⟩ : ∃ E2, getE V.data.toList = E2 := ⟨_, rfl⟩
 obtain ⟨A2, hA2⟩ : ∃ A2, getA V.data.toList = A2 := ⟨_, rfl⟩
 rw [hN] at hln5 hrp
 rw [hN2] at hln6 hrp
 rw [hE] at hoku
 rw [hE2] at hokv
 simp only [hN, hE, hA] at hgu
 simp only [hN2, hE2, hA2] at hgv
 have HNB := Lib.hid hnb
 have HAT := Lib.hid hat
 have HRPP := Lib.hid hrp
 have HGU := Lib.hid hgu
 have HGV := Lib.hid hgv
 have LN5 := Lib.hid hln5
 have LN6 := Lib.hid hln6
 have HOKU := Lib.hid hoku
 have HOKV := Lib.hid hokv
 clear hnb hat hU hV hrp hP hRL hM hgu hgv hln5 hln6 hoku hokv hN hE hA hN2 hE2 hA2 hUs hVs h
 go_enter Tryz.func10, Tryz.ntmps10
 go_wp2_with fail
 obtain ⟨wA, hWA, zA, hbA, qA, fA⟩ := box1g w (w.heap.size) rfl #[.bool false, .slice none 0 0, .slice none 0 0] 27
 rw [hWA]
 obtain ⟨wB, hWB, zB, hbB, qB, fB⟩ := box1g wA (w.heap.size + 1) (by omega) #[.int .i64 0, .int .i64 0] 35
 rw [hWB]
 obtain ⟨wC, hWC, zC, hbC, qC, fC⟩ := box1g wB (w.heap.size + 1 + 1) (by omega) #[.int .i64 6, .int .i64 0] 35
 rw [hWC]
 have hX : Boxes3 w wC w.heap.size := by
  have b2 : BoxAt wA w.heap.size 3 := BoxAt.of qA fA rfl (by simp [notU_bool, notU_slice])
  have b3 : BoxAt wB (w.heap.size + 1) 2 := BoxAt.of qB fB rfl (by simp [notU_i64])
  exact ⟨(b2.past hbB (by omega)).past hbC (by omega), b3.past hbC (by omega), qC 0, qC 1, by omega, below_later (below_later hbA hbB) hbC⟩
 clear qA fA qB fB qC fC hWA hWB hWC zA zB zC hbA hbB hbC
 go_loopw [7] (fun s7 wr => ∃ j : Nat, j ≤ P ∧ s7 = .int .i64 (j : Int) ∧ wr = wC) (fun s7 _ => P - (intOf s7).toNat)
 case atStart => exact ⟨0, Nat.zero_le _, rfl, rfl⟩
 case round =>
  obtain ⟨j, hj, rfl, rfl⟩ := hrel
  by_cases hlt : j < P
  · have hij := fun W => str_index s j (by omega) W
    have hne := HNB.out j hlt
    obtain ⟨X2, hX2⟩ : ∃ X, L8 s.data.toList j = X := ⟨_, rfl⟩
    rw [hX2] at hne
    simp only [hX2] at hij
    have tn : ((X2 : Int) != 47) = true := bne_iff_ne.2 (by omega)
    have tj : (j : Int) < (s.size : Int) := by omega
    have HLT := Lib.hid hlt
    clear hX2
    go_wp2_with fail
    go_roundw
    case measure => have := HLT.out; simp [intOf] <;> omega
    case rel => exact ⟨j + 1, by have := HLT.out; omega, by go_num, by trivial⟩
  · obtain rfl : j = P := by omega
    have hB := hX.bel
    by_cases hpr : j < s.size
    · have hij : ∀ W, (Instr.index 9 (.string s) (.int .i64 (j : Int))).run Tryz.prog W = .ok (.int .u8 47) W := fun W => by
       have := str_index s j hpr W
       rw [HAT.out hpr] at this
       exact this
      have hrp := HRPP.out
      rw [if_pos hpr] at hrp
      have HRQ := Lib.hid hrp
      have tj : (j : Int) < (s.size : Int) := by omega
      have tj2 : (j : Int) + 1 ≤ (s.size : Int) := by omega
      have tj3 : (j : Int) ≤ (s.size : Int) := by omega
      clear hrp
      by_cases hE2 : E2 = 0
      · have HE2 := Lib.hid (HOKV.out.1 hE2)
        have tE2 : ((E2 : Int) != 0) = false := bne_eq_false_iff_eq.2 (by omega)
        clear hE2
        by_cases hE : E = 0
        · have HE := Lib.hid (HOKU.out.1 hE)
          have tE : ((E : Int) != 0) = false := bne_eq_false_iff_eq.2 (by omega)
          clear hE
          have hrp := HRQ.out
          rw [HE.out, HE2.out] at hrp
          have HRP : Hid (readP s.data.toList = some (false && decide (N ≠ 0), N, N2)) := Lib.hid hrp
          clear hrp
          by_cases hd0 : N2 = 0
          · subst hd0
            go_wp2_with fail
            refine (HGU.out _).mono ?_
            rintro e w31 ⟨a5, n5, c5, rfl, h5, hb⟩
            have h5 := h5.mono hB.size
            have hX := hX.past hb
            have hB := below_later hB hb
            clear hb
            have szc := hB.size
            go_wp2_with fail
            obtain ⟨w32, hW, hz0, hb, q, f⟩ := box1g w31 (w31.heap.size) (by omega) #[.int .i64 (E : Int), .int .i64 (A : Int)] 35
            rw [hW]
            clear hW
            have hX := hX.past hb
            have h5 := h5.past hb
            have hB := below_later hB hb
            clear hb
            have lf : w31.heap.size < w32.heap.size := by omega
            have qf0 := q 0; have qf1 := q 1
            simp only [lgA, lgZ, lgS] at qf0 qf1
            clear q f
            obtain ⟨w33, hW, hz1, hb, q, f⟩ := box1g w32 (w31.heap.size + 1) (by omega) #[.int .u64 1] 42
            have h0one : OwnAt w33 w32.heap.size (some ⟨w31.heap.size + 1, 0, none⟩) 1 1 [1] := by rw [← hW]; exact litG _ _ _ [1] 1 (by omega) rfl rfl (by decide) (by first | decide | (simp; omega))
            rw [hW]
            clear hW
            have hX := hX.past hb
            have h5 := h5.past hb
            obtain ⟨qf0, qf1, lf⟩ := bq2 hb lf qf0 qf1
            have hB := below_later hB hb
            clear hb
            have one := h0one
            clear h0one
            have one := one.mono (B' := w.heap.size) (by omega)
            clear q f
            clear hz0
            clear hz1
            refine (HGV.out _).mono ?_
            rintro e w34 ⟨a6, n6, c6, rfl, h6, hb⟩
            have h6 := h6.mono hB.size
            have hX := hX.past hb
            have h5 := h5.past hb
            have one := one.past hb
            obtain ⟨qf0, qf1, lf⟩ := bq2 hb lf qf0 qf1
            have hB := below_later hB hb
            clear hb
            have l6 := h6.len
            rw [digs_zero] at l6
            obtain rfl : n6 = 0 := l6.symm
            clear l6
            go_wp2_with fail
            obtain ⟨w35, hW, hz0, hb, q, f⟩ := box1g w34 (w34.heap.size) (by omega) #[.int .i64 (E2 : Int), .int .i64 (A2 : Int)] 35
            rw [hW]
            clear hW
            have hX := hX.past hb
            have h5 := h5.past hb
            have one := one.past hb
            have h6 := h6.past hb
            obtain ⟨qf0, qf1, lf⟩ := bq2 hb lf qf0 qf1
            have hB := below_later hB hb
            clear hb
            have lf2 : w34.heap.size < w35.heap.size := by omega
            have qf20 := q 0; have qf21 := q 1
            simp only [lgA, lgZ, lgS] at qf20 qf21
            clear q f
            clear hz0
            have q2a := hX.q0
            have q2b := hX.q1
            obtain ⟨u0, u1, u2, r0, r1, r2, p0, p1, p2, m0, m1, m2⟩ := hX.x2.three
            obtain ⟨u3, u4, r3, r4, p3, p4, m3, m4⟩ := hX.x3.two
            go_region
            obtain ⟨wY, hWY, hbY, y0, y1, y2, y3, y4, _⟩ := hX.put false none 0 0 none 0 0 6 0
            rw [hWY]
            clear hWY
            go_wp2_with fail
            refine bodyPost_ret (v := .tuple #[.agg #[.bool false, .slice none 0 0, .slice none 0 0], .agg #[.int .i64 6, .int .i64 0]]) (by simp [results, Tryz.results10, go_sem, y0, y1, y2, y3, y4]) rfl ?_
            have hl : s.data.toList.length ≤ 10000 := by rw [size_list]; exact HS.out
            obtain ⟨e1, e2, e3⟩ := told_bad hl HRP.out (by unfold partsOk; simp)
            rw [e1, e2, e3]
            exact ⟨none, 0, 0, none, 0, 0, rfl, OwnAt.nil _ _, OwnAt.nil _ _, hbY.drew⟩
          · obtain ⟨d, hdd⟩ : ∃ d, N2 = d := ⟨_, rfl⟩
            rw [hdd] at HRP HGV LN6 hd0
            have hln6 := LN6.out
            have HD0 := Lib.hid hd0
            go_wp2_with fail
            refine (HGU.out _).mono ?_
            rintro e w31 ⟨a5, n5, c5, rfl, h5, hb⟩
            have h5 := h5.mono hB.size
            have hX := hX.past hb
            have hB := below_later hB hb
            clear hb
            have szc := hB.size
            go_wp2_with fail
            obtain ⟨w32, hW, hz0, hb, q, f⟩ := box1g w31 (w31.heap.size) (by omega) #[.int .i64 (E : Int), .int .i64 (A : Int)] 35
            rw [hW]
            clear hW
            have hX := hX.past hb
            have h5 := h5.past hb
            have hB := below_later hB hb
            clear hb
            have lf : w31.heap.size < w32.heap.size := by omega
            have qf0 := q 0; have qf1 := q 1
            simp only [lgA, lgZ, lgS] at qf0 qf1
            clear q f
            obtain ⟨w33, hW, hz1, hb, q, f⟩ := box1g w32 (w31.heap.size + 1) (by omega) #[.int .u64 1] 42
            have h0one : OwnAt w33 w32.heap.size (some ⟨w31.heap.size + 1, 0, none⟩) 1 1 [1] := by rw [← hW]; exact litG _ _ _ [1] 1 (by omega) rfl rfl (by decide) (by first | decide | (simp; omega))
            rw [hW]
            clear hW
            have hX := hX.past hb
            have h5 := h5.past hb
            obtain ⟨qf0, qf1, lf⟩ := bq2 hb lf qf0 qf1
            have hB := below_later hB hb
            clear hb
            have one := h0one
            clear h0one
            have one := one.mono (B' := w.heap.size) (by omega)
            clear q f
            clear hz0
            clear hz1
            refine (HGV.out _).mono ?_
            rintro e w34 ⟨a6, n6, c6, rfl, h6, hb⟩
            have h6 := h6.mono hB.size
            have hX := hX.past hb
            have h5 := h5.past hb
            have one := one.past hb
            obtain ⟨qf0, qf1, lf⟩ := bq2 hb lf qf0 qf1
            have hB := below_later hB hb
            clear hb
            have l6 := h6.len
            have hdp : n6 ≠ 0 := fun e => HD0.out (digs_len0.1 (by rw [l6]; exact e))
            have hn6 : n6 ≤ 10000 := by omega
            have hn5 : n5 ≤ 10000 := by have := h5.len; have := LN5.out; omega
            have tz : ((n6 : Int) == 0) = false := beq_eq_false_iff_ne.2 (by omega)
            clear l6 hln6
            have hmk : ∀ (w : World), NatAt w a5 n5 c5 (digs N) → Calls Tryz.prog 27 #[.bool false, .slice a5 n5 c5] w (RetInt w (sg false N)) := fun w h => by
             have := rsmake_any false a5 n5 c5 (digs N) w h (by omega)
             rwa [val_digs] at this
            have HMK := Lib.hid hmk
            have eB : neg (sg false N) = (false && decide (N ≠ 0)) := by
             rw [neg_sg]
             by_cases e : N = 0
             · subst e; simp
             · have e2 : 0 < N := Nat.pos_of_ne_zero e
               simp [e, e2]
            obtain ⟨Z, hZ⟩ : ∃ Z, (false && decide (N ≠ 0)) = Z := ⟨_, rfl⟩
            have hZN : Z = true → N ≠ 0 := by
             intro e
             rw [← hZ] at e
             cases hN0 : decide (N ≠ 0) with
             | true => exact of_decide_eq_true hN0
             | false => rw [hN0] at e; simp at e
            rw [hZ] at eB
            rw [hZ] at HRP
            have HZN := Lib.hid hZN
            have HEB := Lib.hid eB
            clear hmk hZ hZN eB
            have hln := LN5.out
            have htx := fun w a n c (g1 : NatAt w a n c (digs N)) (g2 : NatAt w a6 n6 c6 (digs d)) (hn : n ≤ 100000) => rtext_any Z a n c (digs N) a6 n6 c6 (digs d) w g1 g2 hn (by omega)
            clear hln
            by_cases hc : chkR Z (digs N) (digs d) = 0
            · have hT : textE Z (digs N) (digs d) = textB Z N d := by
               unfold textE
               rw [if_pos hc, val_digs, val_digs]
              simp only [hT, hc] at htx
              obtain ⟨T, hTT⟩ : ∃ T, textB Z N d = T := ⟨_, rfl⟩
              rw [hTT] at htx
              have HTX := Lib.hid htx
              have HTT := Lib.hid hTT
              have HC := Lib.hid hc
              clear htx hTT hT hc
              by_cases hs : T = s
              · subst hs
                go_wp2_with fail
                obtain ⟨w35, hW, hz0, hb, q, f⟩ := box1g w34 (w34.heap.size) (by omega) #[.int .i64 (E2 : Int), .int .i64 (A2 : Int)] 35
                rw [hW]
                clear hW
                have hX := hX.past hb
                have h5 := h5.past hb
                have one := one.past hb
                have h6 := h6.past hb
                obtain ⟨qf0, qf1, lf⟩ := bq2 hb lf qf0 qf1
                have hB := below_later hB hb
                clear hb
                have lf2 : w34.heap.size < w35.heap.size := by omega
                have qf20 := q 0; have qf21 := q 1
                simp only [lgA, lgZ, lgS] at qf20 qf21
                clear q f
                clear hz0
                refine (HMK.out _ h5.toNatAt).mono ?_
                rintro e w36 ⟨aU, nU, cU, rfl, hU, hb⟩
                have hU := hU.mono hB.size
                have hX := hX.past hb
                have h5 := h5.past hb
                have one := one.past hb
                have h6 := h6.past hb
                obtain ⟨qf0, qf1, lf⟩ := bq2 hb lf qf0 qf1
                obtain ⟨qf20, qf21, lf2⟩ := bq2 hb lf2 qf20 qf21
                have hB := below_later hB hb
                clear hb
                rw [natAbs_sg] at hU
                rw [HEB.out]
                go_wp2_with fail
                obtain ⟨w37, hW, hz0, hb, q, f⟩ := box1g w36 (w36.heap.size) (by omega) #[.bool Z, .slice aU nU cU, .slice a6 n6 c6] 27
                rw [hW]
                clear hW
                have hX := hX.past hb
                have h5 := h5.past hb
                have one := one.past hb
                have h6 := h6.past hb
                have hU := hU.past hb
                obtain ⟨qf0, qf1, lf⟩ := bq2 hb lf qf0 qf1
                obtain ⟨qf20, qf21, lf2⟩ := bq2 hb lf2 qf20 qf21
                have hB := below_later hB hb
                clear hb
                have lx : w36.heap.size < w37.heap.size := by omega
                have qx0 := q 0; have qx1 := q 1; have qx2 := q 2
                simp only [lgA, lgZ, lgS] at qx0 qx1 qx2
                clear q f
                clear hz0
                refine (HTX.out _ _ _ _ hU.toNatAt h6.toNatAt (by have := hU.len; have := LN5.out; omega)).mono ?_
                rintro e w38 ⟨rfl, hb⟩
                have hX := hX.past hb
                have h5 := h5.past hb
                have one := one.past hb
                have h6 := h6.past hb
                have hU := hU.past hb
                obtain ⟨qf0, qf1, lf⟩ := bq2 hb lf qf0 qf1
                obtain ⟨qf20, qf21, lf2⟩ := bq2 hb lf2 qf20 qf21
                obtain ⟨qx0, qx1, qx2, lx⟩ := bq3 hb lx qx0 qx1 qx2
                have hB := below_later hB hb
                clear hb
                obtain ⟨u0, u1, u2, r0, r1, r2, p0, p1, p2, m0, m1, m2⟩ := hX.x2.three
                obtain ⟨u3, u4, r3, r4, p3, p4, m3, m4⟩ := hX.x3.two
                go_wp2_with fail
                obtain ⟨wY, hWY, hbY, y0, y1, y2, y3, y4, hown⟩ := hX.put Z aU nU cU a6 n6 c6 0 0
                rw [hWY]
                refine bodyPost_ret (v := .tuple #[.agg #[.bool Z, .slice aU nU cU, .slice a6 n6 c6], .agg #[.int .i64 0, .int .i64 0]]) (by simp [results, Tryz.results10, go_sem, y0, y1, y2, y3, y4]) rfl ?_
                have hl : T.data.toList.length ≤ 10000 := by rw [size_list]; exact HS.out
                have hte : textP Z N d = T.data.toList := by rw [← HTT.out, textB_list]
                obtain ⟨e1, e2, e3⟩ := told_yes hl HRP.out (by rw [partsOk_chk HZN.out, HC.out, hte]; simp)
                rw [e1, e2, e3]
                exact ⟨aU, nU, cU, a6, n6, c6, rfl, hown _ _ _ _ _ hU, hown _ _ _ _ _ h6, hbY⟩
              · have HTS := Lib.hid hs
                have tT : (T.toList == s.toList) = false := by
                 rw [beq_eq_false_iff_ne]
                 intro e
                 rw [toList_data, toList_data] at e
                 exact hs (by cases T; cases s; congr 1; exact Array.toList_inj.1 e)
                clear hs
                go_wp2_with fail
                obtain ⟨w35, hW, hz0, hb, q, f⟩ := box1g w34 (w34.heap.size) (by omega) #[.int .i64 (E2 : Int), .int .i64 (A2 : Int)] 35
                rw [hW]
                clear hW
                have hX := hX.past hb
                have h5 := h5.past hb
                have one := one.past hb
                have h6 := h6.past hb
                obtain ⟨qf0, qf1, lf⟩ := bq2 hb lf qf0 qf1
                have hB := below_later hB hb
                clear hb
                have lf2 : w34.heap.size < w35.heap.size := by omega
                have qf20 := q 0; have qf21 := q 1
                simp only [lgA, lgZ, lgS] at qf20 qf21
                clear q f
                clear hz0
                refine (HMK.out _ h5.toNatAt).mono ?_
                rintro e w36 ⟨aU, nU, cU, rfl, hU, hb⟩
                have hU := hU.mono hB.size
                have hX := hX.past hb
                have h5 := h5.past hb
                have one := one.past hb
                have h6 := h6.past hb
                obtain ⟨qf0, qf1, lf⟩ := bq2 hb lf qf0 qf1
                obtain ⟨qf20, qf21, lf2⟩ := bq2 hb lf2 qf20 qf21
                have hB := below_later hB hb
                clear hb
                rw [natAbs_sg] at hU
                rw [HEB.out]
                go_wp2_with fail
                obtain ⟨w37, hW, hz0, hb, q, f⟩ := box1g w36 (w36.heap.size) (by omega) #[.bool Z, .slice aU nU cU, .slice a6 n6 c6] 27
                rw [hW]
                clear hW
                have hX := hX.past hb
                have h5 := h5.past hb
                have one := one.past hb
                have h6 := h6.past hb
                have hU := hU.past hb
                obtain ⟨qf0, qf1, lf⟩ := bq2 hb lf qf0 qf1
                obtain ⟨qf20, qf21, lf2⟩ := bq2 hb lf2 qf20 qf21
                have hB := below_later hB hb
                clear hb
                have lx : w36.heap.size < w37.heap.size := by omega
                have qx0 := q 0; have qx1 := q 1; have qx2 := q 2
                simp only [lgA, lgZ, lgS] at qx0 qx1 qx2
                clear q f
                clear hz0
                refine (HTX.out _ _ _ _ hU.toNatAt h6.toNatAt (by have := hU.len; have := LN5.out; omega)).mono ?_
                rintro e w38 ⟨rfl, hb⟩
                have hX := hX.past hb
                have h5 := h5.past hb
                have one := one.past hb
                have h6 := h6.past hb
                have hU := hU.past hb
                obtain ⟨qf0, qf1, lf⟩ := bq2 hb lf qf0 qf1
                obtain ⟨qf20, qf21, lf2⟩ := bq2 hb lf2 qf20 qf21
                obtain ⟨qx0, qx1, qx2, lx⟩ := bq3 hb lx qx0 qx1 qx2
                have hB := below_later hB hb
                clear hb
                go_wp2_with fail
                have q2a := hX.q0
                have q2b := hX.q1
                obtain ⟨u0, u1, u2, r0, r1, r2, p0, p1, p2, m0, m1, m2⟩ := hX.x2.three
                obtain ⟨u3, u4, r3, r4, p3, p4, m3, m4⟩ := hX.x3.two
                go_region
                obtain ⟨wY, hWY, hbY, y0, y1, y2, y3, y4, _⟩ := hX.put false none 0 0 none 0 0 6 0
                rw [hWY]
                clear hWY
                go_wp2_with fail
                refine bodyPost_ret (v := .tuple #[.agg #[.bool false, .slice none 0 0, .slice none 0 0], .agg #[.int .i64 6, .int .i64 0]]) (by simp [results, Tryz.results10, go_sem, y0, y1, y2, y3, y4]) rfl ?_
                have hl : s.data.toList.length ≤ 10000 := by rw [size_list]; exact HS.out
                obtain ⟨e1, e2, e3⟩ := told_bad hl (HRP.out) (by rw [partsOk_chk HZN.out]; have : textP Z N d ≠ s.data.toList := (by intro e; apply HTS.out; rw [← HTT.out]; unfold textB; rw [e]); simp [this])
                rw [e1, e2, e3]
                exact ⟨none, 0, 0, none, 0, 0, rfl, OwnAt.nil _ _, OwnAt.nil _ _, hbY.drew⟩
            · have hT : textE Z (digs N) (digs d) = ⟨#[]⟩ := if_neg hc
              simp only [hT, chkR_no hc] at htx
              have HTX := Lib.hid htx
              have HC := Lib.hid hc
              clear htx hT hc
              go_wp2_with fail
              obtain ⟨w35, hW, hz0, hb, q, f⟩ := box1g w34 (w34.heap.size) (by omega) #[.int .i64 (E2 : Int), .int .i64 (A2 : Int)] 35
              rw [hW]
              clear hW
              have hX := hX.past hb
              have h5 := h5.past hb
              have one := one.past hb
              have h6 := h6.past hb
              obtain ⟨qf0, qf1, lf⟩ := bq2 hb lf qf0 qf1
              have hB := below_later hB hb
              clear hb
              have lf2 : w34.heap.size < w35.heap.size := by omega
              have qf20 := q 0; have qf21 := q 1
              simp only [lgA, lgZ, lgS] at qf20 qf21
              clear q f
              clear hz0
              refine (HMK.out _ h5.toNatAt).mono ?_
              rintro e w36 ⟨aU, nU, cU, rfl, hU, hb⟩
              have hU := hU.mono hB.size
              have hX := hX.past hb
              have h5 := h5.past hb
              have one := one.past hb
              have h6 := h6.past hb
              obtain ⟨qf0, qf1, lf⟩ := bq2 hb lf qf0 qf1
              obtain ⟨qf20, qf21, lf2⟩ := bq2 hb lf2 qf20 qf21
              have hB := below_later hB hb
              clear hb
              rw [natAbs_sg] at hU
              rw [HEB.out]
              go_wp2_with fail
              obtain ⟨w37, hW, hz0, hb, q, f⟩ := box1g w36 (w36.heap.size) (by omega) #[.bool Z, .slice aU nU cU, .slice a6 n6 c6] 27
              rw [hW]
              clear hW
              have hX := hX.past hb
              have h5 := h5.past hb
              have one := one.past hb
              have h6 := h6.past hb
              have hU := hU.past hb
              obtain ⟨qf0, qf1, lf⟩ := bq2 hb lf qf0 qf1
              obtain ⟨qf20, qf21, lf2⟩ := bq2 hb lf2 qf20 qf21
              have hB := below_later hB hb
              clear hb
              have lx : w36.heap.size < w37.heap.size := by omega
              have qx0 := q 0; have qx1 := q 1; have qx2 := q 2
              simp only [lgA, lgZ, lgS] at qx0 qx1 qx2
              clear q f
              clear hz0
              refine (HTX.out _ _ _ _ hU.toNatAt h6.toNatAt (by have := hU.len; have := LN5.out; omega)).mono ?_
              rintro e w38 ⟨rfl, hb⟩
              have hX := hX.past hb
              have h5 := h5.past hb
              have one := one.past hb
              have h6 := h6.past hb
              have hU := hU.past hb
              obtain ⟨qf0, qf1, lf⟩ := bq2 hb lf qf0 qf1
              obtain ⟨qf20, qf21, lf2⟩ := bq2 hb lf2 qf20 qf21
              obtain ⟨qx0, qx1, qx2, lx⟩ := bq3 hb lx qx0 qx1 qx2
              have hB := below_later hB hb
              clear hb
              go_wp2_with fail
              have q2a := hX.q0
              have q2b := hX.q1
              obtain ⟨u0, u1, u2, r0, r1, r2, p0, p1, p2, m0, m1, m2⟩ := hX.x2.three
              obtain ⟨u3, u4, r3, r4, p3, p4, m3, m4⟩ := hX.x3.two
              go_region
              obtain ⟨wY, hWY, hbY, y0, y1, y2, y3, y4, _⟩ := hX.put false none 0 0 none 0 0 6 0
              rw [hWY]
              clear hWY
              go_wp2_with fail
              refine bodyPost_ret (v := .tuple #[.agg #[.bool false, .slice none 0 0, .slice none 0 0], .agg #[.int .i64 6, .int .i64 0]]) (by simp [results, Tryz.results10, go_sem, y0, y1, y2, y3, y4]) rfl ?_
              have hl : s.data.toList.length ≤ 10000 := by rw [size_list]; exact HS.out
              obtain ⟨e1, e2, e3⟩ := told_bad hl (HRP.out) (by rw [partsOk_chk HZN.out]; have := HC.out; simp [this])
              rw [e1, e2, e3]
              exact ⟨none, 0, 0, none, 0, 0, rfl, OwnAt.nil _ _, OwnAt.nil _ _, hbY.drew⟩
        · have tE : ((E : Int) != 0) = true := bne_iff_ne.2 (by omega)
          have HNO := Lib.hid hE
          clear hE
          go_wp2_with fail
          refine (HGU.out _).mono ?_
          rintro e w31 ⟨a5, n5, c5, rfl, h5, hb⟩
          have h5 := h5.mono hB.size
          have hX := hX.past hb
          have hB := below_later hB hb
          clear hb
          have szc := hB.size
          go_wp2_with fail
          obtain ⟨w32, hW, hz0, hb, q, f⟩ := box1g w31 (w31.heap.size) (by omega) #[.int .i64 (E : Int), .int .i64 (A : Int)] 35
          rw [hW]
          clear hW
          have hX := hX.past hb
          have h5 := h5.past hb
          have hB := below_later hB hb
          clear hb
          have lf : w31.heap.size < w32.heap.size := by omega
          have qf0 := q 0; have qf1 := q 1
          simp only [lgA, lgZ, lgS] at qf0 qf1
          clear q f
          obtain ⟨w33, hW, hz1, hb, q, f⟩ := box1g w32 (w31.heap.size + 1) (by omega) #[.int .u64 1] 42
          have h0one : OwnAt w33 w32.heap.size (some ⟨w31.heap.size + 1, 0, none⟩) 1 1 [1] := by rw [← hW]; exact litG _ _ _ [1] 1 (by omega) rfl rfl (by decide) (by first | decide | (simp; omega))
          rw [hW]
          clear hW
          have hX := hX.past hb
          have h5 := h5.past hb
          obtain ⟨qf0, qf1, lf⟩ := bq2 hb lf qf0 qf1
          have hB := below_later hB hb
          clear hb
          have one := h0one
          clear h0one
          have one := one.mono (B' := w.heap.size) (by omega)
          clear q f
          clear hz0
          clear hz1
          refine (HGV.out _).mono ?_
          rintro e w34 ⟨a6, n6, c6, rfl, h6, hb⟩
          have h6 := h6.mono hB.size
          have hX := hX.past hb
          have h5 := h5.past hb
          have one := one.past hb
          obtain ⟨qf0, qf1, lf⟩ := bq2 hb lf qf0 qf1
          have hB := below_later hB hb
          clear hb
          go_wp2_with fail
          obtain ⟨w35, hW, hz0, hb, q, f⟩ := box1g w34 (w34.heap.size) (by omega) #[.int .i64 (E2 : Int), .int .i64 (A2 : Int)] 35
          rw [hW]
          clear hW
          have hX := hX.past hb
          have h5 := h5.past hb
          have one := one.past hb
          have h6 := h6.past hb
          obtain ⟨qf0, qf1, lf⟩ := bq2 hb lf qf0 qf1
          have hB := below_later hB hb
          clear hb
          have lf2 : w34.heap.size < w35.heap.size := by omega
          have qf20 := q 0; have qf21 := q 1
          simp only [lgA, lgZ, lgS] at qf20 qf21
          clear q f
          clear hz0
          have q2a := hX.q0
          have q2b := hX.q1
          obtain ⟨u0, u1, u2, r0, r1, r2, p0, p1, p2, m0, m1, m2⟩ := hX.x2.three
          obtain ⟨u3, u4, r3, r4, p3, p4, m3, m4⟩ := hX.x3.two
          go_region
          obtain ⟨wY, hWY, hbY, y0, y1, y2, y3, y4, _⟩ := hX.put false none 0 0 none 0 0 6 0
          rw [hWY]
          clear hWY
          go_wp2_with fail
          refine bodyPost_ret (v := .tuple #[.agg #[.bool false, .slice none 0 0, .slice none 0 0], .agg #[.int .i64 6, .int .i64 0]]) (by simp [results, Tryz.results10, go_sem, y0, y1, y2, y3, y4]) rfl ?_
          have hl : s.data.toList.length ≤ 10000 := by rw [size_list]; exact HS.out
          obtain ⟨e1, e2, e3⟩ := told_none hl (by rw [HRQ.out]; cases hq : okL U.data.toList with | false => rfl | true => exact absurd (HOKU.out.2 hq) HNO.out)
          rw [e1, e2, e3]
          exact ⟨none, 0, 0, none, 0, 0, rfl, OwnAt.nil _ _, OwnAt.nil _ _, hbY.drew⟩
      · have tE2 : ((E2 : Int) != 0) = true := bne_iff_ne.2 (by omega)
        have HNO := Lib.hid hE2
        clear hE2
        go_wp2_with fail
        refine (HGU.out _).mono ?_
        rintro e w31 ⟨a5, n5, c5, rfl, h5, hb⟩
        have h5 := h5.mono hB.size
        have hX := hX.past hb
        have hB := below_later hB hb
        clear hb
        have szc := hB.size
        go_wp2_with fail
        obtain ⟨w32, hW, hz0, hb, q, f⟩ := box1g w31 (w31.heap.size) (by omega) #[.int .i64 (E : Int), .int .i64 (A : Int)] 35
        rw [hW]
        clear hW
        have hX := hX.past hb
        have h5 := h5.past hb
        have hB := below_later hB hb
        clear hb
        have lf : w31.heap.size < w32.heap.size := by omega
        have qf0 := q 0; have qf1 := q 1
        simp only [lgA, lgZ, lgS] at qf0 qf1
        clear q f
        obtain ⟨w33, hW, hz1, hb, q, f⟩ := box1g w32 (w31.heap.size + 1) (by omega) #[.int .u64 1] 42
        have h0one : OwnAt w33 w32.heap.size (some ⟨w31.heap.size + 1, 0, none⟩) 1 1 [1] := by rw [← hW]; exact litG _ _ _ [1] 1 (by omega) rfl rfl (by decide) (by first | decide | (simp; omega))
        rw [hW]
        clear hW
        have hX := hX.past hb
        have h5 := h5.past hb
        obtain ⟨qf0, qf1, lf⟩ := bq2 hb lf qf0 qf1
        have hB := below_later hB hb
        clear hb
        have one := h0one
        clear h0one
        have one := one.mono (B' := w.heap.size) (by omega)
        clear q f
        clear hz0
        clear hz1
        refine (HGV.out _).mono ?_
        rintro e w34 ⟨a6, n6, c6, rfl, h6, hb⟩
        have h6 := h6.mono hB.size
        have hX := hX.past hb
        have h5 := h5.past hb
        have one := one.past hb
        obtain ⟨qf0, qf1, lf⟩ := bq2 hb lf qf0 qf1
        have hB := below_later hB hb
        clear hb
        go_wp2_with fail
        obtain ⟨w35, hW, hz0, hb, q, f⟩ := box1g w34 (w34.heap.size) (by omega) #[.int .i64 (E2 : Int), .int .i64 (A2 : Int)] 35
        rw [hW]
        clear hW
        have hX := hX.past hb
        have h5 := h5.past hb
        have one := one.past hb
        have h6 := h6.past hb
        obtain ⟨qf0, qf1, lf⟩ := bq2 hb lf qf0 qf1
        have hB := below_later hB hb
        clear hb
        have lf2 : w34.heap.size < w35.heap.size := by omega
        have qf20 := q 0; have qf21 := q 1
        simp only [lgA, lgZ, lgS] at qf20 qf21
        clear q f
        clear hz0
        have q2a := hX.q0
        have q2b := hX.q1
        obtain ⟨u0, u1, u2, r0, r1, r2, p0, p1, p2, m0, m1, m2⟩ := hX.x2.three
        obtain ⟨u3, u4, r3, r4, p3, p4, m3, m4⟩ := hX.x3.two
        go_region
        obtain ⟨wY, hWY, hbY, y0, y1, y2, y3, y4, _⟩ := hX.put false none 0 0 none 0 0 6 0
        rw [hWY]
        clear hWY
        go_wp2_with fail
        refine bodyPost_ret (v := .tuple #[.agg #[.bool false, .slice none 0 0, .slice none 0 0], .agg #[.int .i64 6, .int .i64 0]]) (by simp [results, Tryz.results10, go_sem, y0, y1, y2, y3, y4]) rfl ?_
        have hl : s.data.toList.length ≤ 10000 := by rw [size_list]; exact HS.out
        obtain ⟨e1, e2, e3⟩ := told_none hl (by rw [HRQ.out]; cases hq : okL V.data.toList with | false => cases okL U.data.toList <;> rfl | true => exact absurd (HOKV.out.2 hq) HNO.out)
        rw [e1, e2, e3]
        exact ⟨none, 0, 0, none, 0, 0, rfl, OwnAt.nil _ _, OwnAt.nil _ _, hbY.drew⟩
    · have hrp := HRPP.out
      rw [if_neg hpr] at hrp
      have HRQ := Lib.hid hrp
      have tj : ¬ (j : Int) < (s.size : Int) := by omega
      have tj0 : decide ((j : Int) < (s.size : Int)) = false := decide_eq_false tj
      have tj3 : (j : Int) ≤ (s.size : Int) := by omega
      clear hrp
      by_cases hE : E = 0
      · have HE := Lib.hid (HOKU.out.1 hE)
        have tE : ((E : Int) != 0) = false := bne_eq_false_iff_eq.2 (by omega)
        clear hE
        have hrp := HRQ.out
        rw [HE.out] at hrp
        have HRP : Hid (readP s.data.toList = some (false && decide (N ≠ 0), N, 1)) := Lib.hid hrp
        clear hrp
        go_wp2_with fail
        refine (HGU.out _).mono ?_
        rintro e w31 ⟨a5, n5, c5, rfl, h5, hb⟩
        have h5 := h5.mono hB.size
        have hX := hX.past hb
        have hB := below_later hB hb
        clear hb
        have szc := hB.size
        go_wp2_with fail
        obtain ⟨w32, hW, hz0, hb, q, f⟩ := box1g w31 (w31.heap.size) (by omega) #[.int .i64 (E : Int), .int .i64 (A : Int)] 35
        rw [hW]
        clear hW
        have hX := hX.past hb
        have h5 := h5.past hb
        have hB := below_later hB hb
        clear hb
        have lf : w31.heap.size < w32.heap.size := by omega
        have qf0 := q 0; have qf1 := q 1
        simp only [lgA, lgZ, lgS] at qf0 qf1
        clear q f
        obtain ⟨w33, hW, hz1, hb, q, f⟩ := box1g w32 (w31.heap.size + 1) (by omega) #[.int .u64 1] 42
        have h0one : OwnAt w33 w32.heap.size (some ⟨w31.heap.size + 1, 0, none⟩) 1 1 [1] := by rw [← hW]; exact litG _ _ _ [1] 1 (by omega) rfl rfl (by decide) (by first | decide | (simp; omega))
        rw [hW]
        clear hW
        have hX := hX.past hb
        have h5 := h5.past hb
        obtain ⟨qf0, qf1, lf⟩ := bq2 hb lf qf0 qf1
        have hB := below_later hB hb
        clear hb
        have one := h0one
        clear h0one
        have one := one.mono (B' := w.heap.size) (by omega)
        clear q f
        clear hz0
        clear hz1
        have hn5 : n5 ≤ 10000 := by have := h5.len; have := LN5.out; omega
        obtain ⟨d, hdd⟩ : ∃ d, 1 = d := ⟨_, rfl⟩
        have h6 := one
        rw [show ([1] : List Nat) = digs d by rw [← hdd]; decide] at h6
        rw [hdd] at HRP
        clear one hdd
        have hmk : ∀ (w : World), NatAt w a5 n5 c5 (digs N) → Calls Tryz.prog 27 #[.bool false, .slice a5 n5 c5] w (RetInt w (sg false N)) := fun w h => by
         have := rsmake_any false a5 n5 c5 (digs N) w h (by omega)
         rwa [val_digs] at this
        have HMK := Lib.hid hmk
        have eB : neg (sg false N) = (false && decide (N ≠ 0)) := by
         rw [neg_sg]
         by_cases e : N = 0
         · subst e; simp
         · have e2 : 0 < N := Nat.pos_of_ne_zero e
           simp [e, e2]
        obtain ⟨Z, hZ⟩ : ∃ Z, (false && decide (N ≠ 0)) = Z := ⟨_, rfl⟩
        have hZN : Z = true → N ≠ 0 := by
         intro e
         rw [← hZ] at e
         cases hN0 : decide (N ≠ 0) with
         | true => exact of_decide_eq_true hN0
         | false => rw [hN0] at e; simp at e
        rw [hZ] at eB
        rw [hZ] at HRP
        have HZN := Lib.hid hZN
        have HEB := Lib.hid eB
        clear hmk hZ hZN eB
        have hln := LN5.out
        have htx := fun w a n c (g1 : NatAt w a n c (digs N)) (g2 : NatAt w (some ⟨w31.heap.size + 1, 0, none⟩) 1 1 (digs d)) (hn : n ≤ 100000) => rtext_any Z a n c (digs N) (some ⟨w31.heap.size + 1, 0, none⟩) 1 1 (digs d) w g1 g2 hn (by omega)
        clear hln
        by_cases hc : chkR Z (digs N) (digs d) = 0
        · have hT : textE Z (digs N) (digs d) = textB Z N d := by
           unfold textE
           rw [if_pos hc, val_digs, val_digs]
          simp only [hT, hc] at htx
          obtain ⟨T, hTT⟩ : ∃ T, textB Z N d = T := ⟨_, rfl⟩
          rw [hTT] at htx
          have HTX := Lib.hid htx
          have HTT := Lib.hid hTT
          have HC := Lib.hid hc
          clear htx hTT hT hc
          by_cases hs : T = s
          · subst hs
            go_wp2_with fail
            refine (HMK.out _ h5.toNatAt).mono ?_
            rintro e w34 ⟨aU, nU, cU, rfl, hU, hb⟩
            have hU := hU.mono hB.size
            have hX := hX.past hb
            have h5 := h5.past hb
            have h6 := h6.past hb
            obtain ⟨qf0, qf1, lf⟩ := bq2 hb lf qf0 qf1
            have hB := below_later hB hb
            clear hb
            rw [natAbs_sg] at hU
            rw [HEB.out]
            go_wp2_with fail
            obtain ⟨w35, hW, hz0, hb, q, f⟩ := box1g w34 (w34.heap.size) (by omega) #[.bool Z, .slice aU nU cU, .slice (some ⟨w31.heap.size + 1, 0, none⟩) 1 1] 27
            rw [hW]
            clear hW
            have hX := hX.past hb
            have h5 := h5.past hb
            have h6 := h6.past hb
            have hU := hU.past hb
            obtain ⟨qf0, qf1, lf⟩ := bq2 hb lf qf0 qf1
            have hB := below_later hB hb
            clear hb
            have lx : w34.heap.size < w35.heap.size := by omega
            have qx0 := q 0; have qx1 := q 1; have qx2 := q 2
            simp only [lgA, lgZ, lgS] at qx0 qx1 qx2
            clear q f
            clear hz0
            refine (HTX.out _ _ _ _ hU.toNatAt h6.toNatAt (by have := hU.len; have := LN5.out; omega)).mono ?_
            rintro e w36 ⟨rfl, hb⟩
            have hX := hX.past hb
            have h5 := h5.past hb
            have h6 := h6.past hb
            have hU := hU.past hb
            obtain ⟨qf0, qf1, lf⟩ := bq2 hb lf qf0 qf1
            obtain ⟨qx0, qx1, qx2, lx⟩ := bq3 hb lx qx0 qx1 qx2
            have hB := below_later hB hb
            clear hb
            obtain ⟨u0, u1, u2, r0, r1, r2, p0, p1, p2, m0, m1, m2⟩ := hX.x2.three
            obtain ⟨u3, u4, r3, r4, p3, p4, m3, m4⟩ := hX.x3.two
            go_wp2_with fail
            obtain ⟨wY, hWY, hbY, y0, y1, y2, y3, y4, hown⟩ := hX.put Z aU nU cU (some ⟨w31.heap.size + 1, 0, none⟩) 1 1 0 0
            rw [hWY]
            refine bodyPost_ret (v := .tuple #[.agg #[.bool Z, .slice aU nU cU, .slice (some ⟨w31.heap.size + 1, 0, none⟩) 1 1], .agg #[.int .i64 0, .int .i64 0]]) (by simp [results, Tryz.results10, go_sem, y0, y1, y2, y3, y4]) rfl ?_
            have hl : T.data.toList.length ≤ 10000 := by rw [size_list]; exact HS.out
            have hte : textP Z N d = T.data.toList := by rw [← HTT.out, textB_list]
            obtain ⟨e1, e2, e3⟩ := told_yes hl HRP.out (by rw [partsOk_chk HZN.out, HC.out, hte]; simp)
            rw [e1, e2, e3]
            exact ⟨aU, nU, cU, (some ⟨w31.heap.size + 1, 0, none⟩), 1, 1, rfl, hown _ _ _ _ _ hU, hown _ _ _ _ _ h6, hbY⟩
          · have HTS := Lib.hid hs
            have tT : (T.toList == s.toList) = false := by
             rw [beq_eq_false_iff_ne]
             intro e
             rw [toList_data, toList_data] at e
             exact hs (by cases T; cases s; congr 1; exact Array.toList_inj.1 e)
            clear hs
            go_wp2_with fail
            refine (HMK.out _ h5.toNatAt).mono ?_
            rintro e w34 ⟨aU, nU, cU, rfl, hU, hb⟩
            have hU := hU.mono hB.size
            have hX := hX.past hb
            have h5 := h5.past hb
            have h6 := h6.past hb
            obtain ⟨qf0, qf1, lf⟩ := bq2 hb lf qf0 qf1
            have hB := below_later hB hb
            clear hb
            rw [natAbs_sg] at hU
            rw [HEB.out]
            go_wp2_with fail
            obtain ⟨w35, hW, hz0, hb, q, f⟩ := box1g w34 (w34.heap.size) (by omega) #[.bool Z, .slice aU nU cU, .slice (some ⟨w31.heap.size + 1, 0, none⟩) 1 1] 27
            rw [hW]
            clear hW
            have hX := hX.past hb
            have h5 := h5.past hb
            have h6 := h6.past hb
            have hU := hU.past hb
            obtain ⟨qf0, qf1, lf⟩ := bq2 hb lf qf0 qf1
            have hB := below_later hB hb
            clear hb
            have lx : w34.heap.size < w35.heap.size := by omega
            have qx0 := q 0; have qx1 := q 1; have qx2 := q 2
            simp only [lgA, lgZ, lgS] at qx0 qx1 qx2
            clear q f
            clear hz0
            refine (HTX.out _ _ _ _ hU.toNatAt h6.toNatAt (by have := hU.len; have := LN5.out; omega)).mono ?_
            rintro e w36 ⟨rfl, hb⟩
            have hX := hX.past hb
            have h5 := h5.past hb
            have h6 := h6.past hb
            have hU := hU.past hb
            obtain ⟨qf0, qf1, lf⟩ := bq2 hb lf qf0 qf1
            obtain ⟨qx0, qx1, qx2, lx⟩ := bq3 hb lx qx0 qx1 qx2
            have hB := below_later hB hb
            clear hb
            go_wp2_with fail
            have q2a := hX.q0
            have q2b := hX.q1
            obtain ⟨u0, u1, u2, r0, r1, r2, p0, p1, p2, m0, m1, m2⟩ := hX.x2.three
            obtain ⟨u3, u4, r3, r4, p3, p4, m3, m4⟩ := hX.x3.two
            go_region
            obtain ⟨wY, hWY, hbY, y0, y1, y2, y3, y4, _⟩ := hX.put false none 0 0 none 0 0 6 0
            rw [hWY]
            clear hWY
            go_wp2_with fail
            refine bodyPost_ret (v := .tuple #[.agg #[.bool false, .slice none 0 0, .slice none 0 0], .agg #[.int .i64 6, .int .i64 0]]) (by simp [results, Tryz.results10, go_sem, y0, y1, y2, y3, y4]) rfl ?_
            have hl : s.data.toList.length ≤ 10000 := by rw [size_list]; exact HS.out
            obtain ⟨e1, e2, e3⟩ := told_bad hl (HRP.out) (by rw [partsOk_chk HZN.out]; have : textP Z N d ≠ s.data.toList := (by intro e; apply HTS.out; rw [← HTT.out]; unfold textB; rw [e]); simp [this])
            rw [e1, e2, e3]
            exact ⟨none, 0, 0, none, 0, 0, rfl, OwnAt.nil _ _, OwnAt.nil _ _, hbY.drew⟩
        · have hT : textE Z (digs N) (digs d) = ⟨#[]⟩ := if_neg hc
          simp only [hT, chkR_no hc] at htx
          have HTX := Lib.hid htx
          have HC := Lib.hid hc
          clear htx hT hc
          go_wp2_with fail
          refine (HMK.out _ h5.toNatAt).mono ?_
          rintro e w34 ⟨aU, nU, cU, rfl, hU, hb⟩
          have hU := hU.mono hB.size
          have hX := hX.past hb
          have h5 := h5.past hb
          have h6 := h6.past hb
          obtain ⟨qf0, qf1, lf⟩ := bq2 hb lf qf0 qf1
          have hB := below_later hB hb
          clear hb
          rw [natAbs_sg] at hU
          rw [HEB.out]
          go_wp2_with fail
          obtain ⟨w35, hW, hz0, hb, q, f⟩ := box1g w34 (w34.heap.size) (by omega) #[.bool Z, .slice aU nU cU, .slice (some ⟨w31.heap.size + 1, 0, none⟩) 1 1] 27
          rw [hW]
          clear hW
          have hX := hX.past hb
          have h5 := h5.past hb
          have h6 := h6.past hb
          have hU := hU.past hb
          obtain ⟨qf0, qf1, lf⟩ := bq2 hb lf qf0 qf1
          have hB := below_later hB hb
          clear hb
          have lx : w34.heap.size < w35.heap.size := by omega
          have qx0 := q 0; have qx1 := q 1; have qx2 := q 2
          simp only [lgA, lgZ, lgS] at qx0 qx1 qx2
          clear q f
          clear hz0
          refine (HTX.out _ _ _ _ hU.toNatAt h6.toNatAt (by have := hU.len; have := LN5.out; omega)).mono ?_
          rintro e w36 ⟨rfl, hb⟩
          have hX := hX.past hb
          have h5 := h5.past hb
          have h6 := h6.past hb
          have hU := hU.past hb
          obtain ⟨qf0, qf1, lf⟩ := bq2 hb lf qf0 qf1
          obtain ⟨qx0, qx1, qx2, lx⟩ := bq3 hb lx qx0 qx1 qx2
          have hB := below_later hB hb
          clear hb
          go_wp2_with fail
          have q2a := hX.q0
          have q2b := hX.q1
          obtain ⟨u0, u1, u2, r0, r1, r2, p0, p1, p2, m0, m1, m2⟩ := hX.x2.three
          obtain ⟨u3, u4, r3, r4, p3, p4, m3, m4⟩ := hX.x3.two
          go_region
          obtain ⟨wY, hWY, hbY, y0, y1, y2, y3, y4, _⟩ := hX.put false none 0 0 none 0 0 6 0
          rw [hWY]
          clear hWY
          go_wp2_with fail
          refine bodyPost_ret (v := .tuple #[.agg #[.bool false, .slice none 0 0, .slice none 0 0], .agg #[.int .i64 6, .int .i64 0]]) (by simp [results, Tryz.results10, go_sem, y0, y1, y2, y3, y4]) rfl ?_
          have hl : s.data.toList.length ≤ 10000 := by rw [size_list]; exact HS.out
          obtain ⟨e1, e2, e3⟩ := told_bad hl (HRP.out) (by rw [partsOk_chk HZN.out]; have := HC.out; simp [this])
          rw [e1, e2, e3]
          exact ⟨none, 0, 0, none, 0, 0, rfl, OwnAt.nil _ _, OwnAt.nil _ _, hbY.drew⟩
      · have tE : ((E : Int) != 0) = true := bne_iff_ne.2 (by omega)
        have HNO := Lib.hid hE
        clear hE
        go_wp2_with fail
        refine (HGU.out _).mono ?_
        rintro e w31 ⟨a5, n5, c5, rfl, h5, hb⟩
        have h5 := h5.mono hB.size
        have hX := hX.past hb
        have hB := below_later hB hb
        clear hb
        have szc := hB.size
        go_wp2_with fail
        obtain ⟨w32, hW, hz0, hb, q, f⟩ := box1g w31 (w31.heap.size) (by omega) #[.int .i64 (E : Int), .int .i64 (A : Int)] 35
        rw [hW]
        clear hW
        have hX := hX.past hb
        have h5 := h5.past hb
        have hB := below_later hB hb
        clear hb
        have lf : w31.heap.size < w32.heap.size := by omega
        have qf0 := q 0; have qf1 := q 1
        simp only [lgA, lgZ, lgS] at qf0 qf1
        clear q f
        obtain ⟨w33, hW, hz1, hb, q, f⟩ := box1g w32 (w31.heap.size + 1) (by omega) #[.int .u64 1] 42
        have h0one : OwnAt w33 w32.heap.size (some ⟨w31.heap.size + 1, 0, none⟩) 1 1 [1] := by rw [← hW]; exact litG _ _ _ [1] 1 (by omega) rfl rfl (by decide) (by first | decide | (simp; omega))
        rw [hW]
        clear hW
        have hX := hX.past hb
        have h5 := h5.past hb
        obtain ⟨qf0, qf1, lf⟩ := bq2 hb lf qf0 qf1
        have hB := below_later hB hb
        clear hb
        have one := h0one
        clear h0one
        have one := one.mono (B' := w.heap.size) (by omega)
        clear q f
        clear hz0
        clear hz1
        have q2a := hX.q0
        have q2b := hX.q1
        obtain ⟨u0, u1, u2, r0, r1, r2, p0, p1, p2, m0, m1, m2⟩ := hX.x2.three
        obtain ⟨u3, u4, r3, r4, p3, p4, m3, m4⟩ := hX.x3.two
        go_region
        obtain ⟨wY, hWY, hbY, y0, y1, y2, y3, y4, _⟩ := hX.put false none 0 0 none 0 0 6 0
        rw [hWY]
        clear hWY
        go_wp2_with fail
        refine bodyPost_ret (v := .tuple #[.agg #[.bool false, .slice none 0 0, .slice none 0 0], .agg #[.int .i64 6, .int .i64 0]]) (by simp [results, Tryz.results10, go_sem, y0, y1, y2, y3, y4]) rfl ?_
        have hl : s.data.toList.length ≤ 10000 := by rw [size_list]; exact HS.out
        obtain ⟨e1, e2, e3⟩ := told_none hl (by rw [HRQ.out]; cases hq : okL U.data.toList with | false => rfl | true => exact absurd (HOKU.out.2 hq) HNO.out)
        rw [e1, e2, e3]
        exact ⟨none, 0, 0, none, 0, 0, rfl, OwnAt.nil _ _, OwnAt.nil _ _, hbY.drew⟩
theorem rread_any (s : ByteArray) (w : World) (hs : s.size ≤ 9223372036854775807) :
 Calls Tryz.prog 10 #[.string s] w (RetRead w (readR s.data.toList) (readE s.data.toList) (readA s.data.toList)) := by
 by_cases h : 10000 < s.size
 · have hl : 10000 < s.data.toList.length := by rw [size_list]; exact h
   have e1 : readR s.data.toList = (false, 0, 0) := by unfold readR; rw [if_neg (by omega)]
   have e2 : readE s.data.toList = 4 := if_pos hl
   have e3 : readA s.data.toList = 10000 := if_pos hl
   rw [e1, e2, e3]
   exact rread_long s w h hs
 · by_cases h0 : s.size = 0
   · exact rread_empty s w (by omega) h0
   · by_cases h1 : L8 s.data.toList 0 = 45
     · exact rread_minus s w (by omega) (by omega) h1
     · exact rread_plain s w (by omega) (by omega) h1
end Go.Proofs.YtoecndogaklngaaGreatDoor
