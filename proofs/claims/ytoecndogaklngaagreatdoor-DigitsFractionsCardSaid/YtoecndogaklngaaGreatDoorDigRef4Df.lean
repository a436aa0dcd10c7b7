import Derived.Test.YtoecndogaklngaaGreatDoorS0Df
import Derived.Test.YtoecndogaklngaaGreatDoorDigRef3Df
import Derived.Test.YtoecndogaklngaaGreatDoorDigits6Df
import Derived.Test.YtoecndogaklngaaGreatDoorDigits9Df
import Derived.Test.YtoecndogaklngaaGreatDoorRefs7Df
import Derived.Test.YtoecndogaklngaaGreatDoorRefs1Df
set_option linter.unusedVariables false
set_option linter.unusedSimpArgs false
namespace Go.Proofs.YtoecndogaklngaaGreatDoor
open Go.RowKit Go.Shelf
attribute [local go_sem] Oper.semAt_some
set_option maxRecDepth 100000 in
set_option maxHeartbeats 4000000 in
theorem rdig6_yes (X : Nat) (w : World) (h1 : 48 ≤ X) (h2 : X ≤ 57) : Calls Tryz.prog 56 #[.int .u8 (X : Int)] w (RetVal w (.bool true)) := by
 have t1 : (48 : Int) ≤ (X : Int) := by omega
 have t2 : (X : Int) ≤ 57 := by omega
 go_enter Tryz.func56, Tryz.ntmps56
 go_wp2
 go_ret
 exact ⟨rfl, Below.refl _ _⟩
set_option maxRecDepth 100000 in
set_option maxHeartbeats 4000000 in
theorem rdig6_no (X : Nat) (w : World) (h : ¬ (48 ≤ X ∧ X ≤ 57)) : Calls Tryz.prog 56 #[.int .u8 (X : Int)] w (RetVal w (.bool false)) := by
 by_cases h1 : 48 ≤ X
 · have t1 : (48 : Int) ≤ (X : Int) := by omega
   have t2 : ¬ (X : Int) ≤ 57 := by omega
   have t3 : decide ((X : Int) ≤ 57) = false := decide_eq_false t2
   go_enter Tryz.func56, Tryz.ntmps56
   go_wp2
   go_ret
   exact ⟨rfl, Below.refl _ _⟩
 · have t1 : ¬ (48 : Int) ≤ (X : Int) := by omega
   have t3 : decide ((48 : Int) ≤ (X : Int)) = false := decide_eq_false t1
   go_enter Tryz.func56, Tryz.ntmps56
   go_wp2
   go_ret
   exact ⟨rfl, Below.refl _ _⟩
theorem str_index (s : ByteArray) (i : Nat) (h : i < s.size) (W : World) : (Instr.index 9 (.string s) (.int .i64 (i : Int))).run Tryz.prog W = .ok (.int .u8 ((L8 s.data.toList i : Nat) : Int)) W := by
 rw [run_index_string W 9 s .i64 (i : Int) Tryz.underlying9]
 rw [dif_pos ⟨by omega, by omega⟩, ← get_L8 s i h]
 rfl
theorem take_small {l : List UInt8} {j : Nat} (hj : j ≤ l.length) (hl : l.length ≤ 10000) (h : ∀ i, i < j → badAt l i = false) : (digs (valL 10 (dvals (l.take j)))).length ≤ 10000 := by
 refine val10_len ?_ (by unfold dvals; rw [List.length_map, List.length_take]; omega)
 intro d hd
 unfold dvals at hd
 obtain ⟨c, hc, rfl⟩ := List.mem_map.1 hd
 obtain ⟨i, hi, rfl⟩ := List.getElem_of_mem hc
 rw [List.length_take] at hi
 have := h i (by omega)
 unfold badAt L8 at this
 simp only [Bool.or_eq_false_iff, decide_eq_false_iff_not] at this
 have e : l.getD i 0 = l[i]'(by omega) := by rw [List.getD_eq_getElem?_getD, List.getElem?_eq_getElem (by omega)]; rfl
 rw [e] at this
 rw [List.getElem_take]
 omega
theorem grow_len {v n K : Nat} (h : (digs v).length = n) (hn : n ≤ K) : (digs (v * 10)).length ≤ K + 1 := by
 refine digs_length_le.2 ?_
 have h5 := val_lt (dig_digs v)
 rw [val_digs, h] at h5
 have h6 := Nat.pow_le_pow_right (n := 18446744073709551616) (by decide) hn
 rw [Nat.pow_succ]
 omega
theorem getAll {l : List UInt8} (hl : l.length ≤ 10000) (hne : l ≠ []) (h : ∀ i, i < l.length → badAt l i = false) : getN l = valL 10 (dvals l) ∧ getE l = 0 ∧ getA l = 0 := by
 have h1 := formL_all h
 have h2 : fineL l = true := by unfold fineL; rw [h1]; simp [hne]
 have h3 : okL l = true := by unfold okL; rw [h2]; simp [hl]
 refine ⟨by unfold getN; rw [if_pos h3], (getE_ok l).2 h3, ?_⟩
 unfold getA
 rw [if_neg (by omega), h2]
 rfl
theorem getBad {l : List UInt8} {k : Nat} (hl : l.length ≤ 10000) (hk : k < l.length) (h : ∀ i, i < k → badAt l i = false) (hb : badAt l k = true) : getN l = 0 ∧ getE l = 6 ∧ getA l = k := by
 have h1 := formL_stop h hk hb
 have h2 : fineL l = false := by
  unfold fineL
  rw [h1]
  have : decide (k = l.length) = false := decide_eq_false (by omega)
  rw [this]
  rfl
 have h3 : okL l = false := by unfold okL; rw [h2]; simp
 refine ⟨by unfold getN; rw [h3]; rfl, ?_, ?_⟩
 · unfold getE; rw [if_neg (by omega), h2]; rfl
 · unfold getA; rw [if_neg (by omega), h2, h1]; rfl
set_option maxRecDepth 100000 in
set_option maxHeartbeats 4000000 in
theorem rget_long (s : ByteArray) (w : World) (h : 10000 < s.size) (hs : s.size ≤ 9223372036854775807) :
 Calls Tryz.prog 26 #[.string s] w (RetGet w 0 4 10000) := by
 go_enter Tryz.func26, Tryz.ntmps26
 go_wp2
 refine bodyPost_ret (v := .tuple #[.slice none 0 0, .agg #[.int .i64 4, .int .i64 10000]]) (by simp [results, Tryz.results26, go_sem]) rfl ⟨none, 0, 0, rfl, OwnAt.nil _ _, ?_⟩
 exact (Below.refl _ _).alloc (Nat.le_refl _) _
set_option maxRecDepth 100000 in
set_option maxHeartbeats 4000000 in
theorem rget_short (s : ByteArray) (w : World) (h : s.size ≤ 10000) :
 Calls Tryz.prog 26 #[.string s] w (RetGet w (getN s.data.toList) (getE s.data.toList) (getA s.data.toList)) := by
 have hsl := size_list s
 have HSL := Lib.hid hsl
 clear hsl
 have tS : decide ((10000 : Int) < (s.size : Int)) = false := decide_eq_false (by omega)
 go_enter Tryz.func26, Tryz.ntmps26
 go_wp2_with fail
 obtain ⟨wA, hWA, zA, hbA, qA, fA⟩ := box1g w w.heap.size rfl #[.int .i64 0, .int .i64 0] 35
 rw [hWA]
 have b2 : BoxAt wA w.heap.size 2 := BoxAt.of qA fA rfl (by simp [notU_i64])
 clear qA fA hWA
 go_loopw [4, 5] (fun s4 s5 wr => ∃ (j : Nat) (a : Option Addr) (n c : Nat), j ≤ s.size ∧ s5 = .int .i64 (j : Int) ∧ s4 = .slice a n c ∧ Hid (∀ i, i < j → badAt s.data.toList i = false) ∧ OwnAt wr (w.heap.size + 1) a n c (digs (valL 10 (dvals (s.data.toList.take j)))) ∧ BoxAt wr w.heap.size 2 ∧ Below w.heap.size w wr ∧ w.heap.size < wr.heap.size) (fun _ s5 _ => s.size - (intOf s5).toNat)
 case atStart => exact ⟨0, none, 0, 0, Nat.zero_le _, rfl, rfl, Lib.hid (fun i hi => absurd hi (by omega)), by show OwnAt wA _ _ _ _ (digs 0); rw [digs_zero]; exact OwnAt.nil _ _, b2, hbA, by omega⟩
 case round =>
  clear b2 hbA zA
  obtain ⟨j, a, n, c, hj, rfl, rfl, hfine, h4, hX, hB, hlt0⟩ := hrel
  have hn : n ≤ 10000 := by rw [← h4.len]; exact take_small (by rw [HSL.out]; exact hj) (by rw [HSL.out]; exact h) hfine.out
  by_cases hlt : j < s.size
  · have hij := fun W => str_index s j hlt W
    have hi0 := fun W => str_index s 0 (by omega) W
    have hstep := dvals_take s.data.toList j (by rw [HSL.out]; exact hlt)
    obtain ⟨X, hXe⟩ : ∃ X, L8 s.data.toList j = X := ⟨_, rfl⟩
    obtain ⟨Y, hYe⟩ : ∃ Y, L8 s.data.toList 0 = Y := ⟨_, rfl⟩
    obtain ⟨v, hv⟩ : ∃ v, valL 10 (dvals (s.data.toList.take j)) = v := ⟨_, rfl⟩
    rw [hXe, hv] at hstep
    rw [hv] at h4
    simp only [hXe] at hij
    simp only [hYe] at hi0
    have hi0 : ∀ W, (Instr.index 9 (.string s) (.int .i64 0)).run Tryz.prog W = .ok (.int .u8 (Y : Int)) W := hi0
    have HXE := Lib.hid hXe
    have HYE := Lib.hid hYe
    have HST := Lib.hid hstep
    have HJ := Lib.hid hlt
    clear hXe hYe hv hstep
    by_cases hD : 48 ≤ X ∧ X ≤ 57
    · have hdg := fun w => rdig6_yes X w hD.1 hD.2
      have HDG := Lib.hid hdg
      have HD := Lib.hid hD
      clear hdg hD
      by_cases h1 : j = 1
      · subst h1
        by_cases hY : Y = 48
        · have HBAD : Hid (badAt s.data.toList 1 = true) := Lib.hid (by unfold badAt; rw [HXE.out, HYE.out, hY]; simp)
          subst hY
          have hij : ∀ W, (Instr.index 9 (.string s) (.int .i64 1)).run Tryz.prog W = .ok (.int .u8 (X : Int)) W := hij
          obtain ⟨e1, e2, e3⟩ := getBad (l := s.data.toList) (k := 1) (by rw [HSL.out]; exact h) (by rw [HSL.out]; exact HJ.out) hfine.out HBAD.out
          rw [e1, e2, e3]
          clear e1 e2 e3
          go_wp2_with fail
          refine (HDG.out _).mono ?_
          rintro e w2 ⟨rfl, hb⟩
          have hX := hX.past hb hlt0
          have hB := below_later hB hb
          have hXb := hX
          obtain ⟨u3, u4, r3, r4, p3, p4, m3, m4⟩ := hX.two
          go_wp2_with fail
          obtain ⟨wY, hWY, hO, y0, y1, _⟩ := store2 hXb (.int .i64 6) (.int .i64 1) (nu rfl) (nu rfl)
          rw [hWY]
          refine bodyPost_ret (v := .tuple #[.slice none 0 0, .agg #[.int .i64 6, .int .i64 1]]) (by simp [results, Tryz.results26, go_sem, y0, y1]) rfl ⟨none, 0, 0, rfl, OwnAt.nil _ _, hO.below (Nat.le_refl _) hB⟩
        · have HFI : Hid (badAt s.data.toList 1 = false) := Lib.hid (by unfold badAt; rw [HXE.out, HYE.out]; have := HD.out; simp; omega)
          have tY : ((Y : Int) == 48) = false := beq_eq_false_iff_ne.2 (by omega)
          have hij : ∀ W, (Instr.index 9 (.string s) (.int .i64 1)).run Tryz.prog W = .ok (.int .u8 (X : Int)) W := hij
          obtain ⟨d, rfl⟩ : ∃ d, X = 48 + d := ⟨X - 48, by have := HD.out; omega⟩
          have hd10 : d < 10 := by have := HD.out; omega
          have hcs : (((48 + d : Nat)) : Int) = 48 + (d : Int) := by omega
          simp only [hcs] at hij
          have HDG2 : Hid (∀ w, Calls Tryz.prog 56 #[.int .u8 (48 + (d : Int))] w (RetVal w (.bool true))) := Lib.hid (fun w => by have := HDG.out w; rwa [hcs] at this)
          have hw1 : IntKind.u8.wrap (48 + (d : Int) - 48) = (d : Int) := by rw [IntKind.wrap_u8]; omega
          have hw2 : IntKind.u8.wrap (d : Int) = (d : Int) := by rw [IntKind.wrap_u8]; omega
          have hw3 : IntKind.u64.wrap (d : Int) = (d : Int) := by rw [IntKind.wrap_u64]; omega
          have HW1 := Lib.hid hw1
          have HW2 := Lib.hid hw2
          have HW3 := Lib.hid hw3
          have hgr : ∀ (w : World) (a : Option Addr) (n c : Nat), NatAt w a n c (digs v) → n ≤ 274877906944 → Calls Tryz.prog 58 #[.slice a n c, .int .u64 10] w (RetNat w (v * 10)) := by
           intro w a n c h hs
           have := rgrow_any a n c (digs v) 10 w h hs (by decide)
           rwa [val_digs] at this
          have hof := fun w => rof_any d w (by omega)
          have had := fun w a n c a2 n2 c2 (h : NatAt w a n c (digs (v * 10))) (h2 : NatAt w a2 n2 c2 (digs d)) (hs : n ≤ 549755813888) (hs2 : n2 ≤ 549755813888) => radd_any a n c (digs (v * 10)) a2 n2 c2 (digs d) w h h2 hs hs2
          simp only [val_digs] at had
          have ln4 := h4.len
          have lgr : (digs (v * 10)).length ≤ 10001 := grow_len ln4 hn
          have lof : (digs d).length ≤ 1 := digs_length_le.2 (by omega)
          have HGR := Lib.hid hgr
          have HOF := Lib.hid hof
          have HAD := Lib.hid had
          have LGR := Lib.hid lgr
          have LOF := Lib.hid lof
          have HIJ := Lib.hid hij
          clear hw1 hw2 hw3 hgr hof had lgr lof ln4 hcs
          go_wp2_with fail
          refine (HDG2.out _).mono ?_
          rintro e w2 ⟨rfl, hb⟩
          have hX := hX.past hb hlt0
          have hB := below_later hB hb
          have h4 := h4.past hb
          have hlt0 := Nat.lt_of_lt_of_le hlt0 hb.size
          have hR := Below.refl w2.heap.size w2
          clear hb
          go_wp2_with fail
          refine wp_region_inv (by kernel_rfl) rfl (by kernel_rfl) (fun A0 V0 dd aa ww => ∃ (y32 y33 y34 y35 y36 y37 y38 y39 y40 y4 : Value), aa = puts A0 [(32, y32), (33, y33), (34, y34), (35, y35), (36, y36), (37, y37), (38, y38), (39, y39), (40, y40), (4, y4)] ∧ Below V0.heap.size V0 ww ∧ Shut (dd 0 = true → y32 = .slice a n c) ∧ Shut (dd 1 = true → NatV V0.heap.size (digs (v * 10)) y33 ww) ∧ Shut (dd 2 = true → y34 = .string s) ∧ Shut (dd 3 = true → y35 = .int .i64 1) ∧ Shut (dd 4 = true → y36 = .int .u8 (48 + (d : Int))) ∧ Shut (dd 5 = true → y37 = .int .u8 (d : Int)) ∧ Shut (dd 6 = true → y38 = .int .u64 (d : Int)) ∧ Shut (dd 7 = true → NatV V0.heap.size (digs d) y39 ww) ∧ Shut (dd 8 = true → NatV V0.heap.size (digs (v * 10 + d)) y40 ww) ∧ Shut (dd 9 = true → y4 = y40) ∧ Shut (dd 9 = false → y4 = .slice a n c) ∧ True) ?_ ?_ ?_
          · exact ⟨_, _, _, _, _, _, _, _, _, _, puts_self _ [32, 33, 34, 35, 36, 37, 38, 39, 40, 4], (Below.refl _ _).drew, fun h => (by cases h), fun h => (by cases h), fun h => (by cases h), fun h => (by cases h), fun h => (by cases h), fun h => (by cases h), fun h => (by cases h), fun h => (by cases h), fun h => (by cases h), fun h => (by cases h), fun _ => rfl, trivial⟩
          · refine Steps.cons ?_ (Steps.cons ?_ (Steps.cons ?_ (Steps.cons ?_ (Steps.cons ?_ (Steps.cons ?_ (Steps.cons ?_ (Steps.cons ?_ (Steps.cons ?_ (Steps.cons ?_ (Steps.nil))))))))))
            · intro dd aa ww K hc hun hn hI hK
              obtain ⟨y32, y33, y34, y35, y36, y37, y38, y39, y40, y4, ea, hb, f0, f1, f2, f3, f4, f5, f6, f7, f8, f9, o4, _⟩ := hI
              try simp [Region.binds] at hn
              have h9 : dd 9 = false := by
               cases hq : dd 9 with
               | false => rfl
               | true => exact absurd (hc.reach (f := 8) (s := 9) (l := 0) (by kernel_rfl) hq) (by rw [hun]; decide)
              have eo := o4.out h9
              subst eo
              subst ea
              simp only [puts, Act.put, lsA, lsZ, lsS]
              go_simp
              refine hK.out _ _ ?_
              exact ⟨.slice a n c, y33, y34, y35, y36, y37, y38, y39, y40, .slice a n c, by simp only [puts, Act.put, lsA, lsZ, lsS], hb, fun _ => rfl, uo f1 rfl, uo f2 rfl, uo f3 rfl, uo f4 rfl, uo f5 rfl, uo f6 rfl, uo f7 rfl, uo f8 rfl, uo f9 rfl, fun _ => rfl, trivial⟩
            · intro dd aa ww K hc hun hn hI hK
              obtain ⟨y32, y33, y34, y35, y36, y37, y38, y39, y40, y4, ea, hb, f0, f1, f2, f3, f4, f5, f6, f7, f8, f9, o4, _⟩ := hI
              try simp [Region.binds] at hn
              have ex := f0.out (by first | (simp [hn]; done) | exact rc hc hn | exact rc hc hn.1 | exact rc hc hn.2 | exact rc hc hn.2.1 | exact rc hc hn.2.2 | exact rc hc hn.2.2.1 | exact rc hc hn.2.2.2)
              subst ex
              subst ea
              simp only [puts, Act.put, lsA, lsZ, lsS]
              go_simp
              with_reducible refine (HGR.out _ _ _ _ (h4.past hb).toNatAt (by omega)).mono ?_
              rintro e w1 ⟨ahG, nhG, chG, rfl, hG, h1⟩
              refine hK.out _ _ ?_
              exact ⟨.slice a n c, .slice ahG nhG chG, y34, y35, y36, y37, y38, y39, y40, y4, by simp only [puts, Act.put, lsA, lsZ, lsS], below_later hb h1, fun h => rfl, fun _ => ⟨_, _, _, rfl, hG.mono hb.size⟩, uo f2 rfl, uo f3 rfl, uo f4 rfl, uo f5 rfl, uo f6 rfl, fun h => (f7.out (upd_of rfl h)).past h1, fun h => (f8.out (upd_of rfl h)).past h1, uo f9 rfl, fun h => o4.out (upd_off h), trivial⟩
            · intro dd aa ww K hc hun hn hI hK
              obtain ⟨y32, y33, y34, y35, y36, y37, y38, y39, y40, y4, ea, hb, f0, f1, f2, f3, f4, f5, f6, f7, f8, f9, o4, _⟩ := hI
              try simp [Region.binds] at hn
              subst ea
              simp only [puts, Act.put, lsA, lsZ, lsS]
              go_simp
              refine hK.out _ _ ?_
              exact ⟨y32, y33, .string s, y35, y36, y37, y38, y39, y40, y4, by simp only [puts, Act.put, lsA, lsZ, lsS], hb, uo f0 rfl, uo f1 rfl, fun _ => rfl, uo f3 rfl, uo f4 rfl, uo f5 rfl, uo f6 rfl, uo f7 rfl, uo f8 rfl, uo f9 rfl, fun h => o4.out (upd_off h), trivial⟩
            · intro dd aa ww K hc hun hn hI hK
              obtain ⟨y32, y33, y34, y35, y36, y37, y38, y39, y40, y4, ea, hb, f0, f1, f2, f3, f4, f5, f6, f7, f8, f9, o4, _⟩ := hI
              try simp [Region.binds] at hn
              subst ea
              simp only [puts, Act.put, lsA, lsZ, lsS]
              go_simp
              refine hK.out _ _ ?_
              exact ⟨y32, y33, y34, .int .i64 1, y36, y37, y38, y39, y40, y4, by simp only [puts, Act.put, lsA, lsZ, lsS], hb, uo f0 rfl, uo f1 rfl, uo f2 rfl, fun _ => rfl, uo f4 rfl, uo f5 rfl, uo f6 rfl, uo f7 rfl, uo f8 rfl, uo f9 rfl, fun h => o4.out (upd_off h), trivial⟩
            · intro dd aa ww K hc hun hn hI hK
              obtain ⟨y32, y33, y34, y35, y36, y37, y38, y39, y40, y4, ea, hb, f0, f1, f2, f3, f4, f5, f6, f7, f8, f9, o4, _⟩ := hI
              try simp [Region.binds] at hn
              have ex := f2.out (by first | (simp [hn]; done) | exact rc hc hn | exact rc hc hn.1 | exact rc hc hn.2 | exact rc hc hn.2.1 | exact rc hc hn.2.2 | exact rc hc hn.2.2.1 | exact rc hc hn.2.2.2)
              subst ex
              have ex := f3.out (by first | (simp [hn]; done) | exact rc hc hn | exact rc hc hn.1 | exact rc hc hn.2 | exact rc hc hn.2.1 | exact rc hc hn.2.2 | exact rc hc hn.2.2.1 | exact rc hc hn.2.2.2)
              subst ex
              have hij := HIJ.out
              subst ea
              simp only [puts, Act.put, lsA, lsZ, lsS]
              go_simp
              refine hK.out _ _ ?_
              exact ⟨y32, y33, .string s, .int .i64 1, .int .u8 (48 + (d : Int)), y37, y38, y39, y40, y4, by simp only [puts, Act.put, lsA, lsZ, lsS], hb, uo f0 rfl, uo f1 rfl, fun h => rfl, fun h => rfl, fun _ => rfl, uo f5 rfl, uo f6 rfl, uo f7 rfl, uo f8 rfl, uo f9 rfl, fun h => o4.out (upd_off h), trivial⟩
            · intro dd aa ww K hc hun hn hI hK
              obtain ⟨y32, y33, y34, y35, y36, y37, y38, y39, y40, y4, ea, hb, f0, f1, f2, f3, f4, f5, f6, f7, f8, f9, o4, _⟩ := hI
              try simp [Region.binds] at hn
              have ex := f4.out (by first | (simp [hn]; done) | exact rc hc hn | exact rc hc hn.1 | exact rc hc hn.2 | exact rc hc hn.2.1 | exact rc hc hn.2.2 | exact rc hc hn.2.2.1 | exact rc hc hn.2.2.2)
              subst ex
              subst ea
              simp only [puts, Act.put, lsA, lsZ, lsS]
              go_simp
              try rw [HW1.out]
              try rw [HW2.out]
              refine hK.out _ _ ?_
              exact ⟨y32, y33, y34, y35, .int .u8 (48 + (d : Int)), .int .u8 (d : Int), y38, y39, y40, y4, by simp only [puts, Act.put, lsA, lsZ, lsS], hb, uo f0 rfl, uo f1 rfl, uo f2 rfl, uo f3 rfl, fun h => rfl, fun _ => rfl, uo f6 rfl, uo f7 rfl, uo f8 rfl, uo f9 rfl, fun h => o4.out (upd_off h), trivial⟩
            · intro dd aa ww K hc hun hn hI hK
              obtain ⟨y32, y33, y34, y35, y36, y37, y38, y39, y40, y4, ea, hb, f0, f1, f2, f3, f4, f5, f6, f7, f8, f9, o4, _⟩ := hI
              try simp [Region.binds] at hn
              have ex := f5.out (by first | (simp [hn]; done) | exact rc hc hn | exact rc hc hn.1 | exact rc hc hn.2 | exact rc hc hn.2.1 | exact rc hc hn.2.2 | exact rc hc hn.2.2.1 | exact rc hc hn.2.2.2)
              subst ex
              subst ea
              simp only [puts, Act.put, lsA, lsZ, lsS]
              go_simp
              try rw [HW3.out]
              try rw [HW2.out]
              refine hK.out _ _ ?_
              exact ⟨y32, y33, y34, y35, y36, .int .u8 (d : Int), .int .u64 (d : Int), y39, y40, y4, by simp only [puts, Act.put, lsA, lsZ, lsS], hb, uo f0 rfl, uo f1 rfl, uo f2 rfl, uo f3 rfl, uo f4 rfl, fun h => rfl, fun _ => rfl, uo f7 rfl, uo f8 rfl, uo f9 rfl, fun h => o4.out (upd_off h), trivial⟩
            · intro dd aa ww K hc hun hn hI hK
              obtain ⟨y32, y33, y34, y35, y36, y37, y38, y39, y40, y4, ea, hb, f0, f1, f2, f3, f4, f5, f6, f7, f8, f9, o4, _⟩ := hI
              try simp [Region.binds] at hn
              have ex := f6.out (by first | (simp [hn]; done) | exact rc hc hn | exact rc hc hn.1 | exact rc hc hn.2 | exact rc hc hn.2.1 | exact rc hc hn.2.2 | exact rc hc hn.2.2.1 | exact rc hc hn.2.2.2)
              subst ex
              subst ea
              simp only [puts, Act.put, lsA, lsZ, lsS]
              go_simp
              with_reducible refine (HOF.out _).mono ?_
              rintro e w1 ⟨ahO, nhO, chO, rfl, hO, h1⟩
              refine hK.out _ _ ?_
              exact ⟨y32, y33, y34, y35, y36, y37, .int .u64 (d : Int), .slice ahO nhO chO, y40, y4, by simp only [puts, Act.put, lsA, lsZ, lsS], below_later hb h1, uo f0 rfl, fun h => (f1.out (upd_of rfl h)).past h1, uo f2 rfl, uo f3 rfl, uo f4 rfl, uo f5 rfl, fun h => rfl, fun _ => ⟨_, _, _, rfl, hO.mono hb.size⟩, fun h => (f8.out (upd_of rfl h)).past h1, uo f9 rfl, fun h => o4.out (upd_off h), trivial⟩
            · intro dd aa ww K hc hun hn hI hK
              obtain ⟨y32, y33, y34, y35, y36, y37, y38, y39, y40, y4, ea, hb, f0, f1, f2, f3, f4, f5, f6, f7, f8, f9, o4, _⟩ := hI
              try simp [Region.binds] at hn
              obtain ⟨ahG, nhG, chG, ex, hG⟩ := f1.out (by first | (simp [hn]; done) | exact rc hc hn | exact rc hc hn.1 | exact rc hc hn.2 | exact rc hc hn.2.1 | exact rc hc hn.2.2 | exact rc hc hn.2.2.1 | exact rc hc hn.2.2.2)
              subst ex
              obtain ⟨ahO, nhO, chO, ex, hO⟩ := f7.out (by first | (simp [hn]; done) | exact rc hc hn | exact rc hc hn.1 | exact rc hc hn.2 | exact rc hc hn.2.1 | exact rc hc hn.2.2 | exact rc hc hn.2.2.1 | exact rc hc hn.2.2.2)
              subst ex
              subst ea
              simp only [puts, Act.put, lsA, lsZ, lsS]
              go_simp
              with_reducible refine (HAD.out _ _ _ _ _ _ _ hG.toNatAt hO.toNatAt (by have := hG.len; have := LGR.out; omega) (by have := hO.len; have := LOF.out; omega)).mono ?_
              rintro e w1 ⟨ahA, nhA, chA, rfl, hA, h1⟩
              refine hK.out _ _ ?_
              exact ⟨y32, .slice ahG nhG chG, y34, y35, y36, y37, y38, .slice ahO nhO chO, .slice ahA nhA chA, y4, by simp only [puts, Act.put, lsA, lsZ, lsS], below_later hb h1, uo f0 rfl, fun h => (f1.out (upd_of rfl h)).past h1, uo f2 rfl, uo f3 rfl, uo f4 rfl, uo f5 rfl, uo f6 rfl, fun h => (f7.out (upd_of rfl h)).past h1, fun _ => ⟨_, _, _, rfl, hA.mono hb.size⟩, fun h => absurd (hc.reach (f := 8) (s := 9) (l := 8) (by kernel_rfl) (upd_of rfl h)) (by rw [hun]; decide), fun h => o4.out (upd_off h), trivial⟩
            · intro dd aa ww K hc hun hn hI hK
              obtain ⟨y32, y33, y34, y35, y36, y37, y38, y39, y40, y4, ea, hb, f0, f1, f2, f3, f4, f5, f6, f7, f8, f9, o4, _⟩ := hI
              try simp [Region.binds] at hn
              obtain ⟨ahA, nhA, chA, ex, hA⟩ := f8.out (by first | (simp [hn]; done) | exact rc hc hn | exact rc hc hn.1 | exact rc hc hn.2 | exact rc hc hn.2.1 | exact rc hc hn.2.2 | exact rc hc hn.2.2.1 | exact rc hc hn.2.2.2)
              subst ex
              subst ea
              simp only [puts, Act.put, lsA, lsZ, lsS]
              go_simp
              refine hK.out _ _ ?_
              exact ⟨y32, y33, y34, y35, y36, y37, y38, y39, .slice ahA nhA chA, .slice ahA nhA chA, by simp only [puts, Act.put, lsA, lsZ, lsS], hb, uo f0 rfl, uo f1 rfl, uo f2 rfl, uo f3 rfl, uo f4 rfl, uo f5 rfl, uo f6 rfl, uo f7 rfl, uo f8 rfl, fun _ => rfl, fun h => absurd h (by simp [upd]), trivial⟩
          intro dd aa w21 hd hI
          obtain ⟨y32, y33, y34, y35, y36, y37, y38, y39, y40, y4, ea, hb, f0, f1, f2, f3, f4, f5, f6, f7, f8, f9, o4, _⟩ := hI
          have ex := f0.out (hd 0 (by simp))
          subst ex
          obtain ⟨ahG, nhG, chG, ex, hG⟩ := f1.out (hd 1 (by simp))
          subst ex
          have ex := f2.out (hd 2 (by simp))
          subst ex
          have ex := f3.out (hd 3 (by simp))
          subst ex
          have ex := f4.out (hd 4 (by simp))
          subst ex
          have ex := f5.out (hd 5 (by simp))
          subst ex
          have ex := f6.out (hd 6 (by simp))
          subst ex
          obtain ⟨ahO, nhO, chO, ex, hO⟩ := f7.out (hd 7 (by simp))
          subst ex
          obtain ⟨ahA, nhA, chA, ex, hA⟩ := f8.out (hd 8 (by simp))
          subst ex
          have ex : y4 = .slice ahA nhA chA := f9.out (hd 9 (by simp))
          subst ex
          subst ea
          simp only [puts, Act.put, lsA, lsZ, lsS]
          have h4 := h4.past hb
          have hB := below_later hB hb
          have hR := below_later hR hb
          clear hb hd
          have hX := hX.past hR hlt0
          have hA2 : OwnAt w21 (w.heap.size + 1) ahA nhA chA (digs (valL 10 (dvals (s.data.toList.take (1 + 1))))) := by
           rw [HST.out, show 48 + d - 48 = d by omega]
           exact hA.mono (by omega)
          have hfin : Hid (∀ i, i < 1 + 1 → badAt s.data.toList i = false) := Lib.hid (by
           intro i hi
           by_cases e : i = 1
           · rw [e]; exact HFI.out
           · exact hfine.out i (by omega))
          have hlt0 := Nat.lt_of_lt_of_le hlt0 hR.size
          clear hO hG h4 hA
          go_wp2_with fail
          go_roundw
          case measure => have := HJ.out; simp [intOf] <;> omega
          case rel => exact ⟨1 + 1, ahA, nhA, chA, by have := HJ.out; omega, by go_num, rfl, hfin, hA2, hX, hB, hlt0⟩
      · have HFI : Hid (badAt s.data.toList j = false) := Lib.hid (by unfold badAt; rw [HXE.out, HYE.out]; have := HD.out; simp; omega)
        have tJ : ((j : Int) == 1) = false := beq_eq_false_iff_ne.2 (by omega)
        obtain ⟨d, rfl⟩ : ∃ d, X = 48 + d := ⟨X - 48, by have := HD.out; omega⟩
        have hd10 : d < 10 := by have := HD.out; omega
        have hcs : (((48 + d : Nat)) : Int) = 48 + (d : Int) := by omega
        simp only [hcs] at hij
        have HDG2 : Hid (∀ w, Calls Tryz.prog 56 #[.int .u8 (48 + (d : Int))] w (RetVal w (.bool true))) := Lib.hid (fun w => by have := HDG.out w; rwa [hcs] at this)
        have hw1 : IntKind.u8.wrap (48 + (d : Int) - 48) = (d : Int) := by rw [IntKind.wrap_u8]; omega
        have hw2 : IntKind.u8.wrap (d : Int) = (d : Int) := by rw [IntKind.wrap_u8]; omega
        have hw3 : IntKind.u64.wrap (d : Int) = (d : Int) := by rw [IntKind.wrap_u64]; omega
        have HW1 := Lib.hid hw1
        have HW2 := Lib.hid hw2
        have HW3 := Lib.hid hw3
        have hgr : ∀ (w : World) (a : Option Addr) (n c : Nat), NatAt w a n c (digs v) → n ≤ 274877906944 → Calls Tryz.prog 58 #[.slice a n c, .int .u64 10] w (RetNat w (v * 10)) := by
         intro w a n c h hs
         have := rgrow_any a n c (digs v) 10 w h hs (by decide)
         rwa [val_digs] at this
        have hof := fun w => rof_any d w (by omega)
        have had := fun w a n c a2 n2 c2 (h : NatAt w a n c (digs (v * 10))) (h2 : NatAt w a2 n2 c2 (digs d)) (hs : n ≤ 549755813888) (hs2 : n2 ≤ 549755813888) => radd_any a n c (digs (v * 10)) a2 n2 c2 (digs d) w h h2 hs hs2
        simp only [val_digs] at had
        have ln4 := h4.len
        have lgr : (digs (v * 10)).length ≤ 10001 := grow_len ln4 hn
        have lof : (digs d).length ≤ 1 := digs_length_le.2 (by omega)
        have HGR := Lib.hid hgr
        have HOF := Lib.hid hof
        have HAD := Lib.hid had
        have LGR := Lib.hid lgr
        have LOF := Lib.hid lof
        have HIJ := Lib.hid hij
        clear hw1 hw2 hw3 hgr hof had lgr lof ln4 hcs
        go_wp2_with fail
        refine (HDG2.out _).mono ?_
        rintro e w2 ⟨rfl, hb⟩
        have hX := hX.past hb hlt0
        have hB := below_later hB hb
        have h4 := h4.past hb
        have hlt0 := Nat.lt_of_lt_of_le hlt0 hb.size
        have hR := Below.refl w2.heap.size w2
        clear hb
        go_wp2_with fail
        refine wp_region_inv (by kernel_rfl) rfl (by kernel_rfl) (fun A0 V0 dd aa ww => ∃ (y32 y33 y34 y35 y36 y37 y38 y39 y40 y4 : Value), aa = puts A0 [(32, y32), (33, y33), (34, y34), (35, y35), (36, y36), (37, y37), (38, y38), (39, y39), (40, y40), (4, y4)] ∧ Below V0.heap.size V0 ww ∧ Shut (dd 0 = true → y32 = .slice a n c) ∧ Shut (dd 1 = true → NatV V0.heap.size (digs (v * 10)) y33 ww) ∧ Shut (dd 2 = true → y34 = .string s) ∧ Shut (dd 3 = true → y35 = .int .i64 (j : Int)) ∧ Shut (dd 4 = true → y36 = .int .u8 (48 + (d : Int))) ∧ Shut (dd 5 = true → y37 = .int .u8 (d : Int)) ∧ Shut (dd 6 = true → y38 = .int .u64 (d : Int)) ∧ Shut (dd 7 = true → NatV V0.heap.size (digs d) y39 ww) ∧ Shut (dd 8 = true → NatV V0.heap.size (digs (v * 10 + d)) y40 ww) ∧ Shut (dd 9 = true → y4 = y40) ∧ Shut (dd 9 = false → y4 = .slice a n c) ∧ True) ?_ ?_ ?_
        · exact ⟨_, _, _, _, _, _, _, _, _, _, puts_self _ [32, 33, 34, 35, 36, 37, 38, 39, 40, 4], (Below.refl _ _).drew, fun h => (by cases h), fun h => (by cases h), fun h => (by cases h), fun h => (by cases h), fun h => (by cases h), fun h => (by cases h), fun h => (by cases h), fun h => (by cases h), fun h => (by cases h), fun h => (by cases h), fun _ => rfl, trivial⟩
        · refine Steps.cons ?_ (Steps.cons ?_ (Steps.cons ?_ (Steps.cons ?_ (Steps.cons ?_ (Steps.cons ?_ (Steps.cons ?_ (Steps.cons ?_ (Steps.cons ?_ (Steps.cons ?_ (Steps.nil))))))))))
          · intro dd aa ww K hc hun hn hI hK
            obtain ⟨y32, y33, y34, y35, y36, y37, y38, y39, y40, y4, ea, hb, f0, f1, f2, f3, f4, f5, f6, f7, f8, f9, o4, _⟩ := hI
            try simp [Region.binds] at hn
            have h9 : dd 9 = false := by
             cases hq : dd 9 with
             | false => rfl
             | true => exact absurd (hc.reach (f := 8) (s := 9) (l := 0) (by kernel_rfl) hq) (by rw [hun]; decide)
            have eo := o4.out h9
            subst eo
            subst ea
            simp only [puts, Act.put, lsA, lsZ, lsS]
            go_simp
            refine hK.out _ _ ?_
            exact ⟨.slice a n c, y33, y34, y35, y36, y37, y38, y39, y40, .slice a n c, by simp only [puts, Act.put, lsA, lsZ, lsS], hb, fun _ => rfl, uo f1 rfl, uo f2 rfl, uo f3 rfl, uo f4 rfl, uo f5 rfl, uo f6 rfl, uo f7 rfl, uo f8 rfl, uo f9 rfl, fun _ => rfl, trivial⟩
          · intro dd aa ww K hc hun hn hI hK
            obtain ⟨y32, y33, y34, y35, y36, y37, y38, y39, y40, y4, ea, hb, f0, f1, f2, f3, f4, f5, f6, f7, f8, f9, o4, _⟩ := hI
            try simp [Region.binds] at hn
            have ex := f0.out (by first | (simp [hn]; done) | exact rc hc hn | exact rc hc hn.1 | exact rc hc hn.2 | exact rc hc hn.2.1 | exact rc hc hn.2.2 | exact rc hc hn.2.2.1 | exact rc hc hn.2.2.2)
            subst ex
            subst ea
            simp only [puts, Act.put, lsA, lsZ, lsS]
            go_simp
            with_reducible refine (HGR.out _ _ _ _ (h4.past hb).toNatAt (by omega)).mono ?_
            rintro e w1 ⟨ahG, nhG, chG, rfl, hG, h1⟩
            refine hK.out _ _ ?_
            exact ⟨.slice a n c, .slice ahG nhG chG, y34, y35, y36, y37, y38, y39, y40, y4, by simp only [puts, Act.put, lsA, lsZ, lsS], below_later hb h1, fun h => rfl, fun _ => ⟨_, _, _, rfl, hG.mono hb.size⟩, uo f2 rfl, uo f3 rfl, uo f4 rfl, uo f5 rfl, uo f6 rfl, fun h => (f7.out (upd_of rfl h)).past h1, fun h => (f8.out (upd_of rfl h)).past h1, uo f9 rfl, fun h => o4.out (upd_off h), trivial⟩
          · intro dd aa ww K hc hun hn hI hK
            obtain ⟨y32, y33, y34, y35, y36, y37, y38, y39, y40, y4, ea, hb, f0, f1, f2, f3, f4, f5, f6, f7, f8, f9, o4, _⟩ := hI
            try simp [Region.binds] at hn
            subst ea
            simp only [puts, Act.put, lsA, lsZ, lsS]
            go_simp
            refine hK.out _ _ ?_
            exact ⟨y32, y33, .string s, y35, y36, y37, y38, y39, y40, y4, by simp only [puts, Act.put, lsA, lsZ, lsS], hb, uo f0 rfl, uo f1 rfl, fun _ => rfl, uo f3 rfl, uo f4 rfl, uo f5 rfl, uo f6 rfl, uo f7 rfl, uo f8 rfl, uo f9 rfl, fun h => o4.out (upd_off h), trivial⟩
          · intro dd aa ww K hc hun hn hI hK
            obtain ⟨y32, y33, y34, y35, y36, y37, y38, y39, y40, y4, ea, hb, f0, f1, f2, f3, f4, f5, f6, f7, f8, f9, o4, _⟩ := hI
            try simp [Region.binds] at hn
            subst ea
            simp only [puts, Act.put, lsA, lsZ, lsS]
            go_simp
            refine hK.out _ _ ?_
            exact ⟨y32, y33, y34, .int .i64 (j : Int), y36, y37, y38, y39, y40, y4, by simp only [puts, Act.put, lsA, lsZ, lsS], hb, uo f0 rfl, uo f1 rfl, uo f2 rfl, fun _ => rfl, uo f4 rfl, uo f5 rfl, uo f6 rfl, uo f7 rfl, uo f8 rfl, uo f9 rfl, fun h => o4.out (upd_off h), trivial⟩
          · intro dd aa ww K hc hun hn hI hK
            obtain ⟨y32, y33, y34, y35, y36, y37, y38, y39, y40, y4, ea, hb, f0, f1, f2, f3, f4, f5, f6, f7, f8, f9, o4, _⟩ := hI
            try simp [Region.binds] at hn
            have ex := f2.out (by first | (simp [hn]; done) | exact rc hc hn | exact rc hc hn.1 | exact rc hc hn.2 | exact rc hc hn.2.1 | exact rc hc hn.2.2 | exact rc hc hn.2.2.1 | exact rc hc hn.2.2.2)
            subst ex
            have ex := f3.out (by first | (simp [hn]; done) | exact rc hc hn | exact rc hc hn.1 | exact rc hc hn.2 | exact rc hc hn.2.1 | exact rc hc hn.2.2 | exact rc hc hn.2.2.1 | exact rc hc hn.2.2.2)
            subst ex
            have hij := HIJ.out
            subst ea
            simp only [puts, Act.put, lsA, lsZ, lsS]
            go_simp
            refine hK.out _ _ ?_
            exact ⟨y32, y33, .string s, .int .i64 (j : Int), .int .u8 (48 + (d : Int)), y37, y38, y39, y40, y4, by simp only [puts, Act.put, lsA, lsZ, lsS], hb, uo f0 rfl, uo f1 rfl, fun h => rfl, fun h => rfl, fun _ => rfl, uo f5 rfl, uo f6 rfl, uo f7 rfl, uo f8 rfl, uo f9 rfl, fun h => o4.out (upd_off h), trivial⟩
          · intro dd aa ww K hc hun hn hI hK
            obtain ⟨y32, y33, y34, y35, y36, y37, y38, y39, y40, y4, ea, hb, f0, f1, f2, f3, f4, f5, f6, f7, f8, f9, o4, _⟩ := hI
            try simp [Region.binds] at hn
            have ex := f4.out (by first | (simp [hn]; done) | exact rc hc hn | exact rc hc hn.1 | exact rc hc hn.2 | exact rc hc hn.2.1 | exact rc hc hn.2.2 | exact rc hc hn.2.2.1 | exact rc hc hn.2.2.2)
            subst ex
            subst ea
            simp only [puts, Act.put, lsA, lsZ, lsS]
            go_simp
            try rw [HW1.out]
            try rw [HW2.out]
            refine hK.out _ _ ?_
            exact ⟨y32, y33, y34, y35, .int .u8 (48 + (d : Int)), .int .u8 (d : Int), y38, y39, y40, y4, by simp only [puts, Act.put, lsA, lsZ, lsS], hb, uo f0 rfl, uo f1 rfl, uo f2 rfl, uo f3 rfl, fun h => rfl, fun _ => rfl, uo f6 rfl, uo f7 rfl, uo f8 rfl, uo f9 rfl, fun h => o4.out (upd_off h), trivial⟩
          · intro dd aa ww K hc hun hn hI hK
            obtain ⟨y32, y33, y34, y35, y36, y37, y38, y39, y40, y4, ea, hb, f0, f1, f2, f3, f4, f5, f6, f7, f8, f9, o4, _⟩ := hI
            try simp [Region.binds] at hn
            have ex := f5.out (by first | (simp [hn]; done) | exact rc hc hn | exact rc hc hn.1 | exact rc hc hn.2 | exact rc hc hn.2.1 | exact rc hc hn.2.2 | exact rc hc hn.2.2.1 | exact rc hc hn.2.2.2)
            subst ex
            subst ea
            simp only [puts, Act.put, lsA, lsZ, lsS]
            go_simp
            try rw [HW3.out]
            try rw [HW2.out]
            refine hK.out _ _ ?_
            exact ⟨y32, y33, y34, y35, y36, .int .u8 (d : Int), .int .u64 (d : Int), y39, y40, y4, by simp only [puts, Act.put, lsA, lsZ, lsS], hb, uo f0 rfl, uo f1 rfl, uo f2 rfl, uo f3 rfl, uo f4 rfl, fun h => rfl, fun _ => rfl, uo f7 rfl, uo f8 rfl, uo f9 rfl, fun h => o4.out (upd_off h), trivial⟩
          · intro dd aa ww K hc hun hn hI hK
            obtain ⟨y32, y33, y34, y35, y36, y37, y38, y39, y40, y4, ea, hb, f0, f1, f2, f3, f4, f5, f6, f7, f8, f9, o4, _⟩ := hI
            try simp [Region.binds] at hn
            have ex := f6.out (by first | (simp [hn]; done) | exact rc hc hn | exact rc hc hn.1 | exact rc hc hn.2 | exact rc hc hn.2.1 | exact rc hc hn.2.2 | exact rc hc hn.2.2.1 | exact rc hc hn.2.2.2)
            subst ex
            subst ea
            simp only [puts, Act.put, lsA, lsZ, lsS]
            go_simp
            with_reducible refine (HOF.out _).mono ?_
            rintro e w1 ⟨ahO, nhO, chO, rfl, hO, h1⟩
            refine hK.out _ _ ?_
            exact ⟨y32, y33, y34, y35, y36, y37, .int .u64 (d : Int), .slice ahO nhO chO, y40, y4, by simp only [puts, Act.put, lsA, lsZ, lsS], below_later hb h1, uo f0 rfl, fun h => (f1.out (upd_of rfl h)).past h1, uo f2 rfl, uo f3 rfl, uo f4 rfl, uo f5 rfl, fun h => rfl, fun _ => ⟨_, _, _, rfl, hO.mono hb.size⟩, fun h => (f8.out (upd_of rfl h)).past h1, uo f9 rfl, fun h => o4.out (upd_off h), trivial⟩
          · intro dd aa ww K hc hun hn hI hK
            obtain ⟨y32, y33, y34, y35, y36, y37, y38, y39, y40, y4, ea, hb, f0, f1, f2, f3, f4, f5, f6, f7, f8, f9, o4, _⟩ := hI
            try simp [Region.binds] at hn
            obtain ⟨ahG, nhG, chG, ex, hG⟩ := f1.out (by first | (simp [hn]; done) | exact rc hc hn | exact rc hc hn.1 | exact rc hc hn.2 | exact rc hc hn.2.1 | exact rc hc hn.2.2 | exact rc hc hn.2.2.1 | exact rc hc hn.2.2.2)
            subst ex
            obtain ⟨ahO, nhO, chO, ex, hO⟩ := f7.out (by first | (simp [hn]; done) | exact rc hc hn | exact rc hc hn.1 | exact rc hc hn.2 | exact rc hc hn.2.1 | exact rc hc hn.2.2 | exact rc hc hn.2.2.1 | exact rc hc hn.2.2.2)
            subst ex
            subst ea
            simp only [puts, Act.put, lsA, lsZ, lsS]
            go_simp
            with_reducible refine (HAD.out _ _ _ _ _ _ _ hG.toNatAt hO.toNatAt (by have := hG.len; have := LGR.out; omega) (by have := hO.len; have := LOF.out; omega)).mono ?_
            rintro e w1 ⟨ahA, nhA, chA, rfl, hA, h1⟩
            refine hK.out _ _ ?_
            exact ⟨y32, .slice ahG nhG chG, y34, y35, y36, y37, y38, .slice ahO nhO chO, .slice ahA nhA chA, y4, by simp only [puts, Act.put, lsA, lsZ, lsS], below_later hb h1, uo f0 rfl, fun h => (f1.out (upd_of rfl h)).past h1, uo f2 rfl, uo f3 rfl, uo f4 rfl, uo f5 rfl, uo f6 rfl, fun h => (f7.out (upd_of rfl h)).past h1, fun _ => ⟨_, _, _, rfl, hA.mono hb.size⟩, fun h => absurd (hc.reach (f := 8) (s := 9) (l := 8) (by kernel_rfl) (upd_of rfl h)) (by rw [hun]; decide), fun h => o4.out (upd_off h), trivial⟩
          · intro dd aa ww K hc hun hn hI hK
            obtain ⟨y32, y33, y34, y35, y36, y37, y38, y39, y40, y4, ea, hb, f0, f1, f2, f3, f4, f5, f6, f7, f8, f9, o4, _⟩ := hI
            try simp [Region.binds] at hn
            obtain ⟨ahA, nhA, chA, ex, hA⟩ := f8.out (by first | (simp [hn]; done) | exact rc hc hn | exact rc hc hn.1 | exact rc hc hn.2 | exact rc hc hn.2.1 | exact rc hc hn.2.2 | exact rc hc hn.2.2.1 | exact rc hc hn.2.2.2)
            subst ex
            subst ea
            simp only [puts, Act.put, lsA, lsZ, lsS]
            go_simp
            refine hK.out _ _ ?_
            exact ⟨y32, y33, y34, y35, y36, y37, y38, y39, .slice ahA nhA chA, .slice ahA nhA chA, by simp only [puts, Act.put, lsA, lsZ, lsS], hb, uo f0 rfl, uo f1 rfl, uo f2 rfl, uo f3 rfl, uo f4 rfl, uo f5 rfl, uo f6 rfl, uo f7 rfl, uo f8 rfl, fun _ => rfl, fun h => absurd h (by simp [upd]), trivial⟩
        intro dd aa w21 hd hI
        obtain ⟨y32, y33, y34, y35, y36, y37, y38, y39, y40, y4, ea, hb, f0, f1, f2, f3, f4, f5, f6, f7, f8, f9, o4, _⟩ := hI
        have ex := f0.out (hd 0 (by simp))
        subst ex
        obtain ⟨ahG, nhG, chG, ex, hG⟩ := f1.out (hd 1 (by simp))
        subst ex
        have ex := f2.out (hd 2 (by simp))
        subst ex
        have ex := f3.out (hd 3 (by simp))
        subst ex
        have ex := f4.out (hd 4 (by simp))
        subst ex
        have ex := f5.out (hd 5 (by simp))
        subst ex
        have ex := f6.out (hd 6 (by simp))
        subst ex
        obtain ⟨ahO, nhO, chO, ex, hO⟩ := f7.out (hd 7 (by simp))
        subst ex
        obtain ⟨ahA, nhA, chA, ex, hA⟩ := f8.out (hd 8 (by simp))
        subst ex
        have ex : y4 = .slice ahA nhA chA := f9.out (hd 9 (by simp))
        subst ex
        subst ea
        simp only [puts, Act.put, lsA, lsZ, lsS]
        have h4 := h4.past hb
        have hB := below_later hB hb
        have hR := below_later hR hb
        clear hb hd
        have hX := hX.past hR hlt0
        have hA2 : OwnAt w21 (w.heap.size + 1) ahA nhA chA (digs (valL 10 (dvals (s.data.toList.take (j + 1))))) := by
         rw [HST.out, show 48 + d - 48 = d by omega]
         exact hA.mono (by omega)
        have hfin : Hid (∀ i, i < j + 1 → badAt s.data.toList i = false) := Lib.hid (by
         intro i hi
         by_cases e : i = j
         · rw [e]; exact HFI.out
         · exact hfine.out i (by omega))
        have hlt0 := Nat.lt_of_lt_of_le hlt0 hR.size
        clear hO hG h4 hA
        go_wp2_with fail
        go_roundw
        case measure => have := HJ.out; simp [intOf] <;> omega
        case rel => exact ⟨j + 1, ahA, nhA, chA, by have := HJ.out; omega, by go_num, rfl, hfin, hA2, hX, hB, hlt0⟩
    · have hdg := fun w => rdig6_no X w hD
      have HBAD : Hid (badAt s.data.toList j = true) := Lib.hid (by unfold badAt; rw [HXE.out, HYE.out]; simp; omega)
      have HDG := Lib.hid hdg
      clear hdg hD
      obtain ⟨e1, e2, e3⟩ := getBad (l := s.data.toList) (k := j) (by rw [HSL.out]; exact h) (by rw [HSL.out]; exact HJ.out) hfine.out HBAD.out
      rw [e1, e2, e3]
      clear e1 e2 e3
      go_wp2_with fail
      refine (HDG.out _).mono ?_
      rintro e w2 ⟨rfl, hb⟩
      have hX := hX.past hb hlt0
      have hB := below_later hB hb
      have hXb := hX
      obtain ⟨u3, u4, r3, r4, p3, p4, m3, m4⟩ := hX.two
      go_wp2_with fail
      obtain ⟨wY, hWY, hO, y0, y1, _⟩ := store2 hXb (.int .i64 6) (.int .i64 (j : Int)) (nu rfl) (nu rfl)
      rw [hWY]
      refine bodyPost_ret (v := .tuple #[.slice none 0 0, .agg #[.int .i64 6, .int .i64 (j : Int)]]) (by simp [results, Tryz.results26, go_sem, y0, y1]) rfl ⟨none, 0, 0, rfl, OwnAt.nil _ _, hO.below (Nat.le_refl _) hB⟩
  · obtain rfl : j = s.size := by omega
    have hXb := hX
    by_cases h0 : s.size = 0
    · have e0 : s.data.toList = [] := List.length_eq_zero_iff.1 (by rw [HSL.out]; exact h0)
      have e1 : getN s.data.toList = 0 ∧ getE s.data.toList = 6 ∧ getA s.data.toList = 0 := by rw [e0]; decide
      have HE1 := Lib.hid e1
      have tz : ((s.size : Int) == 0) = true := by rw [h0]; rfl
      obtain ⟨u3, u4, r3, r4, p3, p4, m3, m4⟩ := hX.two
      clear e0 e1
      go_wp2_with fail
      obtain ⟨wY, hWY, hO, y0, y1, _⟩ := store2 hXb (.int .i64 6) (.int .i64 0) (nu rfl) (nu rfl)
      rw [hWY]
      refine bodyPost_ret (v := .tuple #[.slice none 0 0, .agg #[.int .i64 6, .int .i64 0]]) (by simp [results, Tryz.results26, go_sem, y0, y1]) rfl ?_
      rw [HE1.out.1, HE1.out.2.1, HE1.out.2.2]
      exact ⟨none, 0, 0, rfl, OwnAt.nil _ _, hO.below (Nat.le_refl _) hB⟩
    · have e1 := getAll (l := s.data.toList) (by rw [HSL.out]; exact h) (by intro e; have := HSL.out; rw [e] at this; simp at this; omega) (by rw [HSL.out]; exact hfine.out)
      rw [show s.data.toList.take s.size = s.data.toList from List.take_of_length_le (by rw [HSL.out]; exact Nat.le_refl _), ← e1.1] at h4
      have HE1 := Lib.hid e1
      have tz : ((s.size : Int) == 0) = false := beq_eq_false_iff_ne.2 (by omega)
      obtain ⟨u3, u4, r3, r4, p3, p4, m3, m4⟩ := hX.two
      clear e1
      go_wp2_with fail
      obtain ⟨wY, hWY, hO, y0, y1, _⟩ := store2 hXb (.int .i64 0) (.int .i64 0) (nu rfl) (nu rfl)
      rw [hWY]
      refine bodyPost_ret (v := .tuple #[.slice a n c, .agg #[.int .i64 0, .int .i64 0]]) (by simp [results, Tryz.results26, go_sem, y0, y1]) rfl ?_
      rw [HE1.out.2.1, HE1.out.2.2]
      exact ⟨a, n, c, rfl, (hO.own h4).mono (by omega), hO.below (Nat.le_refl _) hB⟩
theorem rget_any (s : ByteArray) (w : World) (hs : s.size ≤ 9223372036854775807) :
 Calls Tryz.prog 26 #[.string s] w (RetGet w (getN s.data.toList) (getE s.data.toList) (getA s.data.toList)) := by
 by_cases h : 10000 < s.size
 · have e : getN s.data.toList = 0 ∧ getE s.data.toList = 4 ∧ getA s.data.toList = 10000 := by
    have hl : 10000 < s.data.toList.length := by rw [size_list]; exact h
    refine ⟨?_, if_pos hl, if_pos hl⟩
    unfold getN okL
    rw [if_neg]
    simp
    omega
   rw [e.1, e.2.1, e.2.2]
   exact rget_long s w h hs
 · exact rget_short s w (by omega)
end Go.Proofs.YtoecndogaklngaaGreatDoor
