import Derived.Laws.AppendOwn
import Derived.Test.YtlkoenpdmlbhlaaGreatS0Sm
import Derived.Test.YtlkoenpdmlbhlaaGreatRef13aSm
import Derived.Test.YtlkoenpdmlbhlaaGreatSoli4Sm
set_option linter.unusedVariables false
set_option linter.unusedSimpArgs false
namespace Go.Proofs.YtlkoenpdmlbhlaaGreat
open Go.RowKit
def IntsRow (w : World) (B : Nat) (v : Value) (zs : List Int) : Prop := w.ownsRow B 3 1 v zs.length (zs.map fun z => Value.int .i64 z)
theorem i_below_grown {w w' : World} (hb : Below w.heap.size w w') (o : Option Nat) : w.grownBy w' o := ⟨hb.os, hb.tape, hb.output, hb.size, fun k hk _ => hb.block k hk⟩
theorem IntsRow.nil (w : World) (B : Nat) : IntsRow w B (.slice none 0 0) [] := ⟨rfl, .inl ⟨rfl, rfl⟩⟩
theorem IntsRow.past {w w' : World} {B : Nat} {v : Value} {zs : List Int} (h : IntsRow w B v zs) (hb : Below w.heap.size w w') : IntsRow w' B v zs :=
 World.ownsRow.kept h (i_below_grown hb none) (by cases v.ownBlock <;> simp)
theorem IntsRow.at_ {w : World} {B : Nat} {v : Value} {zs : List Int} (h : IntsRow w B v zs) (hw : ∀ z ∈ zs, -9223372036854775808 ≤ z ∧ z ≤ 9223372036854775807) : ∃ a c, v = .slice a zs.length c ∧ IntsAt w a zs.length c zs := by
 rcases h.2 with ⟨rfl, h0⟩ | ⟨g, cap, cur, rfl, hb, hg, h5, h6, _⟩
 · rw [h0]
   exact ⟨none, 0, rfl, h0, Nat.le_refl _, Nat.zero_le _, .inl rfl, fun _ => rfl, hw⟩
 · refine ⟨_, cap, rfl, rfl, h5, h6, .inr ⟨g, 0, rfl, (Array.getElem?_eq_some_iff.1 hg).1, fun i hi => ?_⟩, (fun e => by cases e), hw⟩
   rw [Nat.zero_add, World.ownsRow.cellAt h i (by omega), List.getElem?_map, List.getD_eq_getElem?_getD, List.getElem?_eq_getElem hi]
   rfl
theorem wpList_push_int {w : World} {ops : Array Oper} {rest : List Oper} {o : Oper} {a : Act} {Q : Exit → Act → World → Prop} (hgd : o.guard = none) (s x : Operand)
 (ho : o.op = .call { callee := .builtin .append, args := #[s, x], argTypes := #[32, 32] })
 (B : Nat) (v : Value) (zs : List Int) (hs : a.eval s = v) (h : IntsRow w B v zs) (bx : Nat) (hx : a.eval x = .slice (some ⟨bx, 0, none⟩) 1 1) (z : Int) (q0 : w.cell? ⟨bx, 0, none⟩ = some (.int .i64 z)) (hsz : zs.length ≤ 1000000) (hbase : B ≤ w.heap.size)
 (hK : ∀ v' w', IntsRow w' B v' (zs ++ [z]) → Below B w w' → wpList Tryz.prog ops Q rest (a.put o.dst v') w') : wpList Tryz.prog ops Q (o :: rest) a w := by
 obtain ⟨i0, hi, hz0, hz1, hz2⟩ := info_parts i64_info
 refine wpList_append_own w hgd s x 32 ho B 3 i0 (.int .i64 0) 1 8 Tryz.underlying32 hi hz0 hz1 hz2 rfl (by decide) v zs.length _ hs h ⟨bx, 0, none⟩ 1 1 [.int .i64 z] hx rfl
  (fun j y hj => by match j, hj with | 0, hj => (simp at hj; subst hj; exact q0)) (by simp [Value.oneCell']) (by simp only [maxLen]; omega) (by omega) hbase ?_
 intro v' w' h1 h2 _
 refine hK v' w' ?_ ((Below.refl B w).grown h2 hbase (fun k e => (World.ownsRow.lt h k e).1))
 unfold IntsRow
 rw [List.map_append, List.length_append]
 exact h1
theorem tabL_succ (V : Nat → Int) (j : Nat) : tabL V j ++ [V (j + 1)] = tabL V (j + 1) := by
 unfold tabL
 rw [List.range_succ, List.map_append]
 rfl
theorem wtI_in (z : Int) : -9223372036854775808 ≤ wtI z ∧ wtI z ≤ 9223372036854775807 := by
 unfold wtI
 by_cases h : -9223372036854775808 ≤ z ∧ z ≤ 9223372036854775807
 · rw [(one_yes h).1]; exact h
 · rw [(one_no h).1, if_neg (by decide)]; decide
theorem tab_same (W : Nat → Int) (k : Nat) : (okT (tabL (fun d => wtI (W d)) k) (k : Int) ↔ okT (tabL W k) (k : Int)) ∧ (okT (tabL W k) (k : Int) → tabL (fun d => wtI (W d)) k = tabL W k) := by
 have he : (∀ i, i < k → 0 ≤ W (i + 1) ∧ W (i + 1) ≤ 16777215) → tabL (fun d => wtI (W d)) k = tabL W k := fun h => List.map_congr_left fun i hi => by
  have := h i (List.mem_range.1 hi)
  show wtI (W (i + 1)) = W (i + 1)
  unfold wtI
  rw [(one_yes (z := W (i + 1)) (by omega)).1]
  rfl
 have hin : okT (tabL W k) (k : Int) → ∀ i, i < k → 0 ≤ W (i + 1) ∧ W (i + 1) ≤ 16777215 := fun h i hi => h.2.2.2.2.1 _ (List.mem_map.2 ⟨i, List.mem_range.2 hi, rfl⟩)
 have hin2 : okT (tabL (fun d => wtI (W d)) k) (k : Int) → ∀ i, i < k → 0 ≤ W (i + 1) ∧ W (i + 1) ≤ 16777215 := fun h i hi => by
  have h1 : 0 ≤ wtI (W (i + 1)) ∧ wtI (W (i + 1)) ≤ 16777215 := h.2.2.2.2.1 _ (List.mem_map.2 ⟨i, List.mem_range.2 hi, rfl⟩)
  unfold wtI at h1
  by_cases hz : -9223372036854775808 ≤ W (i + 1) ∧ W (i + 1) ≤ 9223372036854775807
  · rw [(one_yes hz).1] at h1; exact h1
  · rw [(one_no hz).1, if_neg (by decide)] at h1; exact absurd h1.1 (by decide)
 exact ⟨⟨fun h => by rw [← he (hin2 h)]; exact h, fun h => by rw [he (hin h)]; exact h⟩, fun h => he (hin h)⟩
def RetTabR (w : World) (r : Tab) (e : Ending) (w' : World) : Prop :=
 ∃ a n c, e = .returned (.tuple #[.slice a n c, .int .i64 r.why]) ∧ IntsAt w' a n c r.list ∧ Below w.heap.size w w'
theorem told13_any (a : Option Addr) (n c : Nat) (V : Nat → Int) (k : Nat) (w : World) (g : IntsAt w a n c (tabL (fun d => wtI (V d)) k)) :
 Calls Tryz.prog 40 #[.int .i64 (k : Int), .slice a n c] w (RetTabR w (if okT (tabL V k) (k : Int) then .ok (tabL V k) else .error 13)) := by
 by_cases h : okT (tabL V k) (k : Int)
 · rw [if_pos h]
   refine (told13_yes a n c _ _ w g ((tab_same V k).1.2 h)).mono ?_
   rintro e w' ⟨rfl, hb⟩
   refine ⟨a, n, c, rfl, ?_, hb⟩
   show IntsAt w' a n c (tabL V k)
   rw [← (tab_same V k).2 h]
   exact g.past hb
 · rw [if_neg h]
   refine (told13_no a n c _ _ w g (fun h2 => h ((tab_same V k).1.1 h2))).mono ?_
   rintro e w' ⟨rfl, hb⟩
   exact ⟨none, 0, 0, rfl, IntsAt.nil _, hb⟩
set_option maxRecDepth 100000 in
set_option maxHeartbeats 8000000 in
theorem rideal_out (k s : Int) (w : World) (h : ¬ inR k s) : Calls Tryz.prog 11 #[.int .i64 k, .int .i64 s] w (RetTabR w (.error 3)) := by
 have hd : decide (inR k s) = false := decide_eq_false h
 have HD := Lib.hid hd
 clear hd h
 go_enter Tryz.func11, Tryz.ntmps11
 have hB := Below.refl w.heap.size w
 go_wp2_with fail
 with_reducible refine (within13 k s _).mono ?_
 rintro e w1 ⟨rfl, hb⟩
 have hB := below_later hB hb
 clear hb
 rw [HD.out]
 go_wp2
 go_ret2
 exact ⟨_, _, _, rfl, IntsAt.nil _, hB⟩
set_option maxRecDepth 100000 in
set_option maxHeartbeats 8000000 in
theorem rideal_in (kN sc : Nat) (w : World) (h : inR kN sc) : Calls Tryz.prog 11 #[.int .i64 (kN : Int), .int .i64 (sc : Int)] w (RetTabR w (idealT kN sc)) := by
 have hd : decide (inR (kN : Int) (sc : Int)) = true := decide_eq_true h
 have hT := idealT_in h
 unfold inR at h
 have hwt := fun d => (show wtR (shR kN 1 0) 1 (sc : Int) d = rndR (idealR kN d * mkRat (sc : Int) 1) by unfold wtR; rw [sumS_one])
 obtain ⟨V, hV⟩ : ∃ V, wtR (shR kN 1 0) 1 (sc : Int) = V := ⟨_, rfl⟩
 rw [hV] at hT
 simp only [hV] at hwt
 obtain ⟨T, hTT⟩ : ∃ T, idealT kN sc = T := ⟨_, rfl⟩
 rw [hTT] at hT ⊢
 have HD := Lib.hid hd
 have HT := Lib.hid hT
 have HWT := Lib.hid hwt
 have hk1 : 0 < kN := by omega
 have hk2 : kN ≤ 65536 := by omega
 have hs2 : sc ≤ 16777215 := by omega
 clear hd hT hwt hV hTT h
 go_enter Tryz.func11, Tryz.ntmps11
 have hB := Below.refl w.heap.size w
 go_wp2_with fail
 with_reducible refine (within13 (kN : Int) (sc : Int) _).mono ?_
 rintro e w1 ⟨rfl, hb⟩
 have hB := below_later hB hb
 clear hb
 rw [HD.out]
 go_wp2
 go_loopw [6, 7] (fun o i wr => ∃ (j : Nat), j ≤ kN ∧ i = .int .i64 ((j : Int) + 1) ∧ IntsRow wr w.heap.size o (tabL (fun d => wtI (V d)) j) ∧ Below w.heap.size w wr) (fun o i _ => kN + 1 - (intOf i).toNat)
 case atStart => exact ⟨0, Nat.zero_le _, rfl, IntsRow.nil _ _, hB⟩
 case round =>
  clear hB
  obtain ⟨j, hj, rfl, hO, hB⟩ := hrel
  by_cases hlt : j < kN
  · obtain ⟨D, hD⟩ : ∃ D, j + 1 = D := ⟨_, rfl⟩
    have hDi : (j : Int) + 1 = (D : Int) := by omega
    have hd1 : 1 ≤ D := by omega
    have hd2 : D ≤ kN := by omega
    have hv := HWT.out D
    have li := idealR_len (k := kN) (d := D) hk1 hk2 hd1 (by omega)
    have hid := fun w' => rideal_any kN D w' hk1 hk2 hd1 (by omega)
    obtain ⟨I, hI⟩ : ∃ I, idealR kN D = I := ⟨_, rfl⟩
    rw [hI] at hv li
    simp only [hI] at hid
    obtain ⟨Z, hZ⟩ : ∃ Z, wtI (V D) = Z := ⟨_, rfl⟩
    have hwz : wtI (rndR (I * mkRat (sc : Int) 1)) = Z := by rw [← hv, hZ]
    have HID := Lib.hid hid
    have HZ := Lib.hid hwz
    have HTS := Lib.hid (show tabL (fun d => wtI (V d)) j ++ [Z] = tabL (fun d => wtI (V d)) (j + 1) by rw [← hZ, ← hD]; exact tabL_succ (fun d => wtI (V d)) j)
    have LI := Lib.hid (show rlen I ≤ 1100 by omega)
    have HDI := Lib.hid hDi
    have hle : ((D : Int) ≤ (kN : Int)) := by omega
    rw [hDi]
    clear hv hid hI hZ hwz li hDi hD
    go_wp2_with fail
    with_reducible refine (HID.out _).mono ?_
    rintro e w1 ⟨ahIU, nhIU, chIU, ahID, nhID, chID, rfl, hIU, hID, hb⟩
    have hO := hO.past hb
    have hB := below_later hB hb
    clear hb
    go_wp2_with fail
    with_reducible refine (rweight13 sc hIU.toNatAt hID.toNatAt LI.out hs2).mono ?_
    rintro e w2 ⟨rfl, hb⟩
    have hO := hO.past hb
    have hIU := hIU.past hb
    have hID := hID.past hb
    have hB := below_later hB hb
    clear hb
    rw [HZ.out]
    have hal : Below w2.heap.size w2 (w2.alloc (.cells #[.int .i64 Z] 3)) := (Below.refl _ _).alloc (Nat.le_refl _) _
    have hr2 := hO.past hal
    have z0 : (w2.alloc (.cells #[.int .i64 Z] 3)).cell? ⟨w2.heap.size, 0, none⟩ = some (.int .i64 Z) := by rw [World.cell?_alloc_at _ _ _ _ rfl]; rfl
    have hB2 := below_later hB hal
    have hsz2 := hB2.size
    have hln : (tabL (fun d => wtI (V d)) j).length ≤ 1000000 := by rw [tabL_len]; omega
    go_wp2_with (at_builtin; go_loud (refine wpList_push_int rfl _ _ rfl w.heap.size _ _ rfl hr2 w2.heap.size rfl Z z0 hln hsz2 ?_; intro v8 w8 hr8 hb8))
    rw [HTS.out] at hr8
    go_roundw
    case rel => exact ⟨j + 1, by omega, by have := HDI.out; go_num, hr8, hB2.trans hb8⟩
    case measure => have := HDI.out; simp [intOf]; omega
  · obtain rfl : j = kN := by omega
    obtain ⟨a, c, rfl, hA⟩ := hO.at_ (fun z hz => by obtain ⟨i, _, rfl⟩ := List.mem_map.1 hz; exact wtI_in _)
    rw [tabL_len] at hA
    have hnl : ¬ ((j : Int) + 1 ≤ (j : Int)) := by omega
    simp only [tabL_len]
    go_wp2_with fail
    with_reducible refine (told13_any a j c V j _ hA).mono ?_
    rw [← HT.out]
    rintro e w9 ⟨a9, n9, c9, rfl, h1, hb⟩
    have hB := below_later hB hb
    go_wp2
    go_ret2
    exact ⟨_, _, _, rfl, h1, hB⟩
theorem rideal13 (k s : Int) (w : World) : Calls Tryz.prog 11 #[.int .i64 k, .int .i64 s] w (RetTabR w (idealT k s)) := by
 by_cases h : inR k s
 · have h2 := h
   unfold inR at h2
   obtain ⟨kN, rfl⟩ : ∃ kN : Nat, k = kN := ⟨k.toNat, by omega⟩
   obtain ⟨sc, rfl⟩ : ∃ sc : Nat, s = sc := ⟨s.toNat, by omega⟩
   exact rideal_in kN sc w h
 · rw [idealT_out h]
   exact rideal_out k s w h
set_option maxRecDepth 100000 in
set_option maxHeartbeats 4000000 in
theorem rrobust_out (k s sp : Int) (m : Rat) (a1 : Option Addr) (n1 c1 : Nat) (a2 : Option Addr) (n2 c2 : Nat) (w : World) (g1 : NatAt w a1 n1 c1 (digs m.num.natAbs)) (g2 : NatAt w a2 n2 c2 (digs m.den)) (hl : rlen m ≤ 1000) (h : ¬ inR k s) : Calls Tryz.prog 13 #[.int .i64 k, .int .i64 s, .int .i64 sp, .agg #[.bool (neg m.num), .slice a1 n1 c1, .slice a2 n2 c2]] w (RetTabR w (robustT k s sp m)) := by
 rw [robustT_out h]
 have hd : decide (inR k s) = false := decide_eq_false h
 have HD := Lib.hid hd
 clear hd h
 have hc := chkR_canon m
 have HC := Lib.hid hc
 have hn1 := g1.len
 have hn2 := g2.len
 unfold rlen at hl
 clear hc
 go_enter Tryz.func13, Tryz.ntmps13
 have hB := Below.refl w.heap.size w
 go_wp2_with fail
 obtain ⟨w1, hW, hz0, hb, q, f⟩ := box1g w (w.heap.size) (by omega) #[.bool (neg m.num), .slice a1 n1 c1, .slice a2 n2 c2] 27
 rw [hW]
 clear hW
 have g1 := g1.past hb
 have g2 := g2.past hb
 have hB := below_later hB hb
 clear hb
 have lm : w.heap.size < w1.heap.size := by omega
 have qm0 := q 0; have qm1 := q 1; have qm2 := q 2
 simp only [lgA, lgZ, lgS] at qm0 qm1 qm2
 clear q f
 clear hz0
 with_reducible refine (rcheck05_any _ _ _ _ (digs m.num.natAbs) _ _ _ (digs m.den) _ g1 g2 (by omega) (by omega)).mono ?_
 rintro e w2 ⟨rfl, hb⟩
 have g1 := g1.past hb
 have g2 := g2.past hb
 obtain ⟨qm0, qm1, qm2, lm⟩ := bq3 hb lm qm0 qm1 qm2
 have hB := below_later hB hb
 clear hb
 rw [HC.out]
 go_wp2_with fail
 with_reducible refine (within13 k s _).mono ?_
 rintro e w3 ⟨rfl, hb⟩
 have g1 := g1.past hb
 have g2 := g2.past hb
 obtain ⟨qm0, qm1, qm2, lm⟩ := bq3 hb lm qm0 qm1 qm2
 have hB := below_later hB hb
 clear hb
 rw [HD.out]
 go_wp2
 go_ret2
 exact ⟨_, _, _, rfl, IntsAt.nil _, hB⟩
set_option maxRecDepth 100000 in
set_option maxHeartbeats 4000000 in
theorem rrobust_low (k s sp : Int) (m : Rat) (a1 : Option Addr) (n1 c1 : Nat) (a2 : Option Addr) (n2 c2 : Nat) (w : World) (g1 : NatAt w a1 n1 c1 (digs m.num.natAbs)) (g2 : NatAt w a2 n2 c2 (digs m.den)) (hl : rlen m ≤ 1000) (h0 : inR k s) (h : sp < 1) : Calls Tryz.prog 13 #[.int .i64 k, .int .i64 s, .int .i64 sp, .agg #[.bool (neg m.num), .slice a1 n1 c1, .slice a2 n2 c2]] w (RetTabR w (robustT k s sp m)) := by
 rw [robustT_bad (by omega)]
 have hd : decide (inR k s) = true := decide_eq_true h0
 have HD := Lib.hid hd
 clear hd h0
 have hc := chkR_canon m
 have HC := Lib.hid hc
 have hn1 := g1.len
 have hn2 := g2.len
 unfold rlen at hl
 clear hc
 go_enter Tryz.func13, Tryz.ntmps13
 have hB := Below.refl w.heap.size w
 go_wp2_with fail
 obtain ⟨w1, hW, hz0, hb, q, f⟩ := box1g w (w.heap.size) (by omega) #[.bool (neg m.num), .slice a1 n1 c1, .slice a2 n2 c2] 27
 rw [hW]
 clear hW
 have g1 := g1.past hb
 have g2 := g2.past hb
 have hB := below_later hB hb
 clear hb
 have lm : w.heap.size < w1.heap.size := by omega
 have qm0 := q 0; have qm1 := q 1; have qm2 := q 2
 simp only [lgA, lgZ, lgS] at qm0 qm1 qm2
 clear q f
 clear hz0
 with_reducible refine (rcheck05_any _ _ _ _ (digs m.num.natAbs) _ _ _ (digs m.den) _ g1 g2 (by omega) (by omega)).mono ?_
 rintro e w2 ⟨rfl, hb⟩
 have g1 := g1.past hb
 have g2 := g2.past hb
 obtain ⟨qm0, qm1, qm2, lm⟩ := bq3 hb lm qm0 qm1 qm2
 have hB := below_later hB hb
 clear hb
 rw [HC.out]
 go_wp2_with fail
 with_reducible refine (within13 k s _).mono ?_
 rintro e w3 ⟨rfl, hb⟩
 have g1 := g1.past hb
 have g2 := g2.past hb
 obtain ⟨qm0, qm1, qm2, lm⟩ := bq3 hb lm qm0 qm1 qm2
 have hB := below_later hB hb
 clear hb
 rw [HD.out]
 go_wp2
 go_ret2
 exact ⟨_, _, _, rfl, IntsAt.nil _, hB⟩
set_option maxRecDepth 100000 in
set_option maxHeartbeats 4000000 in
theorem rrobust_high (k s sp : Int) (m : Rat) (a1 : Option Addr) (n1 c1 : Nat) (a2 : Option Addr) (n2 c2 : Nat) (w : World) (g1 : NatAt w a1 n1 c1 (digs m.num.natAbs)) (g2 : NatAt w a2 n2 c2 (digs m.den)) (hl : rlen m ≤ 1000) (h0 : inR k s) (h1 : ¬ sp < 1) (h : k < sp) : Calls Tryz.prog 13 #[.int .i64 k, .int .i64 s, .int .i64 sp, .agg #[.bool (neg m.num), .slice a1 n1 c1, .slice a2 n2 c2]] w (RetTabR w (robustT k s sp m)) := by
 rw [robustT_bad (by omega)]
 have hd : decide (inR k s) = true := decide_eq_true h0
 have HD := Lib.hid hd
 clear hd h0
 have hc := chkR_canon m
 have HC := Lib.hid hc
 have hn1 := g1.len
 have hn2 := g2.len
 unfold rlen at hl
 clear hc
 go_enter Tryz.func13, Tryz.ntmps13
 have hB := Below.refl w.heap.size w
 go_wp2_with fail
 obtain ⟨w1, hW, hz0, hb, q, f⟩ := box1g w (w.heap.size) (by omega) #[.bool (neg m.num), .slice a1 n1 c1, .slice a2 n2 c2] 27
 rw [hW]
 clear hW
 have g1 := g1.past hb
 have g2 := g2.past hb
 have hB := below_later hB hb
 clear hb
 have lm : w.heap.size < w1.heap.size := by omega
 have qm0 := q 0; have qm1 := q 1; have qm2 := q 2
 simp only [lgA, lgZ, lgS] at qm0 qm1 qm2
 clear q f
 clear hz0
 with_reducible refine (rcheck05_any _ _ _ _ (digs m.num.natAbs) _ _ _ (digs m.den) _ g1 g2 (by omega) (by omega)).mono ?_
 rintro e w2 ⟨rfl, hb⟩
 have g1 := g1.past hb
 have g2 := g2.past hb
 obtain ⟨qm0, qm1, qm2, lm⟩ := bq3 hb lm qm0 qm1 qm2
 have hB := below_later hB hb
 clear hb
 rw [HC.out]
 go_wp2_with fail
 with_reducible refine (within13 k s _).mono ?_
 rintro e w3 ⟨rfl, hb⟩
 have g1 := g1.past hb
 have g2 := g2.past hb
 obtain ⟨qm0, qm1, qm2, lm⟩ := bq3 hb lm qm0 qm1 qm2
 have hB := below_later hB hb
 clear hb
 rw [HD.out]
 go_wp2
 go_ret2
 exact ⟨_, _, _, rfl, IntsAt.nil _, hB⟩
set_option maxRecDepth 100000 in
set_option maxHeartbeats 4000000 in
theorem rrobust_neg (k s sp : Int) (m : Rat) (a1 : Option Addr) (n1 c1 : Nat) (a2 : Option Addr) (n2 c2 : Nat) (w : World) (g1 : NatAt w a1 n1 c1 (digs m.num.natAbs)) (g2 : NatAt w a2 n2 c2 (digs m.den)) (hl : rlen m ≤ 1000) (h0 : inR k s) (h1 : ¬ sp < 1) (h2 : ¬ k < sp) (h : m.num < 0) : Calls Tryz.prog 13 #[.int .i64 k, .int .i64 s, .int .i64 sp, .agg #[.bool (neg m.num), .slice a1 n1 c1, .slice a2 n2 c2]] w (RetTabR w (robustT k s sp m)) := by
 rw [robustT_bad (by omega)]
 have hd : decide (inR k s) = true := decide_eq_true h0
 have HD := Lib.hid hd
 clear hd h0
 have hc := chkR_canon m
 have HC := Lib.hid hc
 have hn1 := g1.len
 have hn2 := g2.len
 unfold rlen at hl
 clear hc
 have hg : neg m.num = true := decide_eq_true h
 have HG := Lib.hid hg
 clear hg h
 go_enter Tryz.func13, Tryz.ntmps13
 have hB := Below.refl w.heap.size w
 go_wp2_with fail
 obtain ⟨w1, hW, hz0, hb, q, f⟩ := box1g w (w.heap.size) (by omega) #[.bool (neg m.num), .slice a1 n1 c1, .slice a2 n2 c2] 27
 rw [hW]
 clear hW
 have g1 := g1.past hb
 have g2 := g2.past hb
 have hB := below_later hB hb
 clear hb
 have lm : w.heap.size < w1.heap.size := by omega
 have qm0 := q 0; have qm1 := q 1; have qm2 := q 2
 simp only [lgA, lgZ, lgS] at qm0 qm1 qm2
 clear q f
 clear hz0
 with_reducible refine (rcheck05_any _ _ _ _ (digs m.num.natAbs) _ _ _ (digs m.den) _ g1 g2 (by omega) (by omega)).mono ?_
 rintro e w2 ⟨rfl, hb⟩
 have g1 := g1.past hb
 have g2 := g2.past hb
 obtain ⟨qm0, qm1, qm2, lm⟩ := bq3 hb lm qm0 qm1 qm2
 have hB := below_later hB hb
 clear hb
 rw [HC.out]
 go_wp2_with fail
 with_reducible refine (within13 k s _).mono ?_
 rintro e w3 ⟨rfl, hb⟩
 have g1 := g1.past hb
 have g2 := g2.past hb
 obtain ⟨qm0, qm1, qm2, lm⟩ := bq3 hb lm qm0 qm1 qm2
 have hB := below_later hB hb
 clear hb
 rw [HD.out]
 have hg := HG.out
 go_wp2
 go_ret2
 exact ⟨_, _, _, rfl, IntsAt.nil _, hB⟩
set_option maxRecDepth 100000 in
set_option maxHeartbeats 16000000 in
theorem rrobust_in (kN sc spN : Nat) (m : Rat) (a1 : Option Addr) (n1 c1 : Nat) (a2 : Option Addr) (n2 c2 : Nat) (w : World) (g1 : NatAt w a1 n1 c1 (digs m.num.natAbs)) (g2 : NatAt w a2 n2 c2 (digs m.den)) (hl : rlen m ≤ 1000) (h : inR kN sc) (h1 : 1 ≤ spN) (h2 : spN ≤ kN) (h3 : ¬ m.num < 0) :
 Calls Tryz.prog 13 #[.int .i64 (kN : Int), .int .i64 (sc : Int), .int .i64 (spN : Int), .agg #[.bool (neg m.num), .slice a1 n1 c1, .slice a2 n2 c2]] w (RetTabR w (robustT kN sc spN m)) := by
 have hd : decide (inR (kN : Int) (sc : Int)) = true := decide_eq_true h
 have hT := robustT_in h h1 h2 h3
 have LM := Lib.hid hl
 unfold inR at h
 have hwt := fun d => (show wtR (shR kN spN m) 2 (sc : Int) d = rndR ((idealR kN d + spikeR spN m d) * mkRat (sc : Int) 1) by unfold wtR; rw [sumS_two])
 obtain ⟨V, hV⟩ : ∃ V, wtR (shR kN spN m) 2 (sc : Int) = V := ⟨_, rfl⟩
 rw [hV] at hT
 simp only [hV] at hwt
 obtain ⟨T, hTT⟩ : ∃ T, robustT kN sc spN m = T := ⟨_, rfl⟩
 rw [hTT] at hT ⊢
 have hg : neg m.num = false := decide_eq_false h3
 have HG := Lib.hid hg
 have HD := Lib.hid hd
 have HT := Lib.hid hT
 have HWT := Lib.hid hwt
 have hk1 : 0 < kN := by omega
 have hk2 : kN ≤ 65536 := by omega
 have hs2 : sc ≤ 16777215 := by omega
 have hb1 : ¬ ((spN : Int) < 1) := by omega
 have hb2 : ¬ ((kN : Int) < (spN : Int)) := by omega
 have hb3 : decide (kN < spN) = false := decide_eq_false (by omega)
 clear hd hT hwt hV hTT h h3 hg
 have hc := chkR_canon m
 have HC := Lib.hid hc
 have hn1 := g1.len
 have hn2 := g2.len
 unfold rlen at hl
 clear hc
 go_enter Tryz.func13, Tryz.ntmps13
 have hB := Below.refl w.heap.size w
 go_wp2_with fail
 obtain ⟨w1, hW, hz0, hb, q, f⟩ := box1g w (w.heap.size) (by omega) #[.bool (neg m.num), .slice a1 n1 c1, .slice a2 n2 c2] 27
 rw [hW]
 clear hW
 have g1 := g1.past hb
 have g2 := g2.past hb
 have hB := below_later hB hb
 clear hb
 have lm : w.heap.size < w1.heap.size := by omega
 have qm0 := q 0; have qm1 := q 1; have qm2 := q 2
 simp only [lgA, lgZ, lgS] at qm0 qm1 qm2
 clear q f
 clear hz0
 with_reducible refine (rcheck05_any _ _ _ _ (digs m.num.natAbs) _ _ _ (digs m.den) _ g1 g2 (by omega) (by omega)).mono ?_
 rintro e w2 ⟨rfl, hb⟩
 have g1 := g1.past hb
 have g2 := g2.past hb
 obtain ⟨qm0, qm1, qm2, lm⟩ := bq3 hb lm qm0 qm1 qm2
 have hB := below_later hB hb
 clear hb
 rw [HC.out]
 go_wp2_with fail
 with_reducible refine (within13 (kN : Int) (sc : Int) _).mono ?_
 rintro e w3 ⟨rfl, hb⟩
 have g1 := g1.past hb
 have g2 := g2.past hb
 obtain ⟨qm0, qm1, qm2, lm⟩ := bq3 hb lm qm0 qm1 qm2
 have hB := below_later hB hb
 clear hb
 rw [HD.out]
 have hg := HG.out
 go_wp2
 clear hg
 clear hb1 hb2 hb3
 go_loopw [10, 11] (fun o i wr => ∃ (j : Nat), j ≤ kN ∧ i = .int .i64 ((j : Int) + 1) ∧ IntsRow wr w3.heap.size o (tabL (fun d => wtI (V d)) j) ∧ Below w3.heap.size w3 wr) (fun o i _ => kN + 1 - (intOf i).toNat)
 case atStart => exact ⟨0, Nat.zero_le _, rfl, IntsRow.nil _ _, Below.refl _ _⟩
 case round =>
  obtain ⟨j, hj, rfl, hO, hW⟩ := hrel
  have hB := below_later hB hW
  by_cases hlt : j < kN
  · obtain ⟨D, hD⟩ : ∃ D, j + 1 = D := ⟨_, rfl⟩
    have hDi : (j : Int) + 1 = (D : Int) := by omega
    have hd1 : 1 ≤ D := by omega
    have hd2 : D ≤ kN := by omega
    have hv := HWT.out D
    have li := idealR_len (k := kN) (d := D) hk1 hk2 hd1 (by omega)
    have ls : rlen (spikeR spN m D) ≤ 1000 := spikeR_len h1 (by omega) hd1 (by omega) LM.out (by decide)
    have hid := fun w' => rideal_any kN D w' hk1 hk2 hd1 (by omega)
    have hsh := fun w' x1 x2 => rshare_any spN D m a1 n1 c1 a2 n2 c2 w' h1 (by omega) hd1 (by omega) x1 x2
    obtain ⟨I, hI⟩ : ∃ I, idealR kN D = I := ⟨_, rfl⟩
    obtain ⟨S, hS⟩ : ∃ S, spikeR spN m D = S := ⟨_, rfl⟩
    rw [hI, hS] at hv
    rw [hI] at li
    rw [hS] at ls
    simp only [hI] at hid
    simp only [hS] at hsh
    have lb : rlen (I + S) ≤ rlen I + rlen S + 1 := sum_short I S
    obtain ⟨B, hBB⟩ : ∃ B, I + S = B := ⟨_, rfl⟩
    rw [hBB] at hv lb
    obtain ⟨Z, hZ⟩ : ∃ Z, wtI (V D) = Z := ⟨_, rfl⟩
    have hwz : wtI (rndR (B * mkRat (sc : Int) 1)) = Z := by rw [← hv, hZ]
    have HID := Lib.hid hid
    have HSH := Lib.hid hsh
    have HZ := Lib.hid hwz
    have HBB := Lib.hid hBB
    have HTS := Lib.hid (show tabL (fun d => wtI (V d)) j ++ [Z] = tabL (fun d => wtI (V d)) (j + 1) by rw [← hZ, ← hD]; exact tabL_succ (fun d => wtI (V d)) j)
    have LI := Lib.hid (show rlen I ≤ 10000 by omega)
    have LS := Lib.hid (show rlen S ≤ 10000 by omega)
    have LB := Lib.hid (show rlen B ≤ 1100 by omega)
    have HDI := Lib.hid hDi
    have hle : ((D : Int) ≤ (kN : Int)) := by omega
    have g1 := g1.past hW
    have g2 := g2.past hW
    have qm0 := bq hW lm qm0
    have qm1 := bq hW lm qm1
    have qm2 := bq hW lm qm2
    have lm := bl hW lm
    rw [hDi]
    clear hv hid hsh hI hS hZ hwz li ls lb hBB hDi hD
    go_wp2_with fail
    refine wp_region_invA (by kernel_rfl) rfl (by kernel_rfl) (fun A0 V0 dd aa ww => ∃ (blk : Nat → Nat) (y43 y44 y45 y46 y47 y48 y49 y50 y51 y42 y52 y53 y12 y13 : Value), aa = puts A0 [(43, y43), (44, y44), (45, y45), (46, y46), (47, y47), (48, y48), (49, y49), (50, y50), (51, y51), (42, y42), (52, y52), (53, y53), (12, y12), (13, y13)] ∧ Below V0.heap.size V0 ww ∧ Boxes [(12, 3)] V0.heap.size dd blk ww ∧ Shut (dd 0 = true → y43 = .int .i64 (kN : Int)) ∧ Shut (dd 1 = true → y44 = .int .i64 (D : Int)) ∧ Shut (dd 2 = true → RatV V0.heap.size (I) y45 ww) ∧ Shut (dd 3 = true → y46 = .int .i64 (D : Int)) ∧ Shut (dd 4 = true → y47 = .int .i64 (spN : Int)) ∧ Shut (dd 5 = true → y48 = .agg #[.bool (neg m.num), .slice a1 n1 c1, .slice a2 n2 c2]) ∧ Shut (dd 6 = true → RatNV (S) y49 ww) ∧ Shut (dd 7 = true → dd 8 = false → LstV V0.heap.size 2 ([y45, y49].flatMap cellsOf) y50 ww) ∧ Shut (dd 8 = true → OkV V0.heap.size (B) y51 ww) ∧ Shut (dd 9 = true → y42 = y51) ∧ Shut (dd 10 = true → y52 = part 0 y42) ∧ Shut (dd 11 = true → y53 = part 1 y42) ∧ Shut (dd 12 = true → y12 = .pointer (some ⟨blk 12, 0, none⟩)) ∧ Shut (dd 13 = true → HoldsV dd 12 10 (blk 12) y52 ww) ∧ Shut (dd 14 = true → y13 = y53) ∧ True) ?_ ?_ ?_
    · exact ⟨fun _ => 0, _, _, _, _, _, _, _, _, _, _, _, _, _, _, puts_self _ [43, 44, 45, 46, 47, 48, 49, 50, 51, 42, 52, 53, 12, 13], (Below.refl _ _).drew, Boxes.none _ _ _ _, fun h => (by cases h), fun h => (by cases h), fun h => (by cases h), fun h => (by cases h), fun h => (by cases h), fun h => (by cases h), fun h => (by cases h), fun h => (by cases h), fun h => (by cases h), fun h => (by cases h), fun h => (by cases h), fun h => (by cases h), fun h => (by cases h), fun h => (by cases h), fun h => (by cases h), trivial⟩
    · refine Steps.cons ?_ (Steps.cons ?_ (Steps.cons ?_ (Steps.cons ?_ (Steps.cons ?_ (Steps.cons ?_ (Steps.cons ?_ (Steps.cons ?_ (Steps.cons ?_ (Steps.cons ?_ (Steps.cons ?_ (Steps.cons ?_ (Steps.cons ?_ (Steps.cons ?_ (Steps.cons ?_ (Steps.nil)))))))))))))))
      · intro dd aa ww K hc hun hn hI hK
        obtain ⟨blk, y43, y44, y45, y46, y47, y48, y49, y50, y51, y42, y52, y53, y12, y13, ea, hb, hX, f0, f1, f2, f3, f4, f5, f6, f7, f8, f9, f10, f11, f12, f13, f14, _⟩ := hI
        try simp [Region.binds] at hn
        subst ea
        simp only [puts, Act.put, lsA, lsZ, lsS]
        go_simp
        refine hK.out _ _ ?_
        exact ⟨blk, .int .i64 (kN : Int), y44, y45, y46, y47, y48, y49, y50, y51, y42, y52, y53, y12, y13, by simp only [puts, Act.put, lsA, lsZ, lsS], hb, hX.same 0 rfl, fun _ => rfl, uo f1 rfl, uo f2 rfl, uo f3 rfl, uo f4 rfl, uo f5 rfl, uo f6 rfl, fun h h2 => ((f7.out (upd_of rfl h)) (upd_off h2)), uo f8 rfl, uo f9 rfl, uo f10 rfl, uo f11 rfl, uo f12 rfl, fun h => (f13.out (upd_of rfl h)).same 0, uo f14 rfl, trivial⟩
      · intro dd aa ww K hc hun hn hI hK
        obtain ⟨blk, y43, y44, y45, y46, y47, y48, y49, y50, y51, y42, y52, y53, y12, y13, ea, hb, hX, f0, f1, f2, f3, f4, f5, f6, f7, f8, f9, f10, f11, f12, f13, f14, _⟩ := hI
        try simp [Region.binds] at hn
        subst ea
        simp only [puts, Act.put, lsA, lsZ, lsS]
        go_simp
        refine hK.out _ _ ?_
        exact ⟨blk, y43, .int .i64 (D : Int), y45, y46, y47, y48, y49, y50, y51, y42, y52, y53, y12, y13, by simp only [puts, Act.put, lsA, lsZ, lsS], hb, hX.same 1 rfl, uo f0 rfl, fun _ => rfl, uo f2 rfl, uo f3 rfl, uo f4 rfl, uo f5 rfl, uo f6 rfl, fun h h2 => ((f7.out (upd_of rfl h)) (upd_off h2)), uo f8 rfl, uo f9 rfl, uo f10 rfl, uo f11 rfl, uo f12 rfl, fun h => (f13.out (upd_of rfl h)).same 1, uo f14 rfl, trivial⟩
      · intro dd aa ww K hc hun hn hI hK
        obtain ⟨blk, y43, y44, y45, y46, y47, y48, y49, y50, y51, y42, y52, y53, y12, y13, ea, hb, hX, f0, f1, f2, f3, f4, f5, f6, f7, f8, f9, f10, f11, f12, f13, f14, _⟩ := hI
        try simp [Region.binds] at hn
        have ex := f0.out (by first | (simp [hn]; done) | exact rc hc hn | exact rc hc hn.1 | exact rc hc hn.2 | exact rc hc hn.2.1 | exact rc hc hn.2.2 | exact rc hc hn.2.2.1 | exact rc hc hn.2.2.2)
        subst ex
        have ex := f1.out (by first | (simp [hn]; done) | exact rc hc hn | exact rc hc hn.1 | exact rc hc hn.2 | exact rc hc hn.2.1 | exact rc hc hn.2.2 | exact rc hc hn.2.2.1 | exact rc hc hn.2.2.2)
        subst ex
        subst ea
        simp only [puts, Act.put, lsA, lsZ, lsS]
        go_simp
        with_reducible refine (HID.out _).mono ?_
        rintro e w1 ⟨ahIU, nhIU, chIU, ahID, nhID, chID, rfl, hIU, hID, h1⟩
        refine hK.out _ _ ?_
        exact ⟨blk, .int .i64 (kN : Int), .int .i64 (D : Int), .agg #[.bool (neg (I).num), .slice ahIU nhIU chIU, .slice ahID nhID chID], y46, y47, y48, y49, y50, y51, y42, y52, y53, y12, y13, by simp only [puts, Act.put, lsA, lsZ, lsS], below_later hb h1, hX.past h1 2 rfl, fun h => rfl, fun h => rfl, fun _ => ⟨_, _, _, _, _, _, rfl, hIU.mono hb.size, hID.mono hb.size⟩, uo f3 rfl, uo f4 rfl, uo f5 rfl, fun h => (f6.out (upd_of rfl h)).past h1, fun h => absurd (hc.reach (f := 8) (s := 7) (l := 2) (by kernel_rfl) (upd_of rfl h)) (by rw [hun]; decide), fun h => (f8.out (upd_of rfl h)).past h1, uo f9 rfl, uo f10 rfl, uo f11 rfl, uo f12 rfl, fun h => (f13.out (upd_of rfl h)).past h1 2, uo f14 rfl, trivial⟩
      · intro dd aa ww K hc hun hn hI hK
        obtain ⟨blk, y43, y44, y45, y46, y47, y48, y49, y50, y51, y42, y52, y53, y12, y13, ea, hb, hX, f0, f1, f2, f3, f4, f5, f6, f7, f8, f9, f10, f11, f12, f13, f14, _⟩ := hI
        try simp [Region.binds] at hn
        subst ea
        simp only [puts, Act.put, lsA, lsZ, lsS]
        go_simp
        refine hK.out _ _ ?_
        exact ⟨blk, y43, y44, y45, .int .i64 (D : Int), y47, y48, y49, y50, y51, y42, y52, y53, y12, y13, by simp only [puts, Act.put, lsA, lsZ, lsS], hb, hX.same 3 rfl, uo f0 rfl, uo f1 rfl, uo f2 rfl, fun _ => rfl, uo f4 rfl, uo f5 rfl, uo f6 rfl, fun h h2 => ((f7.out (upd_of rfl h)) (upd_off h2)), uo f8 rfl, uo f9 rfl, uo f10 rfl, uo f11 rfl, uo f12 rfl, fun h => (f13.out (upd_of rfl h)).same 3, uo f14 rfl, trivial⟩
      · intro dd aa ww K hc hun hn hI hK
        obtain ⟨blk, y43, y44, y45, y46, y47, y48, y49, y50, y51, y42, y52, y53, y12, y13, ea, hb, hX, f0, f1, f2, f3, f4, f5, f6, f7, f8, f9, f10, f11, f12, f13, f14, _⟩ := hI
        try simp [Region.binds] at hn
        subst ea
        simp only [puts, Act.put, lsA, lsZ, lsS]
        go_simp
        refine hK.out _ _ ?_
        exact ⟨blk, y43, y44, y45, y46, .int .i64 (spN : Int), y48, y49, y50, y51, y42, y52, y53, y12, y13, by simp only [puts, Act.put, lsA, lsZ, lsS], hb, hX.same 4 rfl, uo f0 rfl, uo f1 rfl, uo f2 rfl, uo f3 rfl, fun _ => rfl, uo f5 rfl, uo f6 rfl, fun h h2 => ((f7.out (upd_of rfl h)) (upd_off h2)), uo f8 rfl, uo f9 rfl, uo f10 rfl, uo f11 rfl, uo f12 rfl, fun h => (f13.out (upd_of rfl h)).same 4, uo f14 rfl, trivial⟩
      · intro dd aa ww K hc hun hn hI hK
        obtain ⟨blk, y43, y44, y45, y46, y47, y48, y49, y50, y51, y42, y52, y53, y12, y13, ea, hb, hX, f0, f1, f2, f3, f4, f5, f6, f7, f8, f9, f10, f11, f12, f13, f14, _⟩ := hI
        try simp [Region.binds] at hn
        have e0 := (hb.cell (p := ⟨w.heap.size, 0, none⟩) lm).trans qm0
        have e1 := (hb.cell (p := ⟨w.heap.size, 1, none⟩) lm).trans qm1
        have e2 := (hb.cell (p := ⟨w.heap.size, 2, none⟩) lm).trans qm2
        subst ea
        simp only [puts, Act.put, lsA, lsZ, lsS]
        go_simp
        refine hK.out _ _ ?_
        exact ⟨blk, y43, y44, y45, y46, y47, .agg #[.bool (neg m.num), .slice a1 n1 c1, .slice a2 n2 c2], y49, y50, y51, y42, y52, y53, y12, y13, by simp only [puts, Act.put, lsA, lsZ, lsS], hb, hX.same 5 rfl, uo f0 rfl, uo f1 rfl, uo f2 rfl, uo f3 rfl, uo f4 rfl, fun _ => rfl, uo f6 rfl, fun h h2 => ((f7.out (upd_of rfl h)) (upd_off h2)), uo f8 rfl, uo f9 rfl, uo f10 rfl, uo f11 rfl, uo f12 rfl, fun h => (f13.out (upd_of rfl h)).same 5, uo f14 rfl, trivial⟩
      · intro dd aa ww K hc hun hn hI hK
        obtain ⟨blk, y43, y44, y45, y46, y47, y48, y49, y50, y51, y42, y52, y53, y12, y13, ea, hb, hX, f0, f1, f2, f3, f4, f5, f6, f7, f8, f9, f10, f11, f12, f13, f14, _⟩ := hI
        try simp [Region.binds] at hn
        have ex := f3.out (by first | (simp [hn]; done) | exact rc hc hn | exact rc hc hn.1 | exact rc hc hn.2 | exact rc hc hn.2.1 | exact rc hc hn.2.2 | exact rc hc hn.2.2.1 | exact rc hc hn.2.2.2)
        subst ex
        have ex := f4.out (by first | (simp [hn]; done) | exact rc hc hn | exact rc hc hn.1 | exact rc hc hn.2 | exact rc hc hn.2.1 | exact rc hc hn.2.2 | exact rc hc hn.2.2.1 | exact rc hc hn.2.2.2)
        subst ex
        have ex := f5.out (by first | (simp [hn]; done) | exact rc hc hn | exact rc hc hn.1 | exact rc hc hn.2 | exact rc hc hn.2.1 | exact rc hc hn.2.2 | exact rc hc hn.2.2.1 | exact rc hc hn.2.2.2)
        subst ex
        subst ea
        simp only [puts, Act.put, lsA, lsZ, lsS]
        go_simp
        with_reducible refine (HSH.out _ (g1.past hb) (g2.past hb)).mono ?_
        rintro e w1 ⟨ahSU, nhSU, chSU, ahSD, nhSD, chSD, rfl, hSU, hSD, h1⟩
        refine hK.out _ _ ?_
        exact ⟨blk, y43, y44, y45, .int .i64 (D : Int), .int .i64 (spN : Int), .agg #[.bool (neg m.num), .slice a1 n1 c1, .slice a2 n2 c2], .agg #[.bool (neg (S).num), .slice ahSU nhSU chSU, .slice ahSD nhSD chSD], y50, y51, y42, y52, y53, y12, y13, by simp only [puts, Act.put, lsA, lsZ, lsS], below_later hb h1, hX.past h1 6 rfl, uo f0 rfl, uo f1 rfl, fun h => (f2.out (upd_of rfl h)).past h1, fun h => rfl, fun h => rfl, fun h => rfl, fun _ => ⟨_, _, _, _, _, _, rfl, hSU, hSD⟩, fun h => absurd (hc.reach (f := 8) (s := 7) (l := 6) (by kernel_rfl) (upd_of rfl h)) (by rw [hun]; decide), fun h => (f8.out (upd_of rfl h)).past h1, uo f9 rfl, uo f10 rfl, uo f11 rfl, uo f12 rfl, fun h => (f13.out (upd_of rfl h)).past h1 6, uo f14 rfl, trivial⟩
      · intro dd aa ww K hc hun hn hI hK
        obtain ⟨blk, y43, y44, y45, y46, y47, y48, y49, y50, y51, y42, y52, y53, y12, y13, ea, hb, hX, f0, f1, f2, f3, f4, f5, f6, f7, f8, f9, f10, f11, f12, f13, f14, _⟩ := hI
        try simp [Region.binds] at hn
        obtain ⟨ahIU, nhIU, chIU, ahID, nhID, chID, ex, hIU, hID⟩ := f2.out (by first | (simp [hn]; done) | exact rc hc hn | exact rc hc hn.1 | exact rc hc hn.2 | exact rc hc hn.2.1 | exact rc hc hn.2.2 | exact rc hc hn.2.2.1 | exact rc hc hn.2.2.2)
        subst ex
        obtain ⟨ahSU, nhSU, chSU, ahSD, nhSD, chSD, ex, hSU, hSD⟩ := f6.out (by first | (simp [hn]; done) | exact rc hc hn | exact rc hc hn.1 | exact rc hc hn.2 | exact rc hc hn.2.1 | exact rc hc hn.2.2 | exact rc hc hn.2.2.1 | exact rc hc hn.2.2.2)
        subst ex
        subst ea
        simp only [puts, Act.put, lsA, lsZ, lsS]
        go_simp
        refine hK.out _ _ ?_
        exact ⟨blk, y43, y44, .agg #[.bool (neg (I).num), .slice ahIU nhIU chIU, .slice ahID nhID chID], y46, y47, y48, .agg #[.bool (neg (S).num), .slice ahSU nhSU chSU, .slice ahSD nhSD chSD], .slice (some ⟨ww.heap.size, 0, none⟩) 2 2, y51, y42, y52, y53, y12, y13, by simp only [puts, Act.put, lsA, lsZ, lsS], below_alloc hb _, hX.past ((Below.refl _ _).alloc (Nat.le_refl _) _) 7 rfl, uo f0 rfl, uo f1 rfl, fun h => (f2.out (upd_of rfl h)).past ((Below.refl _ _).alloc (Nat.le_refl _) _), uo f3 rfl, uo f4 rfl, uo f5 rfl, fun h => (f6.out (upd_of rfl h)).past ((Below.refl _ _).alloc (Nat.le_refl _) _), fun _ _ => LstV.new hb.size _ _, fun h => (f8.out (upd_of rfl h)).past ((Below.refl _ _).alloc (Nat.le_refl _) _), uo f9 rfl, uo f10 rfl, uo f11 rfl, uo f12 rfl, fun h => (f13.out (upd_of rfl h)).past ((Below.refl _ _).alloc (Nat.le_refl _) _) 7, uo f14 rfl, trivial⟩
      · intro dd aa ww K hc hun hn hI hK
        obtain ⟨blk, y43, y44, y45, y46, y47, y48, y49, y50, y51, y42, y52, y53, y12, y13, ea, hb, hX, f0, f1, f2, f3, f4, f5, f6, f7, f8, f9, f10, f11, f12, f13, f14, _⟩ := hI
        try simp [Region.binds] at hn
        obtain ⟨ahIU, nhIU, chIU, ahID, nhID, chID, ex, hIU, hID⟩ := f2.out (by first | (simp [hn]; done) | exact rc hc hn | exact rc hc hn.1 | exact rc hc hn.2 | exact rc hc hn.2.1 | exact rc hc hn.2.2 | exact rc hc hn.2.2.1 | exact rc hc hn.2.2.2)
        subst ex
        obtain ⟨ahSU, nhSU, chSU, ahSD, nhSD, chSD, ex, hSU, hSD⟩ := f6.out (by first | (simp [hn]; done) | exact rc hc hn | exact rc hc hn.1 | exact rc hc hn.2 | exact rc hc hn.2.1 | exact rc hc hn.2.2 | exact rc hc hn.2.2.1 | exact rc hc hn.2.2.2)
        subst ex
        obtain ⟨G7, ex, hg1, hg2, hg3⟩ := f7.out (by first | (simp [hn]; done) | exact rc hc hn | exact rc hc hn.1 | exact rc hc hn.2 | exact rc hc hn.2.1 | exact rc hc hn.2.2 | exact rc hc hn.2.2.1 | exact rc hc hn.2.2.2) hun
        subst ex
        have z0 := hg3 0 (by simp [cellsOf])
        have z1 := hg3 1 (by simp [cellsOf])
        have z2 := hg3 2 (by simp [cellsOf])
        have z3 := hg3 3 (by simp [cellsOf])
        have z4 := hg3 4 (by simp [cellsOf])
        have z5 := hg3 5 (by simp [cellsOf])
        simp only [List.flatMap_cons, List.flatMap_nil, cellsOf, List.cons_append, List.nil_append, List.append_nil, lgZ, lgS] at z0 z1 z2 z3 z4 z5
        subst ea
        simp only [puts, Act.put, lsA, lsZ, lsS]
        go_simp
        with_reducible refine (radd_two (RatsAt.two hg2 z0 z1 z2 z3 z4 z5 hIU.toNatAt hID.toNatAt hSU hSD) LI.out LS.out).mono ?_
        rintro e w1 ⟨ahAU, nhAU, chAU, ahAD, nhAD, chAD, rfl, hAU, hAD, h1⟩
        rw [HBB.out] at hAU hAD ⊢
        refine hK.out _ _ ?_
        exact ⟨blk, y43, y44, .agg #[.bool (neg (I).num), .slice ahIU nhIU chIU, .slice ahID nhID chID], y46, y47, y48, .agg #[.bool (neg (S).num), .slice ahSU nhSU chSU, .slice ahSD nhSD chSD], .slice (some ⟨G7, 0, none⟩) 2 2, .tuple #[.agg #[.bool (neg (B).num), .slice ahAU nhAU chAU, .slice ahAD nhAD chAD], .int .i64 0], y42, y52, y53, y12, y13, by simp only [puts, Act.put, lsA, lsZ, lsS], below_later hb h1, hX.past h1 8 rfl, uo f0 rfl, uo f1 rfl, fun h => (f2.out (upd_of rfl h)).past h1, uo f3 rfl, uo f4 rfl, uo f5 rfl, fun h => (f6.out (upd_of rfl h)).past h1, fun _ h2 => absurd h2 (by simp [upd]), fun _ => ⟨_, _, _, _, _, _, rfl, hAU.mono hb.size, hAD.mono hb.size⟩, fun h => absurd (hc.reach (f := 8) (s := 9) (l := 8) (by kernel_rfl) (upd_of rfl h)) (by rw [hun]; decide), uo f10 rfl, uo f11 rfl, uo f12 rfl, fun h => (f13.out (upd_of rfl h)).past h1 8, uo f14 rfl, trivial⟩
      · intro dd aa ww K hc hun hn hI hK
        obtain ⟨blk, y43, y44, y45, y46, y47, y48, y49, y50, y51, y42, y52, y53, y12, y13, ea, hb, hX, f0, f1, f2, f3, f4, f5, f6, f7, f8, f9, f10, f11, f12, f13, f14, _⟩ := hI
        try simp [Region.binds] at hn
        obtain ⟨ahAU, nhAU, chAU, ahAD, nhAD, chAD, ex, hAU, hAD⟩ := f8.out (by first | (simp [hn]; done) | exact rc hc hn | exact rc hc hn.1 | exact rc hc hn.2 | exact rc hc hn.2.1 | exact rc hc hn.2.2 | exact rc hc hn.2.2.1 | exact rc hc hn.2.2.2)
        subst ex
        subst ea
        simp only [puts, Act.put, lsA, lsZ, lsS]
        go_simp
        refine hK.out _ _ ?_
        exact ⟨blk, y43, y44, y45, y46, y47, y48, y49, y50, .tuple #[.agg #[.bool (neg (B).num), .slice ahAU nhAU chAU, .slice ahAD nhAD chAD], .int .i64 0], .tuple #[.agg #[.bool (neg (B).num), .slice ahAU nhAU chAU, .slice ahAD nhAD chAD], .int .i64 0], y52, y53, y12, y13, by simp only [puts, Act.put, lsA, lsZ, lsS], hb, hX.same 9 rfl, uo f0 rfl, uo f1 rfl, uo f2 rfl, uo f3 rfl, uo f4 rfl, uo f5 rfl, uo f6 rfl, fun _ h2 => absurd (show dd 8 = true from (by first | (simp [hn]; done) | exact rc hc hn | exact rc hc hn.1 | exact rc hc hn.2 | exact rc hc hn.2.1 | exact rc hc hn.2.2 | exact rc hc hn.2.2.1 | exact rc hc hn.2.2.2)) (by rw [upd_off h2]; decide), uo f8 rfl, fun _ => rfl, fun h => absurd (hc.reach (f := 8) (s := 10) (l := 9) (by kernel_rfl) (upd_of rfl h)) (by rw [hun]; decide), fun h => absurd (hc.reach (f := 8) (s := 11) (l := 9) (by kernel_rfl) (upd_of rfl h)) (by rw [hun]; decide), uo f12 rfl, fun h => (f13.out (upd_of rfl h)).same 9, uo f14 rfl, trivial⟩
      · intro dd aa ww K hc hun hn hI hK
        obtain ⟨blk, y43, y44, y45, y46, y47, y48, y49, y50, y51, y42, y52, y53, y12, y13, ea, hb, hX, f0, f1, f2, f3, f4, f5, f6, f7, f8, f9, f10, f11, f12, f13, f14, _⟩ := hI
        try simp [Region.binds] at hn
        obtain ⟨ahAU, nhAU, chAU, ahAD, nhAD, chAD, ex, hAU, hAD⟩ := f8.out (by first | (simp [hn]; done) | exact rc hc hn | exact rc hc hn.1 | exact rc hc hn.2 | exact rc hc hn.2.1 | exact rc hc hn.2.2 | exact rc hc hn.2.2.1 | exact rc hc hn.2.2.2)
        subst ex
        have ex : y42 = .tuple #[.agg #[.bool (neg (B).num), .slice ahAU nhAU chAU, .slice ahAD nhAD chAD], .int .i64 0] := f9.out (by first | (simp [hn]; done) | exact rc hc hn | exact rc hc hn.1 | exact rc hc hn.2 | exact rc hc hn.2.1 | exact rc hc hn.2.2 | exact rc hc hn.2.2.1 | exact rc hc hn.2.2.2)
        subst ex
        subst ea
        simp only [puts, Act.put, lsA, lsZ, lsS]
        go_simp
        refine hK.out _ _ ?_
        exact ⟨blk, y43, y44, y45, y46, y47, y48, y49, y50, .tuple #[.agg #[.bool (neg (B).num), .slice ahAU nhAU chAU, .slice ahAD nhAD chAD], .int .i64 0], .tuple #[.agg #[.bool (neg (B).num), .slice ahAU nhAU chAU, .slice ahAD nhAD chAD], .int .i64 0], .agg #[.bool (neg (B).num), .slice ahAU nhAU chAU, .slice ahAD nhAD chAD], y53, y12, y13, by simp only [puts, Act.put, lsA, lsZ, lsS], hb, hX.same 10 rfl, uo f0 rfl, uo f1 rfl, uo f2 rfl, uo f3 rfl, uo f4 rfl, uo f5 rfl, uo f6 rfl, fun _ h2 => absurd (show dd 8 = true from (by first | (simp [hn]; done) | exact rc hc hn | exact rc hc hn.1 | exact rc hc hn.2 | exact rc hc hn.2.1 | exact rc hc hn.2.2 | exact rc hc hn.2.2.1 | exact rc hc hn.2.2.2)) (by rw [upd_off h2]; decide), uo f8 rfl, fun h => rfl, fun _ => rfl, uo f11 rfl, uo f12 rfl, fun h => absurd (HoldsV.vp (f13.out (upd_of rfl h))) (by rw [hun]; decide), uo f14 rfl, trivial⟩
      · intro dd aa ww K hc hun hn hI hK
        obtain ⟨blk, y43, y44, y45, y46, y47, y48, y49, y50, y51, y42, y52, y53, y12, y13, ea, hb, hX, f0, f1, f2, f3, f4, f5, f6, f7, f8, f9, f10, f11, f12, f13, f14, _⟩ := hI
        try simp [Region.binds] at hn
        obtain ⟨ahAU, nhAU, chAU, ahAD, nhAD, chAD, ex, hAU, hAD⟩ := f8.out (by first | (simp [hn]; done) | exact rc hc hn | exact rc hc hn.1 | exact rc hc hn.2 | exact rc hc hn.2.1 | exact rc hc hn.2.2 | exact rc hc hn.2.2.1 | exact rc hc hn.2.2.2)
        subst ex
        have ex : y42 = .tuple #[.agg #[.bool (neg (B).num), .slice ahAU nhAU chAU, .slice ahAD nhAD chAD], .int .i64 0] := f9.out (by first | (simp [hn]; done) | exact rc hc hn | exact rc hc hn.1 | exact rc hc hn.2 | exact rc hc hn.2.1 | exact rc hc hn.2.2 | exact rc hc hn.2.2.1 | exact rc hc hn.2.2.2)
        subst ex
        subst ea
        simp only [puts, Act.put, lsA, lsZ, lsS]
        go_simp
        refine hK.out _ _ ?_
        exact ⟨blk, y43, y44, y45, y46, y47, y48, y49, y50, .tuple #[.agg #[.bool (neg (B).num), .slice ahAU nhAU chAU, .slice ahAD nhAD chAD], .int .i64 0], .tuple #[.agg #[.bool (neg (B).num), .slice ahAU nhAU chAU, .slice ahAD nhAD chAD], .int .i64 0], y52, .int .i64 0, y12, y13, by simp only [puts, Act.put, lsA, lsZ, lsS], hb, hX.same 11 rfl, uo f0 rfl, uo f1 rfl, uo f2 rfl, uo f3 rfl, uo f4 rfl, uo f5 rfl, uo f6 rfl, fun _ h2 => absurd (show dd 8 = true from (by first | (simp [hn]; done) | exact rc hc hn | exact rc hc hn.1 | exact rc hc hn.2 | exact rc hc hn.2.1 | exact rc hc hn.2.2 | exact rc hc hn.2.2.1 | exact rc hc hn.2.2.2)) (by rw [upd_off h2]; decide), uo f8 rfl, fun h => rfl, uo f10 rfl, fun _ => rfl, uo f12 rfl, fun h => (f13.out (upd_of rfl h)).same 11, fun h => absurd (hc.reach (f := 8) (s := 14) (l := 11) (by kernel_rfl) (upd_of rfl h)) (by rw [hun]; decide), trivial⟩
      · intro dd aa ww K hc hun hn hI hK
        obtain ⟨blk, y43, y44, y45, y46, y47, y48, y49, y50, y51, y42, y52, y53, y12, y13, ea, hb, hX, f0, f1, f2, f3, f4, f5, f6, f7, f8, f9, f10, f11, f12, f13, f14, _⟩ := hI
        try simp [Region.binds] at hn
        subst ea
        simp only [puts, Act.put, lsA, lsZ, lsS]
        go_simp
        refine hK.out _ _ ?_
        exact ⟨setB blk 12 ww.heap.size, y43, y44, y45, y46, y47, y48, y49, y50, y51, y42, y52, y53, .pointer (some ⟨ww.heap.size, 0, none⟩), y13, by simp only [puts, Act.put, lsA, lsZ, lsS], below_alloc hb _, hX.new hb.size 12 #[.bool false, .slice none 0 0, .slice none 0 0] _ rfl (by simp [notU_bool, notU_slice, notU_i64]), uo f0 rfl, uo f1 rfl, fun h => (f2.out (upd_of rfl h)).past ((Below.refl _ _).alloc (Nat.le_refl _) _), uo f3 rfl, uo f4 rfl, uo f5 rfl, fun h => (f6.out (upd_of rfl h)).past ((Below.refl _ _).alloc (Nat.le_refl _) _), fun h h2 => ((f7.out (upd_of rfl h)) (upd_off h2)).past ((Below.refl _ _).alloc (Nat.le_refl _) _), fun h => (f8.out (upd_of rfl h)).past ((Below.refl _ _).alloc (Nat.le_refl _) _), uo f9 rfl, uo f10 rfl, uo f11 rfl, fun _ => rfl, fun h => absurd (HoldsV.up (f13.out (upd_of rfl h))) (by rw [hun]; decide), uo f14 rfl, trivial⟩
      · intro dd aa ww K hc hun hn hI hK
        obtain ⟨blk, y43, y44, y45, y46, y47, y48, y49, y50, y51, y42, y52, y53, y12, y13, ea, hb, hX, f0, f1, f2, f3, f4, f5, f6, f7, f8, f9, f10, f11, f12, f13, f14, _⟩ := hI
        try simp [Region.binds] at hn
        have ex := f12.out (by first | (simp [hn]; done) | exact rc hc hn | exact rc hc hn.1 | exact rc hc hn.2 | exact rc hc hn.2.1 | exact rc hc hn.2.2 | exact rc hc hn.2.2.1 | exact rc hc hn.2.2.2)
        subst ex
        obtain ⟨ahAU, nhAU, chAU, ahAD, nhAD, chAD, ex, hAU, hAD⟩ := f8.out (by first | (simp [hn]; done) | exact rc hc hn | exact rc hc hn.1 | exact rc hc hn.2 | exact rc hc hn.2.1 | exact rc hc hn.2.2 | exact rc hc hn.2.2.1 | exact rc hc hn.2.2.2)
        subst ex
        have ex : y42 = .tuple #[.agg #[.bool (neg (B).num), .slice ahAU nhAU chAU, .slice ahAD nhAD chAD], .int .i64 0] := f9.out (by first | (simp [hn]; done) | exact rc hc hn | exact rc hc hn.1 | exact rc hc hn.2 | exact rc hc hn.2.1 | exact rc hc hn.2.2 | exact rc hc hn.2.2.1 | exact rc hc hn.2.2.2)
        subst ex
        have ex : y52 = .agg #[.bool (neg (B).num), .slice ahAU nhAU chAU, .slice ahAD nhAD chAD] := f10.out (by first | (simp [hn]; done) | exact rc hc hn | exact rc hc hn.1 | exact rc hc hn.2 | exact rc hc hn.2.1 | exact rc hc hn.2.2 | exact rc hc hn.2.2.1 | exact rc hc hn.2.2.2)
        subst ex
        have hd12 : dd 12 = true := by simp [hn]
        have hv10 : dd 10 = true := by simp [hn]
        obtain ⟨x1, x2, x3⟩ := hX.at_ (12, 3) (by simp) hd12
        obtain ⟨v0, v1, v2, z0, z1, z2, z3, z4, z5, _, _, _⟩ := x3.three
        have hv : ∀ v ∈ ([.bool (neg (B).num), .slice ahAU nhAU chAU, .slice ahAD nhAD chAD] : List Value), notU v := by simp [notU_bool, notU_slice, notU_i64]
        subst ea
        simp only [puts, Act.put, lsA, lsZ, lsS]
        go_simp
        refine hK.out _ _ ?_
        exact ⟨blk, y43, y44, y45, y46, y47, y48, y49, y50, .tuple #[.agg #[.bool (neg (B).num), .slice ahAU nhAU chAU, .slice ahAD nhAD chAD], .int .i64 0], .tuple #[.agg #[.bool (neg (B).num), .slice ahAU nhAU chAU, .slice ahAD nhAD chAD], .int .i64 0], .agg #[.bool (neg (B).num), .slice ahAU nhAU chAU, .slice ahAD nhAD chAD], y53, .pointer (some ⟨blk 12, 0, none⟩), y13, by simp only [puts, Act.put, lsA, lsZ, lsS], hb.trans (below_setCells _ _ x1 [.bool (neg (B).num), .slice ahAU nhAU chAU, .slice ahAD nhAD chAD] 0 _), (hX.sets [.bool (neg (B).num), .slice ahAU nhAU chAU, .slice ahAD nhAD chAD] _ 0 _ hv).same 13 rfl, uo f0 rfl, uo f1 rfl, fun h => ((f2.out (upd_of rfl h)).sets [.bool (neg (B).num), .slice ahAU nhAU chAU, .slice ahAD nhAD chAD] x3 (by simp) hv), uo f3 rfl, uo f4 rfl, uo f5 rfl, fun h => (f6.out (upd_of rfl h)).sets [.bool (neg (B).num), .slice ahAU nhAU chAU, .slice ahAD nhAD chAD] x3 (by simp) hv, fun _ h2 => absurd (show dd 8 = true from (by first | (simp [hn]; done) | exact rc hc hn | exact rc hc hn.1 | exact rc hc hn.2 | exact rc hc hn.2.1 | exact rc hc hn.2.2 | exact rc hc hn.2.2.1 | exact rc hc hn.2.2.2)) (by rw [upd_off h2]; decide), fun h => ((f8.out (upd_of rfl h)).sets [.bool (neg (B).num), .slice ahAU nhAU chAU, .slice ahAD nhAD chAD] x3 (by simp) hv), fun h => rfl, fun h => rfl, uo f11 rfl, fun h => rfl, fun _ => (HoldsV.new hd12 hv10 x2 x3 [.bool (neg (B).num), .slice ahAU nhAU chAU, .slice ahAD nhAD chAD] (by simp)).same 13, uo f14 rfl, trivial⟩
      · intro dd aa ww K hc hun hn hI hK
        obtain ⟨blk, y43, y44, y45, y46, y47, y48, y49, y50, y51, y42, y52, y53, y12, y13, ea, hb, hX, f0, f1, f2, f3, f4, f5, f6, f7, f8, f9, f10, f11, f12, f13, f14, _⟩ := hI
        try simp [Region.binds] at hn
        obtain ⟨ahAU, nhAU, chAU, ahAD, nhAD, chAD, ex, hAU, hAD⟩ := f8.out (by first | (simp [hn]; done) | exact rc hc hn | exact rc hc hn.1 | exact rc hc hn.2 | exact rc hc hn.2.1 | exact rc hc hn.2.2 | exact rc hc hn.2.2.1 | exact rc hc hn.2.2.2)
        subst ex
        have ex : y42 = .tuple #[.agg #[.bool (neg (B).num), .slice ahAU nhAU chAU, .slice ahAD nhAD chAD], .int .i64 0] := f9.out (by first | (simp [hn]; done) | exact rc hc hn | exact rc hc hn.1 | exact rc hc hn.2 | exact rc hc hn.2.1 | exact rc hc hn.2.2 | exact rc hc hn.2.2.1 | exact rc hc hn.2.2.2)
        subst ex
        have ex : y53 = .int .i64 0 := f11.out (by first | (simp [hn]; done) | exact rc hc hn | exact rc hc hn.1 | exact rc hc hn.2 | exact rc hc hn.2.1 | exact rc hc hn.2.2 | exact rc hc hn.2.2.1 | exact rc hc hn.2.2.2)
        subst ex
        subst ea
        simp only [puts, Act.put, lsA, lsZ, lsS]
        go_simp
        refine hK.out _ _ ?_
        exact ⟨blk, y43, y44, y45, y46, y47, y48, y49, y50, .tuple #[.agg #[.bool (neg (B).num), .slice ahAU nhAU chAU, .slice ahAD nhAD chAD], .int .i64 0], .tuple #[.agg #[.bool (neg (B).num), .slice ahAU nhAU chAU, .slice ahAD nhAD chAD], .int .i64 0], y52, .int .i64 0, y12, .int .i64 0, by simp only [puts, Act.put, lsA, lsZ, lsS], hb, hX.same 14 rfl, uo f0 rfl, uo f1 rfl, uo f2 rfl, uo f3 rfl, uo f4 rfl, uo f5 rfl, uo f6 rfl, fun _ h2 => absurd (show dd 8 = true from (by first | (simp [hn]; done) | exact rc hc hn | exact rc hc hn.1 | exact rc hc hn.2 | exact rc hc hn.2.1 | exact rc hc hn.2.2 | exact rc hc hn.2.2.1 | exact rc hc hn.2.2.2)) (by rw [upd_off h2]; decide), uo f8 rfl, fun h => rfl, uo f10 rfl, fun h => rfl, uo f12 rfl, fun h => (f13.out (upd_of rfl h)).same 14, fun _ => rfl, trivial⟩
    intro dd aa w1 hd hI
    obtain ⟨blk, y43, y44, y45, y46, y47, y48, y49, y50, y51, y42, y52, y53, y12, y13, ea, hb, hX, f0, f1, f2, f3, f4, f5, f6, f7, f8, f9, f10, f11, f12, f13, f14, _⟩ := hI
    have ex := f0.out (hd 0 (by simp))
    subst ex
    have ex := f1.out (hd 1 (by simp))
    subst ex
    obtain ⟨ahIU, nhIU, chIU, ahID, nhID, chID, ex, hIU, hID⟩ := f2.out (hd 2 (by simp))
    subst ex
    have ex := f3.out (hd 3 (by simp))
    subst ex
    have ex := f4.out (hd 4 (by simp))
    subst ex
    have ex := f5.out (hd 5 (by simp))
    subst ex
    obtain ⟨ahSU, nhSU, chSU, ahSD, nhSD, chSD, ex, hSU, hSD⟩ := f6.out (hd 6 (by simp))
    subst ex
    obtain ⟨ahAU, nhAU, chAU, ahAD, nhAD, chAD, ex, hAU, hAD⟩ := f8.out (hd 8 (by simp))
    subst ex
    have ex : y42 = .tuple #[.agg #[.bool (neg (B).num), .slice ahAU nhAU chAU, .slice ahAD nhAD chAD], .int .i64 0] := f9.out (hd 9 (by simp))
    subst ex
    have ex : y52 = .agg #[.bool (neg (B).num), .slice ahAU nhAU chAU, .slice ahAD nhAD chAD] := f10.out (hd 10 (by simp))
    subst ex
    have ex : y53 = .int .i64 0 := f11.out (hd 11 (by simp))
    subst ex
    have ex := f12.out (hd 12 (by simp))
    subst ex
    obtain ⟨vs13, e, h13⟩ := f13.out (hd 13 (by simp))
    cases e
    have ex : y13 = .int .i64 0 := f14.out (hd 14 (by simp))
    subst ex
    have lboth := h13.lt
    have qboth0 := h13.at_ 0 (by simp)
    simp only [lgZ, lgS] at qboth0
    have qboth1 := h13.at_ 1 (by simp)
    simp only [lgZ, lgS] at qboth1
    have qboth2 := h13.at_ 2 (by simp)
    simp only [lgZ, lgS] at qboth2
    generalize blk 12 = Bboth at *
    subst ea
    simp only [puts, Act.put, lsA, lsZ, lsS]
    have hO := hO.past hb
    have g1 := g1.past hb
    have g2 := g2.past hb
    obtain ⟨qm0, qm1, qm2, lm⟩ := bq3 hb lm qm0 qm1 qm2
    have hB := below_later hB hb
    have hW := below_later hW hb
    clear hX
    clear hb hd
    go_wp2_with fail
    with_reducible refine (rweight13 sc hAU.toNatAt hAD.toNatAt LB.out hs2).mono ?_
    rintro e w2 ⟨rfl, hb⟩
    have hO := hO.past hb
    have hAU := hAU.past hb
    have hAD := hAD.past hb
    obtain ⟨qboth0, qboth1, qboth2, lboth⟩ := bq3 hb lboth qboth0 qboth1 qboth2
    have hB := below_later hB hb
    have hW := below_later hW hb
    clear hb
    rw [HZ.out]
    have hal : Below w2.heap.size w2 (w2.alloc (.cells #[.int .i64 Z] 3)) := (Below.refl _ _).alloc (Nat.le_refl _) _
    have hr2 := hO.past hal
    have z0 : (w2.alloc (.cells #[.int .i64 Z] 3)).cell? ⟨w2.heap.size, 0, none⟩ = some (.int .i64 Z) := by rw [World.cell?_alloc_at _ _ _ _ rfl]; rfl
    have hB2 := below_later hW hal
    have hsz2 := hB2.size
    have hln : (tabL (fun d => wtI (V d)) j).length ≤ 1000000 := by rw [tabL_len]; omega
    go_wp2_with (at_builtin; go_loud (refine wpList_push_int rfl _ _ rfl w3.heap.size _ _ rfl hr2 w2.heap.size rfl Z z0 hln hsz2 ?_; intro v8 w8 hr8 hb8))
    rw [HTS.out] at hr8
    go_roundw
    case rel => exact ⟨j + 1, by omega, by have := HDI.out; go_num, hr8, hB2.trans hb8⟩
    case measure => have := HDI.out; simp [intOf]; omega
  · obtain rfl : j = kN := by omega
    obtain ⟨a, c, rfl, hA⟩ := hO.at_ (fun z hz => by obtain ⟨i, _, rfl⟩ := List.mem_map.1 hz; exact wtI_in _)
    rw [tabL_len] at hA
    have hnl : ¬ ((j : Int) + 1 ≤ (j : Int)) := by omega
    simp only [tabL_len]
    go_wp2_with fail
    with_reducible refine (told13_any a j c V j _ hA).mono ?_
    rw [← HT.out]
    rintro e w9 ⟨a9, n9, c9, rfl, h1, hb⟩
    have hB := below_later hB hb
    go_wp2
    go_ret2
    exact ⟨_, _, _, rfl, h1, hB⟩
theorem rrobust13 (k s sp : Int) (m : Rat) (a1 : Option Addr) (n1 c1 : Nat) (a2 : Option Addr) (n2 c2 : Nat) (w : World) (g1 : NatAt w a1 n1 c1 (digs m.num.natAbs)) (g2 : NatAt w a2 n2 c2 (digs m.den)) (hl : rlen m ≤ 1000) : Calls Tryz.prog 13 #[.int .i64 k, .int .i64 s, .int .i64 sp, .agg #[.bool (neg m.num), .slice a1 n1 c1, .slice a2 n2 c2]] w (RetTabR w (robustT k s sp m)) := by
 by_cases h : inR k s
 · by_cases h1 : sp < 1
   · exact rrobust_low k s sp m _ _ _ _ _ _ w g1 g2 hl h h1
   by_cases h2 : k < sp
   · exact rrobust_high k s sp m _ _ _ _ _ _ w g1 g2 hl h h1 h2
   by_cases h3 : m.num < 0
   · exact rrobust_neg k s sp m _ _ _ _ _ _ w g1 g2 hl h h1 h2 h3
   have h4 := h
   unfold inR at h4
   obtain ⟨kN, rfl⟩ : ∃ kN : Nat, k = kN := ⟨k.toNat, by omega⟩
   obtain ⟨sc, rfl⟩ : ∃ sc : Nat, s = sc := ⟨s.toNat, by omega⟩
   obtain ⟨spN, rfl⟩ : ∃ spN : Nat, sp = spN := ⟨sp.toNat, by omega⟩
   exact rrobust_in kN sc spN m _ _ _ _ _ _ w g1 g2 hl h (by omega) (by omega) h3
 · exact rrobust_out k s sp m _ _ _ _ _ _ w g1 g2 hl h
end Go.Proofs.YtlkoenpdmlbhlaaGreat
