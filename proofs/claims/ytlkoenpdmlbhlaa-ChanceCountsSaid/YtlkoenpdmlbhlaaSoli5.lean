/- soliton: Mean. -/
import Derived.Test.YtlkoenpdmlbhlaaSoli3
import Derived.Test.YtlkoenpdmlbhlaaReg6
set_option linter.unusedVariables false
set_option linter.unusedSimpArgs false
namespace Go.Proofs.Ytlkoenpdmlbhlaa
open Go.RowKit

theorem digs_sm {z : Int} {m : Nat} (h : z.natAbs < 18446744073709551616 ^ m) : (digs z.natAbs).length ≤ m := digs_length_le.2 h
theorem make_okR {z : Int} {T : Nat} {q : Rat} {a : Option Addr} {n c : Nat} {a2 : Option Addr} {n2 c2 : Nat} {w : World} (g1 : NatAt w a n c (digs z.natAbs)) (g2 : NatAt w a2 n2 c2 (digs T)) (hq : makeR (neg z) (digs z.natAbs) (digs T) = .ok q) (hs : n ≤ 68719476736) (hs2 : n2 ≤ 68719476736) :
    Calls Try.prog 47 #[.agg #[.bool (neg z), .slice a n c], .slice a2 n2 c2] w (RetOk w q) := by
  have h := make05_any (neg z) a n c _ a2 n2 c2 _ w g1 g2 hs hs2
  rw [hq] at h
  exact h
def RetErr13 (w : World) (e : Ending) (w' : World) : Prop := e = .returned (.tuple #[.agg #[.bool false, .slice none 0 0, .slice none 0 0], .int .i64 13]) ∧ Below w.heap.size w w'

set_option maxRecDepth 100000 in
set_option maxHeartbeats 4000000 in
theorem mean_no (a : Option Addr) (n c : Nat) (zs : List Int) (w : World) (g : IntsAt w a n c zs) (h : ¬ okT zs 65536) :
    Calls Try.prog 17 #[.slice a n c] w (RetErr13 w) := by
  have hc := chkT_no h
  have HC := Lib.hid hc
  clear hc h
  go_enter Try.func17, Try.ntmps17
  have hB := Below.refl w.heap.size w
  go_wp2_with fail
  obtain ⟨w1, hW, hz0, hb, q, f⟩ := box1g w (w.heap.size) (by omega) #[.bool false, .slice none 0 0, .slice none 0 0] 36
  rw [hW]
  clear hW
  have g := g.past hb
  have hB := below_later hB hb
  clear hb
  have lr : w.heap.size < w1.heap.size := by omega
  have qr0 := q 0; have qr1 := q 1; have qr2 := q 2
  simp only [List.getElem?_toArray, List.getElem?_cons_zero, List.getElem?_cons_succ] at qr0 qr1 qr2
  have xr : BoxAt w1 (w.heap.size) 3 := BoxAt.of q f rfl (by simp [notU_bool, notU_slice, notU_i64])
  clear q f
  clear hz0
  with_reducible refine (soliCheck_any _ _ _ zs 65536 _ g).mono ?_
  rintro e w2 ⟨rfl, hb⟩
  have g := g.past hb
  have qr0 := bq hb lr qr0; have qr1 := bq hb lr qr1; have qr2 := bq hb lr qr2
  have xr := xr.past hb lr
  have lr := bl hb lr
  have hB := below_later hB hb
  clear hb
  rw [HC.out]
  have zf0 := xr.f 0 (by decide)
  have zf1 := xr.f 1 (by decide)
  have zf2 := xr.f 2 (by decide)
  go_wp2
  obtain ⟨w3, hW, hO, qN0, qN1, qN2, xN⟩ := store3 xr (.bool false) (.slice none 0 0) (.slice none 0 0) (nu rfl) (nu rfl) (nu rfl)
  try rw [hW]
  clear hW
  have lr : w.heap.size < w3.heap.size := by rw [hO.size]; exact lr
  have qr0 := qN0
  have qr1 := qN1
  have qr2 := qN2
  have xr := xN
  have hB := hO.below (by omega) hB
  clear hO qN0 qN1 qN2 xN zf0 zf1 zf2
  refine bodyPost_ret (v := .tuple #[.agg #[.bool false, .slice none 0 0, .slice none 0 0], .int .i64 13]) ?_ rfl ⟨rfl, hB⟩
  simp [results, Try.f17, go_sem, qr0, qr1, qr2]

set_option maxRecDepth 100000 in
set_option maxHeartbeats 16000000 in
theorem mean_yes (a : Option Addr) (n c : Nat) (zs : List Int) (w : World) (g : IntsAt w a n c zs) (h : okT zs 65536) :
    Calls Try.prog 17 #[.slice a n c] w (RetOk w (meanR zs)) := by
  have hc := chkT_yes h
  have HC := Lib.hid hc
  have hlen := g.len
  have hn : n ≤ 65536 := by have := h.2.2.2.1; omega
  have hin := okT_in h
  rw [hlen] at hin
  have hsum : ∀ j, j ≤ n → 0 ≤ upS (fun i => zs.getD i 0) j ∧ upS (fun i => zs.getD i 0) j ≤ 72057594037927936 := fun j hj => by
    have h1 := upS_in (g := fun i => zs.getD i 0) j fun i hi => (hin i (by omega)).1
    have h2 := totS_in (g := fun i => zs.getD i 0) j fun i hi => hin i (by omega)
    have h3 : (j : Int) * totS (fun i => zs.getD i 0) j ≤ 65536 * (65536 * 16777215) := Int.mul_le_mul (by omega) (by omega) h1.2.2 (by decide)
    omega
  have htot : sumW zs n = totS (fun i => zs.getD i 0) n := sumW_tot n hn hin
  have hpos := okT_pos h
  rw [hlen] at hpos
  have htin := totS_in (g := fun i => zs.getD i 0) n hin
  have hstep : ∀ j, upS (fun i => zs.getD i 0) (j + 1) = upS (fun i => zs.getD i 0) j + zs.getD j 0 * ((j + 1 : Nat) : Int) := fun j => rfl
  have hmean : meanR zs = mkRat (upS (fun i => zs.getD i 0) n) (totS (fun i => zs.getD i 0) n).natAbs := by unfold meanR meanF; rw [hlen]
  obtain ⟨T, hT⟩ : ∃ T : Nat, totS (fun i => zs.getD i 0) n = (T : Int) := ⟨(totS (fun i => zs.getD i 0) n).toNat, by omega⟩
  rw [hT] at htot hpos htin hmean
  rw [Int.natAbs_natCast] at hmean
  rw [hmean]
  have h0 : upS (fun i => zs.getD i 0) 0 = 0 := rfl
  obtain ⟨U, hU⟩ : ∃ U : Nat → Int, (fun j => upS (fun i => zs.getD i 0) j) = U := ⟨_, rfl⟩
  have hu : ∀ j, upS (fun i => zs.getD i 0) j = U j := fun j => congrFun hU j
  simp only [hu] at hsum hstep h0 ⊢
  obtain ⟨Q, hQ⟩ : ∃ Q, mkRat (U n) T = Q := ⟨_, rfl⟩
  rw [hQ]
  have hT0 : T ≠ 0 := by omega
  have hT1 : T < 18446744073709551616 := by omega
  have hmk : makeR (neg (U n)) (digs (U n).natAbs) (digs T) = .ok Q := by
    unfold makeR
    rw [if_neg (by rw [chkZ_canon]; simp), if_neg (by rw [val_digs]; exact hT0), sg_canon, val_digs, hQ]
  have HMK := Lib.hid hmk
  have HSUM := Lib.hid hsum
  have HSTEP := Lib.hid hstep
  have HTOT := Lib.hid htot
  have HIN := Lib.hid hin
  have HT1 := Lib.hid hT1
  have H0 := Lib.hid h0
  clear hc h hin hsum htot hpos htin hstep hmean hT h0 hU hu hQ hT0 hmk hT1
  go_enter Try.func17, Try.ntmps17
  have hB := Below.refl w.heap.size w
  go_wp2_with fail
  obtain ⟨w1, hW, hz0, hb, q, f⟩ := box1g w (w.heap.size) (by omega) #[.bool false, .slice none 0 0, .slice none 0 0] 36
  rw [hW]
  clear hW
  have g := g.past hb
  have hB := below_later hB hb
  clear hb
  have lr : w.heap.size < w1.heap.size := by omega
  have qr0 := q 0; have qr1 := q 1; have qr2 := q 2
  simp only [List.getElem?_toArray, List.getElem?_cons_zero, List.getElem?_cons_succ] at qr0 qr1 qr2
  have xr : BoxAt w1 (w.heap.size) 3 := BoxAt.of q f rfl (by simp [notU_bool, notU_slice, notU_i64])
  clear q f
  clear hz0
  with_reducible refine (soliCheck_any _ _ _ zs 65536 _ g).mono ?_
  rintro e w2 ⟨rfl, hb⟩
  have g := g.past hb
  have qr0 := bq hb lr qr0; have qr1 := bq hb lr qr1; have qr2 := bq hb lr qr2
  have xr := xr.past hb lr
  have lr := bl hb lr
  have hB := below_later hB hb
  clear hb
  rw [HC.out]
  go_wp2_with fail
  with_reducible refine (sof_any 0 _ (by decide) (by decide)).mono ?_
  rintro e w3 ⟨aU, nU, cU, rfl, hU, hb⟩
  have hU := hU.mono hB.size
  have g := g.past hb
  have qr0 := bq hb lr qr0; have qr1 := bq hb lr qr1; have qr2 := bq hb lr qr2
  have xr := xr.past hb lr
  have lr := bl hb lr
  have hB := below_later hB hb
  clear hb
  go_wp2_with fail
  obtain ⟨w4, hW, hz0, hb, q, f⟩ := box1g w3 (w3.heap.size) (by omega) #[.bool (neg 0), .slice aU nU cU] 34
  rw [hW]
  clear hW
  have g := g.past hb
  have hU := hU.past hb
  have qr0 := bq hb lr qr0; have qr1 := bq hb lr qr1; have qr2 := bq hb lr qr2
  have xr := xr.past hb lr
  have lr := bl hb lr
  have hB := below_later hB hb
  clear hb
  have lup : w3.heap.size < w4.heap.size := by omega
  have qup0 := q 0; have qup1 := q 1
  simp only [List.getElem?_toArray, List.getElem?_cons_zero, List.getElem?_cons_succ] at qup0 qup1
  have xup : BoxAt w4 (w3.heap.size) 2 := BoxAt.of q f rfl (by simp [notU_bool, notU_slice, notU_i64])
  clear q f
  clear hz0
  have hbs : w.heap.size < w3.heap.size := by omega
  generalize w3.heap.size = BS at *
  have g0 : IntsAt w a n c zs := by assumption
  have lr : w.heap.size < w4.heap.size := by omega
  go_loopw [5, 6, 14] (fun p q i wr => ∃ (j : Nat) (u : Option Addr) (v x : Nat), j ≤ n ∧ i = .int .i64 (j : Int) ∧ OwnAt wr w.heap.size u v x (digs (U j).natAbs) ∧ Below w.heap.size w wr ∧ w.heap.size < wr.heap.size ∧ BS < wr.heap.size ∧ wr.cell? ⟨BS, 0, none⟩ = some (.bool (neg (U j))) ∧ wr.cell? ⟨BS, 1, none⟩ = some (.slice u v x) ∧ BoxAt wr BS 2 ∧ BoxAt wr w.heap.size 3 ∧ wr.cell? ⟨w.heap.size, 0, none⟩ = some (.bool false) ∧ wr.cell? ⟨w.heap.size, 1, none⟩ = some (.slice none 0 0) ∧ wr.cell? ⟨w.heap.size, 2, none⟩ = some (.slice none 0 0)) (fun p q i _ => n - (intOf i).toNat)
  case atStart => exact ⟨0, _, _, _, Nat.zero_le _, rfl, by rw [H0.out]; exact hU, hB, lr, lup, by rw [H0.out]; exact qup0, qup1, xup, xr, qr0, qr1, qr2⟩
  case round =>
    clear hU hB lr lup qup0 qup1 xup xr qr0 qr1 qr2
    obtain ⟨j, u, v, x, hj, rfl, gu, hB, lr, lup, qup0, qup1, xup, xr, qr0, qr1, qr2⟩ := hrel
    by_cases hlt : j < n
    · have hz := HIN.out j hlt
      have hst := HSTEP.out j
      have hcel := (g0.past hB).cell
      obtain ⟨z, hzz⟩ : ∃ z, zs.getD j 0 = z := ⟨_, rfl⟩
      obtain ⟨X, hX⟩ : ∃ X : Int, z * ((j + 1 : Nat) : Int) = X := ⟨_, rfl⟩
      have hX1 : 0 ≤ X ∧ X ≤ 16777215 * 65536 := by
        rw [← hX]
        rw [hzz] at hz
        exact ⟨Int.mul_nonneg hz.1 (by omega), Int.mul_le_mul hz.2 (by omega) (by omega) (by decide)⟩
      have hw1 : IntKind.i64.wrap ((j : Int) + 1) = (j : Int) + 1 := by rw [IntKind.wrap_i64]; omega
      have hw2 : IntKind.i64.wrap (z * ((j : Int) + 1)) = X := by rw [show (j : Int) + 1 = ((j + 1 : Nat) : Int) from rfl, hX, IntKind.wrap_i64]; omega
      have HW1 := Lib.hid hw1
      have HW2 := Lib.hid hw2
      have hq : ∃ b o, a = some ⟨b, o, none⟩ ∧ b < wr.heap.size ∧ wr.cell? ⟨b, o + j, none⟩ = some (.int .i64 z) := by
        rcases hcel with h | ⟨b, o, h1, h2, h3⟩
        · omega
        · exact ⟨b, o, h1, h2, by rw [← hzz]; exact h3 j hlt⟩
      obtain ⟨b, o, rfl, hbl, hq⟩ := hq
      rw [hzz, hX] at hst
      have l1 := HSUM.out j (by omega)
      have l2 := HSUM.out (j + 1) (by omega)
      obtain ⟨A, hA⟩ : ∃ A, U j = A := ⟨_, rfl⟩
      obtain ⟨A2, hA2⟩ : ∃ A2, U (j + 1) = A2 := ⟨_, rfl⟩
      rw [hA] at l1 hst gu qup0
      rw [hA2] at l2 hst
      have k1 : (digs A.natAbs).length ≤ 1 := digs_sm (by omega)
      have k2 : (digs X.natAbs).length ≤ 1 := digs_sm (by omega)
      have kn := gu.len
      have X0 := Lib.hid (show -9223372036854775808 ≤ X by omega)
      have X1 := Lib.hid (show X ≤ 9223372036854775807 by omega)
      have HST := Lib.hid hst.symm
      have HA2 := Lib.hid hA2
      have HK1 := Lib.hid (show v ≤ 274877906944 by omega)
      have HK2 := Lib.hid k2
      clear hw1 hw2 hcel hz hst hzz hX hX1 l1 l2 hA hA2 k1 k2 kn
      go_wp2_with fail
      have szW := hB.size
      refine wp_region_inv (by kernel_rfl) rfl (by kernel_rfl) (fun A0 V0 dd aa ww => ∃ (y19 y20 y21 y22 y23 y24 y25 : Value), aa = puts A0 [(19, y19), (20, y20), (21, y21), (22, y22), (23, y23), (24, y24), (25, y25)] ∧ Below (w).heap.size (w) ww ∧ V0.heap.size ≤ ww.heap.size ∧ OwnAt ww w.heap.size u v x (digs A.natAbs) ∧ Cells ww (w.heap.size) [.bool false, .slice none 0 0, .slice none 0 0] ∧ BoxAt ww (w.heap.size) 3 ∧ BoxAt ww (BS) 2 ∧ Shut (dd 7 = false → Cells ww (BS) [.bool (neg A), .slice u v x]) ∧ Shut (dd 0 = true → y19 = .agg #[.bool (neg A), .slice u v x]) ∧ Shut (dd 1 = true → y20 = .int .i64 z) ∧ Shut (dd 2 = true → y21 = .int .i64 (j : Int)) ∧ Shut (dd 3 = true → y22 = .int .i64 ((j : Int) + 1)) ∧ Shut (dd 4 = true → y23 = .int .i64 X) ∧ Shut (dd 5 = true → CopyV V0.heap.size (neg X) (digs X.natAbs) y24 ww) ∧ Shut (dd 6 = true → CopyV V0.heap.size (neg A2) (digs A2.natAbs) y25 ww) ∧ Shut (dd 7 = true → CellsV (BS) y25 ww) ∧ True) ?_ ?_ ?_
      · exact ⟨_, _, _, _, _, _, _, puts_self _ [19, 20, 21, 22, 23, 24, 25], hB.drew, Nat.le_refl _, gu.drew, (by intro k hk; simp at hk; rcases (by omega : k = 0 ∨ k = 1 ∨ k = 2) with rfl | rfl | rfl <;> assumption), xr.drew, xup.drew, (fun _ => by intro k hk; simp at hk; rcases (by omega : k = 0 ∨ k = 1) with rfl | rfl <;> assumption), fun h => (by cases h), fun h => (by cases h), fun h => (by cases h), fun h => (by cases h), fun h => (by cases h), fun h => (by cases h), fun h => (by cases h), fun h => (by cases h), trivial⟩
      · refine Steps.cons ?_ (Steps.cons ?_ (Steps.cons ?_ (Steps.cons ?_ (Steps.cons ?_ (Steps.cons ?_ (Steps.cons ?_ (Steps.cons ?_ (Steps.nil))))))))
        · intro dd aa ww K hc hun hn hI hK
          obtain ⟨y19, y20, y21, y22, y23, y24, y25, ea, hb, hsz, vgu, cr, xr, xup, pup, f0, f1, f2, f3, f4, f5, f6, f7, _⟩ := hI
          try simp [Region.binds] at hn
          have hs := hc.not (f := 8) (s := 7) (l := 0) (by kernel_rfl) hun
          have e0 := pup.out hs 0 (by simp)
          simp only [List.getElem?_cons_zero, List.getElem?_cons_succ] at e0
          have e1 := pup.out hs 1 (by simp)
          simp only [List.getElem?_cons_zero, List.getElem?_cons_succ] at e1
          subst ea
          simp only [puts, Act.put, List.setIfInBounds_toArray, List.set_cons_zero, List.set_cons_succ]
          go_simp
          refine hK.out _ _ ?_
          exact ⟨.agg #[.bool (neg A), .slice u v x], y20, y21, y22, y23, y24, y25, by simp only [puts, Act.put, List.setIfInBounds_toArray, List.set_cons_zero, List.set_cons_succ], hb, hsz, vgu, cr, xr, xup, fun h => (pup.out (upd_off h)), fun _ => rfl, fun h => (f1.out (upd_of rfl h)), fun h => (f2.out (upd_of rfl h)), fun h => (f3.out (upd_of rfl h)), fun h => (f4.out (upd_of rfl h)), fun h => (f5.out (upd_of rfl h)), fun h => (f6.out (upd_of rfl h)), fun h => (f7.out (upd_of rfl h)), trivial⟩
        · intro dd aa ww K hc hun hn hI hK
          obtain ⟨y19, y20, y21, y22, y23, y24, y25, ea, hb, hsz, vgu, cr, xr, xup, pup, f0, f1, f2, f3, f4, f5, f6, f7, _⟩ := hI
          try simp [Region.binds] at hn
          subst ea
          simp only [puts, Act.put, List.setIfInBounds_toArray, List.set_cons_zero, List.set_cons_succ]
          go_simp
          refine hK.out _ _ ?_
          exact ⟨y19, .int .i64 z, y21, y22, y23, y24, y25, by simp only [puts, Act.put, List.setIfInBounds_toArray, List.set_cons_zero, List.set_cons_succ], hb, hsz, vgu, cr, xr, xup, fun h => (pup.out (upd_off h)), fun h => (f0.out (upd_of rfl h)), fun _ => rfl, fun h => (f2.out (upd_of rfl h)), fun h => (f3.out (upd_of rfl h)), fun h => (f4.out (upd_of rfl h)), fun h => (f5.out (upd_of rfl h)), fun h => (f6.out (upd_of rfl h)), fun h => (f7.out (upd_of rfl h)), trivial⟩
        · intro dd aa ww K hc hun hn hI hK
          obtain ⟨y19, y20, y21, y22, y23, y24, y25, ea, hb, hsz, vgu, cr, xr, xup, pup, f0, f1, f2, f3, f4, f5, f6, f7, _⟩ := hI
          try simp [Region.binds] at hn
          subst ea
          simp only [puts, Act.put, List.setIfInBounds_toArray, List.set_cons_zero, List.set_cons_succ]
          go_simp
          refine hK.out _ _ ?_
          exact ⟨y19, y20, .int .i64 (j : Int), y22, y23, y24, y25, by simp only [puts, Act.put, List.setIfInBounds_toArray, List.set_cons_zero, List.set_cons_succ], hb, hsz, vgu, cr, xr, xup, fun h => (pup.out (upd_off h)), fun h => (f0.out (upd_of rfl h)), fun h => (f1.out (upd_of rfl h)), fun _ => rfl, fun h => (f3.out (upd_of rfl h)), fun h => (f4.out (upd_of rfl h)), fun h => (f5.out (upd_of rfl h)), fun h => (f6.out (upd_of rfl h)), fun h => (f7.out (upd_of rfl h)), trivial⟩
        · intro dd aa ww K hc hun hn hI hK
          obtain ⟨y19, y20, y21, y22, y23, y24, y25, ea, hb, hsz, vgu, cr, xr, xup, pup, f0, f1, f2, f3, f4, f5, f6, f7, _⟩ := hI
          try simp [Region.binds] at hn
          have ex := f2.out (by first | (simp [hn]; done) | exact hc.reach (f := 8) (by decide +kernel) hn | exact hc.reach (f := 8) (by decide +kernel) hn.1 | exact hc.reach (f := 8) (by decide +kernel) hn.2 | exact hc.reach (f := 8) (by decide +kernel) hn.2.1 | exact hc.reach (f := 8) (by decide +kernel) hn.2.2)
          subst ex
          subst ea
          simp only [puts, Act.put, List.setIfInBounds_toArray, List.set_cons_zero, List.set_cons_succ]
          go_simp
          rw [HW1.out]
          refine hK.out _ _ ?_
          exact ⟨y19, y20, .int .i64 (j : Int), .int .i64 ((j : Int) + 1), y23, y24, y25, by simp only [puts, Act.put, List.setIfInBounds_toArray, List.set_cons_zero, List.set_cons_succ], hb, hsz, vgu, cr, xr, xup, fun h => (pup.out (upd_off h)), fun h => (f0.out (upd_of rfl h)), fun h => (f1.out (upd_of rfl h)), fun h => rfl, fun _ => rfl, fun h => (f4.out (upd_of rfl h)), fun h => (f5.out (upd_of rfl h)), fun h => (f6.out (upd_of rfl h)), fun h => (f7.out (upd_of rfl h)), trivial⟩
        · intro dd aa ww K hc hun hn hI hK
          obtain ⟨y19, y20, y21, y22, y23, y24, y25, ea, hb, hsz, vgu, cr, xr, xup, pup, f0, f1, f2, f3, f4, f5, f6, f7, _⟩ := hI
          try simp [Region.binds] at hn
          have ex := f1.out (by first | (simp [hn]; done) | exact hc.reach (f := 8) (by decide +kernel) hn | exact hc.reach (f := 8) (by decide +kernel) hn.1 | exact hc.reach (f := 8) (by decide +kernel) hn.2 | exact hc.reach (f := 8) (by decide +kernel) hn.2.1 | exact hc.reach (f := 8) (by decide +kernel) hn.2.2)
          subst ex
          have ex := f3.out (by first | (simp [hn]; done) | exact hc.reach (f := 8) (by decide +kernel) hn | exact hc.reach (f := 8) (by decide +kernel) hn.1 | exact hc.reach (f := 8) (by decide +kernel) hn.2 | exact hc.reach (f := 8) (by decide +kernel) hn.2.1 | exact hc.reach (f := 8) (by decide +kernel) hn.2.2)
          subst ex
          subst ea
          simp only [puts, Act.put, List.setIfInBounds_toArray, List.set_cons_zero, List.set_cons_succ]
          go_simp
          rw [HW2.out]
          refine hK.out _ _ ?_
          exact ⟨y19, .int .i64 z, y21, .int .i64 ((j : Int) + 1), .int .i64 X, y24, y25, by simp only [puts, Act.put, List.setIfInBounds_toArray, List.set_cons_zero, List.set_cons_succ], hb, hsz, vgu, cr, xr, xup, fun h => (pup.out (upd_off h)), fun h => (f0.out (upd_of rfl h)), fun h => rfl, fun h => (f2.out (upd_of rfl h)), fun h => rfl, fun _ => rfl, fun h => (f5.out (upd_of rfl h)), fun h => (f6.out (upd_of rfl h)), fun h => (f7.out (upd_of rfl h)), trivial⟩
        · intro dd aa ww K hc hun hn hI hK
          obtain ⟨y19, y20, y21, y22, y23, y24, y25, ea, hb, hsz, vgu, cr, xr, xup, pup, f0, f1, f2, f3, f4, f5, f6, f7, _⟩ := hI
          try simp [Region.binds] at hn
          have ex := f4.out (by first | (simp [hn]; done) | exact hc.reach (f := 8) (by decide +kernel) hn | exact hc.reach (f := 8) (by decide +kernel) hn.1 | exact hc.reach (f := 8) (by decide +kernel) hn.2 | exact hc.reach (f := 8) (by decide +kernel) hn.2.1 | exact hc.reach (f := 8) (by decide +kernel) hn.2.2)
          subst ex
          subst ea
          simp only [puts, Act.put, List.setIfInBounds_toArray, List.set_cons_zero, List.set_cons_succ]
          go_simp
          with_reducible refine (sof_any X _ X0.out X1.out).mono ?_
          rintro e w1 ⟨ahX, nhX, chX, rfl, hX, h1⟩
          refine hK.out _ _ ?_
          exact ⟨y19, y20, y21, y22, .int .i64 X, .agg #[.bool (neg X), .slice ahX nhX chX], y25, by simp only [puts, Act.put, List.setIfInBounds_toArray, List.set_cons_zero, List.set_cons_succ], below_later hb h1, Nat.le_trans hsz h1.size, vgu.past h1, cr.past h1 (Nat.lt_of_lt_of_le lr hsz), xr.past h1 (Nat.lt_of_lt_of_le lr hsz), xup.past h1 (Nat.lt_of_lt_of_le lup hsz), fun h => (pup.out (upd_off h)).past h1 (Nat.lt_of_lt_of_le lup hsz), fun h => (f0.out (upd_of rfl h)), fun h => (f1.out (upd_of rfl h)), fun h => (f2.out (upd_of rfl h)), fun h => (f3.out (upd_of rfl h)), fun h => rfl, fun _ => ⟨_, _, _, rfl, hX.mono hsz⟩, fun h => (f6.out (upd_of rfl h)).past h1, fun h => (f7.out (upd_of rfl h)).past h1 (Nat.lt_of_lt_of_le lup hsz), trivial⟩
        · intro dd aa ww K hc hun hn hI hK
          obtain ⟨y19, y20, y21, y22, y23, y24, y25, ea, hb, hsz, vgu, cr, xr, xup, pup, f0, f1, f2, f3, f4, f5, f6, f7, _⟩ := hI
          try simp [Region.binds] at hn
          have ex := f0.out (by first | (simp [hn]; done) | exact hc.reach (f := 8) (by decide +kernel) hn | exact hc.reach (f := 8) (by decide +kernel) hn.1 | exact hc.reach (f := 8) (by decide +kernel) hn.2 | exact hc.reach (f := 8) (by decide +kernel) hn.2.1 | exact hc.reach (f := 8) (by decide +kernel) hn.2.2)
          subst ex
          obtain ⟨ahX, nhX, chX, ex, hX⟩ := f5.out (by first | (simp [hn]; done) | exact hc.reach (f := 8) (by decide +kernel) hn | exact hc.reach (f := 8) (by decide +kernel) hn.1 | exact hc.reach (f := 8) (by decide +kernel) hn.2 | exact hc.reach (f := 8) (by decide +kernel) hn.2.1 | exact hc.reach (f := 8) (by decide +kernel) hn.2.2)
          subst ex
          subst ea
          simp only [puts, Act.put, List.setIfInBounds_toArray, List.set_cons_zero, List.set_cons_succ]
          go_simp
          with_reducible refine (sadd_c vgu.toNatAt hX.toNatAt HK1.out (by have := hX.len; have := HK2.out; omega)).mono ?_
          rintro e w1 ⟨ahS, nhS, chS, rfl, hS, h1⟩
          rw [HST.out] at hS ⊢
          refine hK.out _ _ ?_
          exact ⟨.agg #[.bool (neg A), .slice u v x], y20, y21, y22, y23, .agg #[.bool (neg X), .slice ahX nhX chX], .agg #[.bool (neg A2), .slice ahS nhS chS], by simp only [puts, Act.put, List.setIfInBounds_toArray, List.set_cons_zero, List.set_cons_succ], below_later hb h1, Nat.le_trans hsz h1.size, vgu.past h1, cr.past h1 (Nat.lt_of_lt_of_le lr hsz), xr.past h1 (Nat.lt_of_lt_of_le lr hsz), xup.past h1 (Nat.lt_of_lt_of_le lup hsz), fun h => (pup.out (upd_off h)).past h1 (Nat.lt_of_lt_of_le lup hsz), fun h => rfl, fun h => (f1.out (upd_of rfl h)), fun h => (f2.out (upd_of rfl h)), fun h => (f3.out (upd_of rfl h)), fun h => (f4.out (upd_of rfl h)), fun h => (f5.out (upd_of rfl h)).past h1, fun _ => ⟨_, _, _, rfl, hS.mono hsz⟩, fun h => absurd (hc.reach (f := 8) (s := 7) (l := 6) (by kernel_rfl) (upd_of rfl h)) (by rw [hun]; decide), trivial⟩
        · intro dd aa ww K hc hun hn hI hK
          obtain ⟨y19, y20, y21, y22, y23, y24, y25, ea, hb, hsz, vgu, cr, xr, xup, pup, f0, f1, f2, f3, f4, f5, f6, f7, _⟩ := hI
          try simp [Region.binds] at hn
          obtain ⟨ahS, nhS, chS, ex, hS⟩ := f6.out (by first | (simp [hn]; done) | exact hc.reach (f := 8) (by decide +kernel) hn | exact hc.reach (f := 8) (by decide +kernel) hn.1 | exact hc.reach (f := 8) (by decide +kernel) hn.2 | exact hc.reach (f := 8) (by decide +kernel) hn.2.1 | exact hc.reach (f := 8) (by decide +kernel) hn.2.2)
          subst ex
          have x3 := xup
          obtain ⟨v0, v1, z0, z1, z2, z3, _, _⟩ := x3.two
          have hv : ∀ v ∈ ([.bool (neg A2), .slice ahS nhS chS] : List Value), notU v := by simp [notU_bool, notU_slice, notU_i64]
          subst ea
          simp only [puts, Act.put, List.setIfInBounds_toArray, List.set_cons_zero, List.set_cons_succ]
          go_simp
          refine hK.out _ _ ?_
          exact ⟨y19, y20, y21, y22, y23, y24, .agg #[.bool (neg A2), .slice ahS nhS chS], by simp only [puts, Act.put, List.setIfInBounds_toArray, List.set_cons_zero, List.set_cons_succ], hb.trans (below_setCells _ _ (by omega) [.bool (neg A2), .slice ahS nhS chS] 0 _), (by simpa using hsz), OwnAt.sets [.bool (neg A2), .slice ahS nhS chS] 0 _ vgu x3 (by simp) hv, Cells.sets (by omega) [.bool (neg A2), .slice ahS nhS chS] 0 _ cr, BoxAt.sets [.bool (neg A2), .slice ahS nhS chS] _ 0 _ xr hv, BoxAt.sets [.bool (neg A2), .slice ahS nhS chS] _ 0 _ xup hv, fun h => absurd h (by simp [upd]), fun h => (f0.out (upd_of rfl h)), fun h => (f1.out (upd_of rfl h)), fun h => (f2.out (upd_of rfl h)), fun h => (f3.out (upd_of rfl h)), fun h => (f4.out (upd_of rfl h)), fun h => ((f5.out (upd_of rfl h)).setsOff lup [.bool (neg A2), .slice ahS nhS chS]), fun h => ((f6.out (upd_of rfl h)).setsOff lup [.bool (neg A2), .slice ahS nhS chS]), fun _ => ⟨[.bool (neg A2), .slice ahS nhS chS], rfl, Cells.new x3 [.bool (neg A2), .slice ahS nhS chS] (by simp)⟩, trivial⟩
      intro dd aa w1 hd hI
      obtain ⟨y19, y20, y21, y22, y23, y24, y25, ea, hb, hsz, vgu, cr, xr, xup, pup, f0, f1, f2, f3, f4, f5, f6, f7, _⟩ := hI
      have ex := f0.out (hd 0 (by simp))
      subst ex
      have ex := f1.out (hd 1 (by simp))
      subst ex
      have ex := f2.out (hd 2 (by simp))
      subst ex
      have ex := f3.out (hd 3 (by simp))
      subst ex
      have ex := f4.out (hd 4 (by simp))
      subst ex
      obtain ⟨ahX, nhX, chX, ex, hX⟩ := f5.out (hd 5 (by simp))
      subst ex
      obtain ⟨ahS, nhS, chS, ex, hS⟩ := f6.out (hd 6 (by simp))
      subst ex
      obtain ⟨vs7, e, h7⟩ := f7.out (hd 7 (by simp))
      cases e
      have lup := Nat.lt_of_lt_of_le lup hsz
      have qup0 := h7 0 (by simp)
      simp only [List.getElem?_cons_zero, List.getElem?_cons_succ] at qup0
      have qup1 := h7 1 (by simp)
      simp only [List.getElem?_cons_zero, List.getElem?_cons_succ] at qup1
      subst ea
      simp only [puts, Act.put, List.setIfInBounds_toArray, List.set_cons_zero, List.set_cons_succ]
      have hX := hX.mono szW
      have hS := hS.mono szW
      have gu := vgu
      have lr := Nat.lt_of_lt_of_le lr hsz
      have qr0 := cr 0 (by simp)
      simp only [List.getElem?_cons_zero, List.getElem?_cons_succ] at qr0
      have qr1 := cr 1 (by simp)
      simp only [List.getElem?_cons_zero, List.getElem?_cons_succ] at qr1
      have qr2 := cr 2 (by simp)
      simp only [List.getElem?_cons_zero, List.getElem?_cons_succ] at qr2
      clear cr
      have hB := hb
      clear pup
      clear hb hd
      go_wp2
      go_roundw
      case rel => exact ⟨j + 1, _, _, _, by omega, by go_num, by rw [HA2.out]; exact hS, hB, lr, lup, by rw [HA2.out]; exact qup0, qup1, xup, xr, qr0, qr1, qr2⟩
      case measure => simp [intOf]; omega
    · obtain rfl : j = n := by omega
      have l1 := HSUM.out j (by omega)
      have hmk := HMK.out
      obtain ⟨A, hA⟩ : ∃ A, U j = A := ⟨_, rfl⟩
      rw [hA] at l1 gu qup0 hmk
      have k1 : (digs A.natAbs).length ≤ 1 := digs_sm (by omega)
      have kn := gu.len
      have HK1 := Lib.hid (show v ≤ 68719476736 by omega)
      have HKT := Lib.hid (show (digs T).length ≤ 1 from digs_length_le.2 (by have := HT1.out; omega))
      have HCV := Lib.hid (show IntKind.u64.wrap (T : Int) = (T : Int) by rw [IntKind.wrap_u64]; have := HT1.out; omega)
      have HMA := Lib.hid hmk
      clear l1 hmk hA k1 kn
      have g1 := g0.past hB
      go_wp2_with fail
      have szW := hB.size
      refine wp_region_inv (by kernel_rfl) rfl (by kernel_rfl) (fun A0 V0 dd aa ww => ∃ (y27 y28 y29 y30 y31 y32 y33 y34 y3 : Value), aa = puts A0 [(27, y27), (28, y28), (29, y29), (30, y30), (31, y31), (32, y32), (33, y33), (34, y34), (3, y3)] ∧ Below (w).heap.size (w) ww ∧ V0.heap.size ≤ ww.heap.size ∧ OwnAt ww w.heap.size u v x (digs A.natAbs) ∧ Cells ww (BS) [.bool (neg A), .slice u v x] ∧ BoxAt ww (BS) 2 ∧ BoxAt ww (w.heap.size) 3 ∧ Shut (dd 8 = false → Cells ww (w.heap.size) [.bool false, .slice none 0 0, .slice none 0 0]) ∧ Shut (dd 0 = true → y27 = .agg #[.bool (neg A), .slice u v x]) ∧ Shut (dd 1 = true → y28 = .slice a j c) ∧ Shut (dd 2 = true → y29 = .int .i64 (T : Int)) ∧ Shut (dd 3 = true → y30 = .int .u64 T) ∧ Shut (dd 4 = true → NatV V0.heap.size (digs T) y31 ww) ∧ Shut (dd 5 = true → OkV V0.heap.size (Q) y32 ww) ∧ Shut (dd 6 = true → y33 = part 0 y32) ∧ Shut (dd 7 = true → y34 = part 1 y32) ∧ Shut (dd 8 = true → CellsV (w.heap.size) y33 ww) ∧ Shut (dd 9 = true → y3 = y34) ∧ True) ?_ ?_ ?_
      · exact ⟨_, _, _, _, _, _, _, _, _, puts_self _ [27, 28, 29, 30, 31, 32, 33, 34, 3], hB.drew, Nat.le_refl _, gu.drew, (by intro k hk; simp at hk; rcases (by omega : k = 0 ∨ k = 1) with rfl | rfl <;> assumption), xup.drew, xr.drew, (fun _ => by intro k hk; simp at hk; rcases (by omega : k = 0 ∨ k = 1 ∨ k = 2) with rfl | rfl | rfl <;> assumption), fun h => (by cases h), fun h => (by cases h), fun h => (by cases h), fun h => (by cases h), fun h => (by cases h), fun h => (by cases h), fun h => (by cases h), fun h => (by cases h), fun h => (by cases h), fun h => (by cases h), trivial⟩
      · refine Steps.cons ?_ (Steps.cons ?_ (Steps.cons ?_ (Steps.cons ?_ (Steps.cons ?_ (Steps.cons ?_ (Steps.cons ?_ (Steps.cons ?_ (Steps.cons ?_ (Steps.cons ?_ (Steps.nil))))))))))
        · intro dd aa ww K hc hun hn hI hK
          obtain ⟨y27, y28, y29, y30, y31, y32, y33, y34, y3, ea, hb, hsz, vgu, cup, xup, xr, pr, f0, f1, f2, f3, f4, f5, f6, f7, f8, f9, _⟩ := hI
          try simp [Region.binds] at hn
          have e0 := cup 0 (by simp)
          simp only [List.getElem?_cons_zero, List.getElem?_cons_succ] at e0
          have e1 := cup 1 (by simp)
          simp only [List.getElem?_cons_zero, List.getElem?_cons_succ] at e1
          subst ea
          simp only [puts, Act.put, List.setIfInBounds_toArray, List.set_cons_zero, List.set_cons_succ]
          go_simp
          refine hK.out _ _ ?_
          exact ⟨.agg #[.bool (neg A), .slice u v x], y28, y29, y30, y31, y32, y33, y34, y3, by simp only [puts, Act.put, List.setIfInBounds_toArray, List.set_cons_zero, List.set_cons_succ], hb, hsz, vgu, cup, xup, xr, fun h => (pr.out (upd_off h)), fun _ => rfl, fun h => (f1.out (upd_of rfl h)), fun h => (f2.out (upd_of rfl h)), fun h => (f3.out (upd_of rfl h)), fun h => (f4.out (upd_of rfl h)), fun h => (f5.out (upd_of rfl h)), fun h => (f6.out (upd_of rfl h)), fun h => (f7.out (upd_of rfl h)), fun h => (f8.out (upd_of rfl h)), fun h => (f9.out (upd_of rfl h)), trivial⟩
        · intro dd aa ww K hc hun hn hI hK
          obtain ⟨y27, y28, y29, y30, y31, y32, y33, y34, y3, ea, hb, hsz, vgu, cup, xup, xr, pr, f0, f1, f2, f3, f4, f5, f6, f7, f8, f9, _⟩ := hI
          try simp [Region.binds] at hn
          subst ea
          simp only [puts, Act.put, List.setIfInBounds_toArray, List.set_cons_zero, List.set_cons_succ]
          go_simp
          refine hK.out _ _ ?_
          exact ⟨y27, .slice a j c, y29, y30, y31, y32, y33, y34, y3, by simp only [puts, Act.put, List.setIfInBounds_toArray, List.set_cons_zero, List.set_cons_succ], hb, hsz, vgu, cup, xup, xr, fun h => (pr.out (upd_off h)), fun h => (f0.out (upd_of rfl h)), fun _ => rfl, fun h => (f2.out (upd_of rfl h)), fun h => (f3.out (upd_of rfl h)), fun h => (f4.out (upd_of rfl h)), fun h => (f5.out (upd_of rfl h)), fun h => (f6.out (upd_of rfl h)), fun h => (f7.out (upd_of rfl h)), fun h => (f8.out (upd_of rfl h)), fun h => (f9.out (upd_of rfl h)), trivial⟩
        · intro dd aa ww K hc hun hn hI hK
          obtain ⟨y27, y28, y29, y30, y31, y32, y33, y34, y3, ea, hb, hsz, vgu, cup, xup, xr, pr, f0, f1, f2, f3, f4, f5, f6, f7, f8, f9, _⟩ := hI
          try simp [Region.binds] at hn
          have ex := f1.out (by first | (simp [hn]; done) | exact hc.reach (f := 8) (by decide +kernel) hn | exact hc.reach (f := 8) (by decide +kernel) hn.1 | exact hc.reach (f := 8) (by decide +kernel) hn.2 | exact hc.reach (f := 8) (by decide +kernel) hn.2.1 | exact hc.reach (f := 8) (by decide +kernel) hn.2.2)
          subst ex
          subst ea
          simp only [puts, Act.put, List.setIfInBounds_toArray, List.set_cons_zero, List.set_cons_succ]
          go_simp
          with_reducible refine (total_any _ _ _ zs _ (g0.past hb)).mono ?_
          rintro e w1 ⟨rfl, h1⟩
          rw [HTOT.out]
          refine hK.out _ _ ?_
          exact ⟨y27, .slice a j c, .int .i64 (T : Int), y30, y31, y32, y33, y34, y3, by simp only [puts, Act.put, List.setIfInBounds_toArray, List.set_cons_zero, List.set_cons_succ], below_later hb h1, Nat.le_trans hsz h1.size, vgu.past h1, cup.past h1 (Nat.lt_of_lt_of_le lup hsz), xup.past h1 (Nat.lt_of_lt_of_le lup hsz), xr.past h1 (Nat.lt_of_lt_of_le lr hsz), fun h => (pr.out (upd_off h)).past h1 (Nat.lt_of_lt_of_le lr hsz), fun h => (f0.out (upd_of rfl h)), fun h => rfl, fun _ => rfl, fun h => (f3.out (upd_of rfl h)), fun h => (f4.out (upd_of rfl h)).past h1, fun h => (f5.out (upd_of rfl h)).past h1, fun h => (f6.out (upd_of rfl h)), fun h => (f7.out (upd_of rfl h)), fun h => (f8.out (upd_of rfl h)).past h1 (Nat.lt_of_lt_of_le lr hsz), fun h => (f9.out (upd_of rfl h)), trivial⟩
        · intro dd aa ww K hc hun hn hI hK
          obtain ⟨y27, y28, y29, y30, y31, y32, y33, y34, y3, ea, hb, hsz, vgu, cup, xup, xr, pr, f0, f1, f2, f3, f4, f5, f6, f7, f8, f9, _⟩ := hI
          try simp [Region.binds] at hn
          have ex := f2.out (by first | (simp [hn]; done) | exact hc.reach (f := 8) (by decide +kernel) hn | exact hc.reach (f := 8) (by decide +kernel) hn.1 | exact hc.reach (f := 8) (by decide +kernel) hn.2 | exact hc.reach (f := 8) (by decide +kernel) hn.2.1 | exact hc.reach (f := 8) (by decide +kernel) hn.2.2)
          subst ex
          subst ea
          simp only [puts, Act.put, List.setIfInBounds_toArray, List.set_cons_zero, List.set_cons_succ]
          go_simp
          rw [HCV.out]
          refine hK.out _ _ ?_
          exact ⟨y27, y28, .int .i64 (T : Int), .int .u64 T, y31, y32, y33, y34, y3, by simp only [puts, Act.put, List.setIfInBounds_toArray, List.set_cons_zero, List.set_cons_succ], hb, hsz, vgu, cup, xup, xr, fun h => (pr.out (upd_off h)), fun h => (f0.out (upd_of rfl h)), fun h => (f1.out (upd_of rfl h)), fun h => rfl, fun _ => rfl, fun h => (f4.out (upd_of rfl h)), fun h => (f5.out (upd_of rfl h)), fun h => (f6.out (upd_of rfl h)), fun h => (f7.out (upd_of rfl h)), fun h => (f8.out (upd_of rfl h)), fun h => (f9.out (upd_of rfl h)), trivial⟩
        · intro dd aa ww K hc hun hn hI hK
          obtain ⟨y27, y28, y29, y30, y31, y32, y33, y34, y3, ea, hb, hsz, vgu, cup, xup, xr, pr, f0, f1, f2, f3, f4, f5, f6, f7, f8, f9, _⟩ := hI
          try simp [Region.binds] at hn
          have ex := f3.out (by first | (simp [hn]; done) | exact hc.reach (f := 8) (by decide +kernel) hn | exact hc.reach (f := 8) (by decide +kernel) hn.1 | exact hc.reach (f := 8) (by decide +kernel) hn.2 | exact hc.reach (f := 8) (by decide +kernel) hn.2.1 | exact hc.reach (f := 8) (by decide +kernel) hn.2.2)
          subst ex
          subst ea
          simp only [puts, Act.put, List.setIfInBounds_toArray, List.set_cons_zero, List.set_cons_succ]
          go_simp
          with_reducible refine (of_any T _ HT1.out).mono ?_
          rintro e w1 ⟨ahN, nhN, chN, rfl, hN, h1⟩
          refine hK.out _ _ ?_
          exact ⟨y27, y28, y29, .int .u64 T, .slice ahN nhN chN, y32, y33, y34, y3, by simp only [puts, Act.put, List.setIfInBounds_toArray, List.set_cons_zero, List.set_cons_succ], below_later hb h1, Nat.le_trans hsz h1.size, vgu.past h1, cup.past h1 (Nat.lt_of_lt_of_le lup hsz), xup.past h1 (Nat.lt_of_lt_of_le lup hsz), xr.past h1 (Nat.lt_of_lt_of_le lr hsz), fun h => (pr.out (upd_off h)).past h1 (Nat.lt_of_lt_of_le lr hsz), fun h => (f0.out (upd_of rfl h)), fun h => (f1.out (upd_of rfl h)), fun h => (f2.out (upd_of rfl h)), fun h => rfl, fun _ => ⟨_, _, _, rfl, hN.mono hsz⟩, fun h => (f5.out (upd_of rfl h)).past h1, fun h => (f6.out (upd_of rfl h)), fun h => (f7.out (upd_of rfl h)), fun h => (f8.out (upd_of rfl h)).past h1 (Nat.lt_of_lt_of_le lr hsz), fun h => (f9.out (upd_of rfl h)), trivial⟩
        · intro dd aa ww K hc hun hn hI hK
          obtain ⟨y27, y28, y29, y30, y31, y32, y33, y34, y3, ea, hb, hsz, vgu, cup, xup, xr, pr, f0, f1, f2, f3, f4, f5, f6, f7, f8, f9, _⟩ := hI
          try simp [Region.binds] at hn
          have ex := f0.out (by first | (simp [hn]; done) | exact hc.reach (f := 8) (by decide +kernel) hn | exact hc.reach (f := 8) (by decide +kernel) hn.1 | exact hc.reach (f := 8) (by decide +kernel) hn.2 | exact hc.reach (f := 8) (by decide +kernel) hn.2.1 | exact hc.reach (f := 8) (by decide +kernel) hn.2.2)
          subst ex
          obtain ⟨ahN, nhN, chN, ex, hN⟩ := f4.out (by first | (simp [hn]; done) | exact hc.reach (f := 8) (by decide +kernel) hn | exact hc.reach (f := 8) (by decide +kernel) hn.1 | exact hc.reach (f := 8) (by decide +kernel) hn.2 | exact hc.reach (f := 8) (by decide +kernel) hn.2.1 | exact hc.reach (f := 8) (by decide +kernel) hn.2.2)
          subst ex
          subst ea
          simp only [puts, Act.put, List.setIfInBounds_toArray, List.set_cons_zero, List.set_cons_succ]
          go_simp
          with_reducible refine (make_okR vgu.toNatAt hN.toNatAt HMA.out HK1.out (by have := hN.len; have := HKT.out; omega)).mono ?_
          rintro e w1 ⟨ahMU, nhMU, chMU, ahMD, nhMD, chMD, rfl, hMU, hMD, h1⟩
          refine hK.out _ _ ?_
          exact ⟨.agg #[.bool (neg A), .slice u v x], y28, y29, y30, .slice ahN nhN chN, .tuple #[.agg #[.bool (neg (Q).num), .slice ahMU nhMU chMU, .slice ahMD nhMD chMD], .int .i64 0], y33, y34, y3, by simp only [puts, Act.put, List.setIfInBounds_toArray, List.set_cons_zero, List.set_cons_succ], below_later hb h1, Nat.le_trans hsz h1.size, vgu.past h1, cup.past h1 (Nat.lt_of_lt_of_le lup hsz), xup.past h1 (Nat.lt_of_lt_of_le lup hsz), xr.past h1 (Nat.lt_of_lt_of_le lr hsz), fun h => (pr.out (upd_off h)).past h1 (Nat.lt_of_lt_of_le lr hsz), fun h => rfl, fun h => (f1.out (upd_of rfl h)), fun h => (f2.out (upd_of rfl h)), fun h => (f3.out (upd_of rfl h)), fun h => (f4.out (upd_of rfl h)).past h1, fun _ => ⟨_, _, _, _, _, _, rfl, hMU.mono hsz, hMD.mono hsz⟩, fun h => absurd (hc.reach (f := 8) (s := 6) (l := 5) (by kernel_rfl) (upd_of rfl h)) (by rw [hun]; decide), fun h => absurd (hc.reach (f := 8) (s := 7) (l := 5) (by kernel_rfl) (upd_of rfl h)) (by rw [hun]; decide), fun h => (f8.out (upd_of rfl h)).past h1 (Nat.lt_of_lt_of_le lr hsz), fun h => (f9.out (upd_of rfl h)), trivial⟩
        · intro dd aa ww K hc hun hn hI hK
          obtain ⟨y27, y28, y29, y30, y31, y32, y33, y34, y3, ea, hb, hsz, vgu, cup, xup, xr, pr, f0, f1, f2, f3, f4, f5, f6, f7, f8, f9, _⟩ := hI
          try simp [Region.binds] at hn
          obtain ⟨ahMU, nhMU, chMU, ahMD, nhMD, chMD, ex, hMU, hMD⟩ := f5.out (by first | (simp [hn]; done) | exact hc.reach (f := 8) (by decide +kernel) hn | exact hc.reach (f := 8) (by decide +kernel) hn.1 | exact hc.reach (f := 8) (by decide +kernel) hn.2 | exact hc.reach (f := 8) (by decide +kernel) hn.2.1 | exact hc.reach (f := 8) (by decide +kernel) hn.2.2)
          subst ex
          subst ea
          simp only [puts, Act.put, List.setIfInBounds_toArray, List.set_cons_zero, List.set_cons_succ]
          go_simp
          refine hK.out _ _ ?_
          exact ⟨y27, y28, y29, y30, y31, .tuple #[.agg #[.bool (neg (Q).num), .slice ahMU nhMU chMU, .slice ahMD nhMD chMD], .int .i64 0], .agg #[.bool (neg (Q).num), .slice ahMU nhMU chMU, .slice ahMD nhMD chMD], y34, y3, by simp only [puts, Act.put, List.setIfInBounds_toArray, List.set_cons_zero, List.set_cons_succ], hb, hsz, vgu, cup, xup, xr, fun h => (pr.out (upd_off h)), fun h => (f0.out (upd_of rfl h)), fun h => (f1.out (upd_of rfl h)), fun h => (f2.out (upd_of rfl h)), fun h => (f3.out (upd_of rfl h)), fun h => (f4.out (upd_of rfl h)), fun h => (f5.out (upd_of rfl h)), fun _ => rfl, fun h => (f7.out (upd_of rfl h)), fun h => absurd (hc.reach (f := 8) (s := 8) (l := 6) (by kernel_rfl) (upd_of rfl h)) (by rw [hun]; decide), fun h => (f9.out (upd_of rfl h)), trivial⟩
        · intro dd aa ww K hc hun hn hI hK
          obtain ⟨y27, y28, y29, y30, y31, y32, y33, y34, y3, ea, hb, hsz, vgu, cup, xup, xr, pr, f0, f1, f2, f3, f4, f5, f6, f7, f8, f9, _⟩ := hI
          try simp [Region.binds] at hn
          obtain ⟨ahMU, nhMU, chMU, ahMD, nhMD, chMD, ex, hMU, hMD⟩ := f5.out (by first | (simp [hn]; done) | exact hc.reach (f := 8) (by decide +kernel) hn | exact hc.reach (f := 8) (by decide +kernel) hn.1 | exact hc.reach (f := 8) (by decide +kernel) hn.2 | exact hc.reach (f := 8) (by decide +kernel) hn.2.1 | exact hc.reach (f := 8) (by decide +kernel) hn.2.2)
          subst ex
          subst ea
          simp only [puts, Act.put, List.setIfInBounds_toArray, List.set_cons_zero, List.set_cons_succ]
          go_simp
          refine hK.out _ _ ?_
          exact ⟨y27, y28, y29, y30, y31, .tuple #[.agg #[.bool (neg (Q).num), .slice ahMU nhMU chMU, .slice ahMD nhMD chMD], .int .i64 0], y33, .int .i64 0, y3, by simp only [puts, Act.put, List.setIfInBounds_toArray, List.set_cons_zero, List.set_cons_succ], hb, hsz, vgu, cup, xup, xr, fun h => (pr.out (upd_off h)), fun h => (f0.out (upd_of rfl h)), fun h => (f1.out (upd_of rfl h)), fun h => (f2.out (upd_of rfl h)), fun h => (f3.out (upd_of rfl h)), fun h => (f4.out (upd_of rfl h)), fun h => (f5.out (upd_of rfl h)), fun h => (f6.out (upd_of rfl h)), fun _ => rfl, fun h => (f8.out (upd_of rfl h)), fun h => absurd (hc.reach (f := 8) (s := 9) (l := 7) (by kernel_rfl) (upd_of rfl h)) (by rw [hun]; decide), trivial⟩
        · intro dd aa ww K hc hun hn hI hK
          obtain ⟨y27, y28, y29, y30, y31, y32, y33, y34, y3, ea, hb, hsz, vgu, cup, xup, xr, pr, f0, f1, f2, f3, f4, f5, f6, f7, f8, f9, _⟩ := hI
          try simp [Region.binds] at hn
          obtain ⟨ahMU, nhMU, chMU, ahMD, nhMD, chMD, ex, hMU, hMD⟩ := f5.out (by first | (simp [hn]; done) | exact hc.reach (f := 8) (by decide +kernel) hn | exact hc.reach (f := 8) (by decide +kernel) hn.1 | exact hc.reach (f := 8) (by decide +kernel) hn.2 | exact hc.reach (f := 8) (by decide +kernel) hn.2.1 | exact hc.reach (f := 8) (by decide +kernel) hn.2.2)
          subst ex
          have ex : y33 = .agg #[.bool (neg (Q).num), .slice ahMU nhMU chMU, .slice ahMD nhMD chMD] := f6.out (by first | (simp [hn]; done) | exact hc.reach (f := 8) (by decide +kernel) hn | exact hc.reach (f := 8) (by decide +kernel) hn.1 | exact hc.reach (f := 8) (by decide +kernel) hn.2 | exact hc.reach (f := 8) (by decide +kernel) hn.2.1 | exact hc.reach (f := 8) (by decide +kernel) hn.2.2)
          subst ex
          have x3 := xr
          obtain ⟨v0, v1, v2, z0, z1, z2, z3, z4, z5, _, _, _⟩ := x3.three
          have hv : ∀ v ∈ ([.bool (neg (Q).num), .slice ahMU nhMU chMU, .slice ahMD nhMD chMD] : List Value), notU v := by simp [notU_bool, notU_slice, notU_i64]
          subst ea
          simp only [puts, Act.put, List.setIfInBounds_toArray, List.set_cons_zero, List.set_cons_succ]
          go_simp
          refine hK.out _ _ ?_
          exact ⟨y27, y28, y29, y30, y31, .tuple #[.agg #[.bool (neg (Q).num), .slice ahMU nhMU chMU, .slice ahMD nhMD chMD], .int .i64 0], .agg #[.bool (neg (Q).num), .slice ahMU nhMU chMU, .slice ahMD nhMD chMD], y34, y3, by simp only [puts, Act.put, List.setIfInBounds_toArray, List.set_cons_zero, List.set_cons_succ], hb.trans (below_setCells _ _ (by omega) [.bool (neg (Q).num), .slice ahMU nhMU chMU, .slice ahMD nhMD chMD] 0 _), (by simpa using hsz), OwnAt.sets [.bool (neg (Q).num), .slice ahMU nhMU chMU, .slice ahMD nhMD chMD] 0 _ vgu x3 (by simp) hv, Cells.sets (by omega) [.bool (neg (Q).num), .slice ahMU nhMU chMU, .slice ahMD nhMD chMD] 0 _ cup, BoxAt.sets [.bool (neg (Q).num), .slice ahMU nhMU chMU, .slice ahMD nhMD chMD] _ 0 _ xup hv, BoxAt.sets [.bool (neg (Q).num), .slice ahMU nhMU chMU, .slice ahMD nhMD chMD] _ 0 _ xr hv, fun h => absurd h (by simp [upd]), fun h => (f0.out (upd_of rfl h)), fun h => (f1.out (upd_of rfl h)), fun h => (f2.out (upd_of rfl h)), fun h => (f3.out (upd_of rfl h)), fun h => ((f4.out (upd_of rfl h)).setsOff lr [.bool (neg (Q).num), .slice ahMU nhMU chMU, .slice ahMD nhMD chMD]), fun h => ((f5.out (upd_of rfl h)).setsOff lr [.bool (neg (Q).num), .slice ahMU nhMU chMU, .slice ahMD nhMD chMD]), fun h => rfl, fun h => (f7.out (upd_of rfl h)), fun _ => ⟨[.bool (neg (Q).num), .slice ahMU nhMU chMU, .slice ahMD nhMD chMD], rfl, Cells.new x3 [.bool (neg (Q).num), .slice ahMU nhMU chMU, .slice ahMD nhMD chMD] (by simp)⟩, fun h => (f9.out (upd_of rfl h)), trivial⟩
        · intro dd aa ww K hc hun hn hI hK
          obtain ⟨y27, y28, y29, y30, y31, y32, y33, y34, y3, ea, hb, hsz, vgu, cup, xup, xr, pr, f0, f1, f2, f3, f4, f5, f6, f7, f8, f9, _⟩ := hI
          try simp [Region.binds] at hn
          obtain ⟨ahMU, nhMU, chMU, ahMD, nhMD, chMD, ex, hMU, hMD⟩ := f5.out (by first | (simp [hn]; done) | exact hc.reach (f := 8) (by decide +kernel) hn | exact hc.reach (f := 8) (by decide +kernel) hn.1 | exact hc.reach (f := 8) (by decide +kernel) hn.2 | exact hc.reach (f := 8) (by decide +kernel) hn.2.1 | exact hc.reach (f := 8) (by decide +kernel) hn.2.2)
          subst ex
          have ex : y34 = .int .i64 0 := f7.out (by first | (simp [hn]; done) | exact hc.reach (f := 8) (by decide +kernel) hn | exact hc.reach (f := 8) (by decide +kernel) hn.1 | exact hc.reach (f := 8) (by decide +kernel) hn.2 | exact hc.reach (f := 8) (by decide +kernel) hn.2.1 | exact hc.reach (f := 8) (by decide +kernel) hn.2.2)
          subst ex
          subst ea
          simp only [puts, Act.put, List.setIfInBounds_toArray, List.set_cons_zero, List.set_cons_succ]
          go_simp
          refine hK.out _ _ ?_
          exact ⟨y27, y28, y29, y30, y31, .tuple #[.agg #[.bool (neg (Q).num), .slice ahMU nhMU chMU, .slice ahMD nhMD chMD], .int .i64 0], y33, .int .i64 0, .int .i64 0, by simp only [puts, Act.put, List.setIfInBounds_toArray, List.set_cons_zero, List.set_cons_succ], hb, hsz, vgu, cup, xup, xr, fun h => (pr.out (upd_off h)), fun h => (f0.out (upd_of rfl h)), fun h => (f1.out (upd_of rfl h)), fun h => (f2.out (upd_of rfl h)), fun h => (f3.out (upd_of rfl h)), fun h => (f4.out (upd_of rfl h)), fun h => (f5.out (upd_of rfl h)), fun h => (f6.out (upd_of rfl h)), fun h => rfl, fun h => (f8.out (upd_of rfl h)), fun _ => rfl, trivial⟩
      intro dd aa w1 hd hI
      obtain ⟨y27, y28, y29, y30, y31, y32, y33, y34, y3, ea, hb, hsz, vgu, cup, xup, xr, pr, f0, f1, f2, f3, f4, f5, f6, f7, f8, f9, _⟩ := hI
      have ex := f0.out (hd 0 (by simp))
      subst ex
      have ex := f1.out (hd 1 (by simp))
      subst ex
      have ex := f2.out (hd 2 (by simp))
      subst ex
      have ex := f3.out (hd 3 (by simp))
      subst ex
      obtain ⟨ahN, nhN, chN, ex, hN⟩ := f4.out (hd 4 (by simp))
      subst ex
      obtain ⟨ahMU, nhMU, chMU, ahMD, nhMD, chMD, ex, hMU, hMD⟩ := f5.out (hd 5 (by simp))
      subst ex
      have ex : y33 = .agg #[.bool (neg (Q).num), .slice ahMU nhMU chMU, .slice ahMD nhMD chMD] := f6.out (hd 6 (by simp))
      subst ex
      have ex : y34 = .int .i64 0 := f7.out (hd 7 (by simp))
      subst ex
      obtain ⟨vs8, e, h8⟩ := f8.out (hd 8 (by simp))
      cases e
      have ex : y3 = .int .i64 0 := f9.out (hd 9 (by simp))
      subst ex
      have lr := Nat.lt_of_lt_of_le lr hsz
      have qr0 := h8 0 (by simp)
      simp only [List.getElem?_cons_zero, List.getElem?_cons_succ] at qr0
      have qr1 := h8 1 (by simp)
      simp only [List.getElem?_cons_zero, List.getElem?_cons_succ] at qr1
      have qr2 := h8 2 (by simp)
      simp only [List.getElem?_cons_zero, List.getElem?_cons_succ] at qr2
      subst ea
      simp only [puts, Act.put, List.setIfInBounds_toArray, List.set_cons_zero, List.set_cons_succ]
      have hN := hN.mono szW
      have hMU := hMU.mono szW
      have hMD := hMD.mono szW
      have gu := vgu
      have g1 := g0.past hb
      have lup := Nat.lt_of_lt_of_le lup hsz
      have qup0 := cup 0 (by simp)
      simp only [List.getElem?_cons_zero, List.getElem?_cons_succ] at qup0
      have qup1 := cup 1 (by simp)
      simp only [List.getElem?_cons_zero, List.getElem?_cons_succ] at qup1
      clear cup
      have hB := hb
      clear pr
      clear hb hd
      go_wp2
      refine bodyPost_ret (v := .tuple #[.agg #[.bool (neg Q.num), .slice ahMU nhMU chMU, .slice ahMD nhMD chMD], .int .i64 0]) ?_ rfl ⟨_, _, _, _, _, _, rfl, hMU, hMD, hB⟩
      simp [results, Try.f17, go_sem, qr0, qr1, qr2]

end Go.Proofs.Ytlkoenpdmlbhlaa
