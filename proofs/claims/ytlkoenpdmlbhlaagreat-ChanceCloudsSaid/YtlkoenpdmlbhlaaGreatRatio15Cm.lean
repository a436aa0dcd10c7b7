import Derived.Test.YtlkoenpdmlbhlaaGreatS0Cm
import Derived.Test.YtlkoenpdmlbhlaaGreatRatio14Cm
set_option linter.unusedVariables false
set_option linter.unusedSimpArgs false
namespace Go.Proofs.YtlkoenpdmlbhlaaGreat
open Go.RowKit
theorem rwhole_one {a : Option Addr} {n c : Nat} {w : World} (g1 : NatAt w a n c (digs 1)) (hs : n ≤ 200000) :
 Calls Tryz.prog 105 #[.slice a n c] w (RetInt w 1) := rwhole05_any 1 a n c w g1 hs
set_option maxRecDepth 100000 in
set_option maxHeartbeats 4000000 in
theorem radd05_bad (ar : Option Addr) (nr cc : Nat) (f : Nat → Bool × List Nat × List Nat) (KB : Nat) (w : World) (gr : RatsAt w ar nr cc f) (hs : 1 ≤ KB) (hk : ∀ i, i < nr → (f i).2.1.length ≤ KB ∧ (f i).2.2.length ≤ KB) (hKB : KB + nr * (KB + 1) ≤ 40000) (hb : allR f nr = false) :
 Calls Tryz.prog 45 #[.slice ar nr cc] w (RetAns w (.error 6)) := by
 have gk : ∀ i, i < nr → (f i).2.1.length ≤ 200000 ∧ (f i).2.2.length ≤ 200000 := fun i hi => by
  have h1 := hk i hi
  generalize nr * (KB + 1) = X at hKB
  omega
 have GK := Lib.hid gk
 clear gk
 have GB := Lib.hid hb
 clear hb hk hKB
 go_enter Tryz.func45, Tryz.ntmps45
 have hB := Below.refl w.heap.size w
 go_wp2_with fail
 obtain ⟨w1, hW, hz0, hb, q, f⟩ := box1g w (w.heap.size) (by omega) #[.bool false, .slice none 0 0, .slice none 0 0] 27
 rw [hW]
 clear hW
 have gr := gr.past hb
 have hB := below_later hB hb
 clear hb
 have lr : w.heap.size < w1.heap.size := by omega
 have qr0 := q 0; have qr1 := q 1; have qr2 := q 2
 simp only [lgA, lgZ, lgS] at qr0 qr1 qr2
 have xr : BoxAt w1 (w.heap.size) 3 := BoxAt.of q f rfl (by simp [notU_bool, notU_slice, notU_i64])
 clear q f
 clear hz0
 with_reducible refine (rfine05_any _ _ _ _ _ gr GK.out).mono ?_
 rintro e w2 ⟨rfl, hb⟩
 have gr := gr.past hb
 have xr := xr.past hb lr
 obtain ⟨qr0, qr1, qr2, lr⟩ := bq3 hb lr qr0 qr1 qr2
 have hB := below_later hB hb
 clear hb
 rw [GB.out]
 have zf0 := xr.f 0 (by decide)
 have zf1 := xr.f 1 (by decide)
 have zf2 := xr.f 2 (by decide)
 go_wp2
 obtain ⟨w3, hW, hO, qN0, qN1, qN2, xN⟩ := store3 xr (.bool false) (.slice none 0 0) (.slice none 0 0) (Go.Proofs.YtlkoenpdmlbhlaaGreat.nu rfl) (Go.Proofs.YtlkoenpdmlbhlaaGreat.nu rfl) (Go.Proofs.YtlkoenpdmlbhlaaGreat.nu rfl)
 try rw [hW]
 clear hW
 have lr : w.heap.size < w3.heap.size := by rw [hO.size]; exact lr
 have qr0 := qN0
 have qr1 := qN1
 have qr2 := qN2
 have xr := xN
 have hB := hO.below (by omega) hB
 clear hO qN0 qN1 qN2 xN zf0 zf1 zf2
 refine bodyPost_ret (v := .tuple #[.agg #[.bool false, .slice none 0 0, .slice none 0 0], .int .i64 6]) ?_ rfl ⟨_, _, _, _, _, _, rfl, OwnAt.nil _ _, OwnAt.nil _ _, hB⟩
 simp [results, Tryz.f45, go_sem, qr0, qr1, qr2]
set_option maxRecDepth 100000 in
set_option maxHeartbeats 8000000 in
theorem radd05_ok (ar : Option Addr) (nr cc : Nat) (f : Nat → Bool × List Nat × List Nat) (KB : Nat) (w : World) (gr : RatsAt w ar nr cc f) (hs : 1 ≤ KB) (hk : ∀ i, i < nr → (f i).2.1.length ≤ KB ∧ (f i).2.2.length ≤ KB) (hKB : KB + nr * (KB + 1) ≤ 40000) (hb : allR f nr = true) :
 Calls Tryz.prog 45 #[.slice ar nr cc] w (RetOk w (foldR (· + ·) 0 f nr)) := by
 have gk : ∀ i, i < nr → (f i).2.1.length ≤ 200000 ∧ (f i).2.2.length ≤ 200000 := fun i hi => by
  have h1 := hk i hi
  generalize nr * (KB + 1) = X at hKB
  omega
 have GK := Lib.hid gk
 clear gk
 have GB := Lib.hid hb
 have gr0 := gr
 have hcr := gr.cle
 have hnr := gr.le
 have hm : nr ≤ 9223372036854775807 := by unfold maxLen at hcr; omega
 have hs0 : rlen 0 ≤ KB := by first | (rw [rlen_zero]; exact hs) | (rw [rlen_one]; exact hs)
 obtain ⟨S, hS⟩ : ∃ S : Rat, S = 0 := ⟨_, rfl⟩
 rw [← hS] at hs0 ⊢
 have hs1 : neg S.num = false := by rw [hS]; rfl
 have hs2 : digs S.num.natAbs = [] := by rw [hS]; rfl
 have hs3 : digs S.den = digs 1 := by rw [hS]; rfl
 have hpl := hk
 have HS1 := Lib.hid hs1
 have HS2 := Lib.hid hs2
 have HS3 := Lib.hid hs3
 clear hb hk hS hs1 hs2 hs3
 go_enter Tryz.func45, Tryz.ntmps45
 have hB := Below.refl w.heap.size w
 go_wp2_with fail
 obtain ⟨w1, hW, hz0, hb, q, f⟩ := box1g w (w.heap.size) (by omega) #[.bool false, .slice none 0 0, .slice none 0 0] 27
 rw [hW]
 clear hW
 have gr := gr.past hb
 have hB := below_later hB hb
 clear hb
 have lr : w.heap.size < w1.heap.size := by omega
 have qr0 := q 0; have qr1 := q 1; have qr2 := q 2
 simp only [lgA, lgZ, lgS] at qr0 qr1 qr2
 have xr : BoxAt w1 (w.heap.size) 3 := BoxAt.of q f rfl (by simp [notU_bool, notU_slice, notU_i64])
 clear q f
 clear hz0
 with_reducible refine (rfine05_any _ _ _ _ _ gr GK.out).mono ?_
 rintro e w2 ⟨rfl, hb⟩
 have gr := gr.past hb
 have xr := xr.past hb lr
 obtain ⟨qr0, qr1, qr2, lr⟩ := bq3 hb lr qr0 qr1 qr2
 have hB := below_later hB hb
 clear hb
 rw [GB.out]
 go_wp2_with fail
 with_reducible refine (rone05_any _).mono ?_
 rintro e w3 ⟨ahO, nhO, chO, rfl, hO, hb⟩
 have hO := hO.mono hB.size
 have xr := xr.past hb lr
 obtain ⟨qr0, qr1, qr2, lr⟩ := bq3 hb lr qr0 qr1 qr2
 have hB := below_later hB hb
 clear hb
 have hgo := lr
 go_wp2_with fail
 obtain ⟨w4, hW, hz0, hb, q, f⟩ := box1g w3 (w3.heap.size) (by omega) #[.bool false, .slice none 0 0, .slice ahO nhO chO] 27
 rw [hW]
 clear hW
 have hO := hO.past hb
 have xr := xr.past hb lr
 obtain ⟨qr0, qr1, qr2, lr⟩ := bq3 hb lr qr0 qr1 qr2
 have hB := below_later hB hb
 clear hb
 have lo : w3.heap.size < w4.heap.size := by omega
 have qo0 := q 0; have qo1 := q 1; have qo2 := q 2
 simp only [lgA, lgZ, lgS] at qo0 qo1 qo2
 have xo : BoxAt w4 (w3.heap.size) 3 := BoxAt.of q f rfl (by simp [notU_bool, notU_slice, notU_i64])
 clear q f
 clear hz0
 generalize w3.heap.size = BO at *
 have lr : w.heap.size < w4.heap.size := by omega
 have hU0 : OwnAt w4 w.heap.size none 0 0 (digs S.num.natAbs) := by rw [HS2.out]; exact OwnAt.nil _ _
 have hD0 : OwnAt w4 w.heap.size ahO nhO chO (digs S.den) := by rw [HS3.out]; exact hO
 have qo0 : w4.cell? ⟨BO, 0, none⟩ = some (.bool (neg S.num)) := by rw [HS1.out]; exact qo0
 go_loopw [5] (fun i wr => ∃ (j : Nat) (au : Option Addr) (nu cu : Nat) (ad : Option Addr) (nd cd : Nat), j ≤ nr ∧ i = .int .i64 ((j : Nat) : Int) ∧ OwnAt wr w.heap.size au nu cu (digs (foldR (· + ·) S f j).num.natAbs) ∧ OwnAt wr w.heap.size ad nd cd (digs (foldR (· + ·) S f j).den) ∧ Below w.heap.size w wr ∧ BO < wr.heap.size ∧ w.heap.size < wr.heap.size ∧ wr.cell? ⟨w.heap.size, 0, none⟩ = some (.bool false) ∧ wr.cell? ⟨w.heap.size, 1, none⟩ = some (.slice none 0 0) ∧ wr.cell? ⟨w.heap.size, 2, none⟩ = some (.slice none 0 0) ∧ wr.cell? ⟨BO, 0, none⟩ = some (.bool (neg (foldR (· + ·) S f j).num)) ∧ wr.cell? ⟨BO, 1, none⟩ = some (.slice au nu cu) ∧ wr.cell? ⟨BO, 2, none⟩ = some (.slice ad nd cd) ∧ BoxAt wr (w.heap.size) 3 ∧ BoxAt wr BO 3) (fun i _ => nr - (intOf i).toNat)
 case atStart => exact ⟨0, _, _, _, _, _, _, Nat.zero_le _, rfl, hU0, hD0, hB, lo, lr, qr0, qr1, qr2, qo0, qo1, qo2, xr, xo⟩
 case round =>
  clear hU0 hD0 hO  hB lo lr qr0 qr1 qr2 qo0 qo1 qo2 xr xo
  obtain ⟨j, au, nu, cu, ad, nd, cd, hj, rfl, gu, gd, hB, lo, lr, qr0, qr1, qr2, qo0, qo1, qo2, xr, xo⟩ := hrel
  by_cases hlt : j < nr
  · rcases gr0.cell with h0 | ⟨b, o, rfl, hbl, hc⟩
    · omega
    obtain ⟨a5, n5, c5, a6, n6, c6, q1, q2, q3, h5, h6⟩ := hc j hlt
    have hz := allR_iff.1 GB.out j hlt
    have hf := chk3_rat h5.dig h6.dig hz
    have hfs : foldR (· + ·) S f (j + 1) = foldR (· + ·) S f j + ratOf (f j) := rfl
    obtain ⟨l1, l2⟩ := hpl j hlt
    rw [hf] at l1 l2
    have l3 : rlen (ratOf (f j)) ≤ KB := by unfold rlen; unfold partsOf at l1 l2; simp only at l1 l2; omega
    have l4 : rlen (foldR (· + ·) S f j) ≤ 40000 := by
     have h1 := foldR_len sum_short hs0 (f := f) (n := j) (fun i hi => by
      obtain ⟨l1, l2⟩ := hpl i (by omega)
      obtain ⟨b', o', e', _, hc'⟩ := (gr0.cell.resolve_left (by omega))
      obtain ⟨_, _, _, _, _, _, _, _, _, h5', h6'⟩ := hc' i (by omega)
      rw [chk3_rat h5'.dig h6'.dig (allR_iff.1 GB.out i (by omega))] at l1 l2
      unfold rlen; unfold partsOf at l1 l2; simp only at l1 l2; omega)
     have h2 : j * (KB + 1) ≤ nr * (KB + 1) := Nat.mul_le_mul_right _ hj
     omega
    have l5 : KB ≤ 40000 := by omega
    obtain ⟨Q, hQ⟩ : ∃ Q, ratOf (f j) = Q := ⟨_, rfl⟩
    rw [hQ] at hf hfs l3
    rw [hf] at q1 h5 h6
    simp only [partsOf] at q1 h5 h6
    have HFS := Lib.hid hfs
    obtain ⟨R, hR⟩ : ∃ R, foldR (· + ·) S f (j + 1) = R := ⟨_, rfl⟩
    obtain ⟨P, hP⟩ : ∃ P, foldR (· + ·) S f j = P := ⟨_, rfl⟩
    rw [hR, hP] at hfs
    rw [hP] at gu gd qo0 l4
    have HR := Lib.hid hR
    have HFS := Lib.hid hfs.symm
    have L3 := Lib.hid (Nat.le_trans l3 l5)
    have L4 := Lib.hid l4
    have h5 := h5.past hB
    have h6 := h6.past hB
    clear hc hz hf hfs l1 l2 l3 l4 l5 hQ hR hP hpl gr0
    go_wp2_with fail
    have szW := hB.size
    refine wp_region_inv (by kernel_rfl) rfl (by kernel_rfl) (fun A0 V0 dd aa ww => ∃ (y18 y19 y20 y21 y22 y23 : Value), aa = puts A0 [(18, y18), (19, y19), (20, y20), (21, y21), (22, y22), (23, y23)] ∧ Below (w).heap.size (w) ww ∧ V0.heap.size ≤ ww.heap.size ∧ OwnAt ww w.heap.size au nu cu (digs P.num.natAbs) ∧ OwnAt ww w.heap.size ad nd cd (digs P.den) ∧ NatAt ww a5 n5 c5 (digs Q.num.natAbs) ∧ NatAt ww a6 n6 c6 (digs Q.den) ∧ Cells ww (w.heap.size) [.bool false, .slice none 0 0, .slice none 0 0] ∧ BoxAt ww (w.heap.size) 3 ∧ BoxAt ww (BO) 3 ∧ Shut (dd 6 = false → Cells ww (BO) [.bool (neg P.num), .slice au nu cu, .slice ad nd cd]) ∧ Shut (dd 0 = true → y18 = .agg #[.bool (neg P.num), .slice au nu cu, .slice ad nd cd]) ∧ Shut (dd 1 = true → y19 = .slice (some ⟨b, o, none⟩) nr cc) ∧ Shut (dd 2 = true → y20 = .int .i64 (j : Int)) ∧ Shut (dd 3 = true → y21 = .pointer (some ⟨b, o + j * 3, none⟩)) ∧ Shut (dd 4 = true → y22 = .agg #[.bool (neg Q.num), .slice a5 n5 c5, .slice a6 n6 c6]) ∧ Shut (dd 5 = true → RatV V0.heap.size (R) y23 ww) ∧ Shut (dd 6 = true → CellsV (BO) y23 ww) ∧ True) ?_ ?_ ?_
    · exact ⟨_, _, _, _, _, _, puts_self _ [18, 19, 20, 21, 22, 23], hB.drew, Nat.le_refl _, gu.drew, gd.drew, h5.drew, h6.drew, (by intro k hk; simp at hk; rcases (by omega : k = 0 ∨ k = 1 ∨ k = 2) with rfl | rfl | rfl <;> assumption), xr.drew, xo.drew, (fun _ => by intro k hk; simp at hk; rcases (by omega : k = 0 ∨ k = 1 ∨ k = 2) with rfl | rfl | rfl <;> assumption), fun h => (by cases h), fun h => (by cases h), fun h => (by cases h), fun h => (by cases h), fun h => (by cases h), fun h => (by cases h), fun h => (by cases h), trivial⟩
    · refine Steps.cons ?_ (Steps.cons ?_ (Steps.cons ?_ (Steps.cons ?_ (Steps.cons ?_ (Steps.cons ?_ (Steps.cons ?_ (Steps.nil)))))))
      · intro dd aa ww K hc hun hn hI hK
        obtain ⟨y18, y19, y20, y21, y22, y23, ea, hb, hsz, vgu, vgd, vh5, vh6, cr, xr, xo, po, f0, f1, f2, f3, f4, f5, f6, _⟩ := hI
        try simp [Region.binds] at hn
        have hs := hc.not (f := 8) (s := 6) (l := 0) (by kernel_rfl) hun
        have e0 := po.out hs 0 (by simp)
        simp only [lgZ, lgS] at e0
        have e1 := po.out hs 1 (by simp)
        simp only [lgZ, lgS] at e1
        have e2 := po.out hs 2 (by simp)
        simp only [lgZ, lgS] at e2
        subst ea
        simp only [puts, Act.put, lsA, lsZ, lsS]
        go_simp
        refine hK.out _ _ ?_
        exact ⟨.agg #[.bool (neg P.num), .slice au nu cu, .slice ad nd cd], y19, y20, y21, y22, y23, by simp only [puts, Act.put, lsA, lsZ, lsS], hb, hsz, vgu, vgd, vh5, vh6, cr, xr, xo, fun h => (po.out (upd_off h)), fun _ => rfl, uo f1 rfl, uo f2 rfl, uo f3 rfl, uo f4 rfl, uo f5 rfl, uo f6 rfl, trivial⟩
      · intro dd aa ww K hc hun hn hI hK
        obtain ⟨y18, y19, y20, y21, y22, y23, ea, hb, hsz, vgu, vgd, vh5, vh6, cr, xr, xo, po, f0, f1, f2, f3, f4, f5, f6, _⟩ := hI
        try simp [Region.binds] at hn
        subst ea
        simp only [puts, Act.put, lsA, lsZ, lsS]
        go_simp
        refine hK.out _ _ ?_
        exact ⟨y18, .slice (some ⟨b, o, none⟩) nr cc, y20, y21, y22, y23, by simp only [puts, Act.put, lsA, lsZ, lsS], hb, hsz, vgu, vgd, vh5, vh6, cr, xr, xo, fun h => (po.out (upd_off h)), uo f0 rfl, fun _ => rfl, uo f2 rfl, uo f3 rfl, uo f4 rfl, uo f5 rfl, uo f6 rfl, trivial⟩
      · intro dd aa ww K hc hun hn hI hK
        obtain ⟨y18, y19, y20, y21, y22, y23, ea, hb, hsz, vgu, vgd, vh5, vh6, cr, xr, xo, po, f0, f1, f2, f3, f4, f5, f6, _⟩ := hI
        try simp [Region.binds] at hn
        subst ea
        simp only [puts, Act.put, lsA, lsZ, lsS]
        go_simp
        refine hK.out _ _ ?_
        exact ⟨y18, y19, .int .i64 (j : Int), y21, y22, y23, by simp only [puts, Act.put, lsA, lsZ, lsS], hb, hsz, vgu, vgd, vh5, vh6, cr, xr, xo, fun h => (po.out (upd_off h)), uo f0 rfl, uo f1 rfl, fun _ => rfl, uo f3 rfl, uo f4 rfl, uo f5 rfl, uo f6 rfl, trivial⟩
      · intro dd aa ww K hc hun hn hI hK
        obtain ⟨y18, y19, y20, y21, y22, y23, ea, hb, hsz, vgu, vgd, vh5, vh6, cr, xr, xo, po, f0, f1, f2, f3, f4, f5, f6, _⟩ := hI
        try simp [Region.binds] at hn
        have ex := f1.out (by first | (simp [hn]; done) | exact rc hc hn | exact rc hc hn.1 | exact rc hc hn.2 | exact rc hc hn.2.1 | exact rc hc hn.2.2)
        subst ex
        have ex := f2.out (by first | (simp [hn]; done) | exact rc hc hn | exact rc hc hn.1 | exact rc hc hn.2 | exact rc hc hn.2.1 | exact rc hc hn.2.2)
        subst ex
        subst ea
        simp only [puts, Act.put, lsA, lsZ, lsS]
        go_simp
        refine hK.out _ _ ?_
        exact ⟨y18, .slice (some ⟨b, o, none⟩) nr cc, .int .i64 (j : Int), .pointer (some ⟨b, o + j * 3, none⟩), y22, y23, by simp only [puts, Act.put, lsA, lsZ, lsS], hb, hsz, vgu, vgd, vh5, vh6, cr, xr, xo, fun h => (po.out (upd_off h)), uo f0 rfl, fun h => rfl, fun h => rfl, fun _ => rfl, uo f4 rfl, uo f5 rfl, uo f6 rfl, trivial⟩
      · intro dd aa ww K hc hun hn hI hK
        obtain ⟨y18, y19, y20, y21, y22, y23, ea, hb, hsz, vgu, vgd, vh5, vh6, cr, xr, xo, po, f0, f1, f2, f3, f4, f5, f6, _⟩ := hI
        try simp [Region.binds] at hn
        have ex := f3.out (by first | (simp [hn]; done) | exact rc hc hn | exact rc hc hn.1 | exact rc hc hn.2 | exact rc hc hn.2.1 | exact rc hc hn.2.2)
        subst ex
        have e5 := (hb.cell (p := ⟨b, _, none⟩) hbl).trans q1
        have e6 := (hb.cell (p := ⟨b, _, none⟩) hbl).trans q2
        have e7 := (hb.cell (p := ⟨b, _, none⟩) hbl).trans q3
        subst ea
        simp only [puts, Act.put, lsA, lsZ, lsS]
        go_simp
        refine hK.out _ _ ?_
        exact ⟨y18, y19, y20, .pointer (some ⟨b, o + j * 3, none⟩), .agg #[.bool (neg Q.num), .slice a5 n5 c5, .slice a6 n6 c6], y23, by simp only [puts, Act.put, lsA, lsZ, lsS], hb, hsz, vgu, vgd, vh5, vh6, cr, xr, xo, fun h => (po.out (upd_off h)), uo f0 rfl, uo f1 rfl, uo f2 rfl, fun h => rfl, fun _ => rfl, uo f5 rfl, uo f6 rfl, trivial⟩
      · intro dd aa ww K hc hun hn hI hK
        obtain ⟨y18, y19, y20, y21, y22, y23, ea, hb, hsz, vgu, vgd, vh5, vh6, cr, xr, xo, po, f0, f1, f2, f3, f4, f5, f6, _⟩ := hI
        try simp [Region.binds] at hn
        have ex := f0.out (by first | (simp [hn]; done) | exact rc hc hn | exact rc hc hn.1 | exact rc hc hn.2 | exact rc hc hn.2.1 | exact rc hc hn.2.2)
        subst ex
        have ex := f4.out (by first | (simp [hn]; done) | exact rc hc hn | exact rc hc hn.1 | exact rc hc hn.2 | exact rc hc hn.2.1 | exact rc hc hn.2.2)
        subst ex
        subst ea
        simp only [puts, Act.put, lsA, lsZ, lsS]
        go_simp
        with_reducible refine (rsum05_rat P Q _ _ _ _ _ _ _ _ _ _ _ _ _ vgu.toNatAt vgd.toNatAt vh5 vh6 L4.out L3.out).mono ?_
        rintro e w1 ⟨ahRU, nhRU, chRU, ahRD, nhRD, chRD, rfl, hRU, hRD, h1⟩
        rw [HFS.out] at hRU hRD ⊢
        refine hK.out _ _ ?_
        exact ⟨.agg #[.bool (neg P.num), .slice au nu cu, .slice ad nd cd], y19, y20, y21, .agg #[.bool (neg Q.num), .slice a5 n5 c5, .slice a6 n6 c6], .agg #[.bool (neg (R).num), .slice ahRU nhRU chRU, .slice ahRD nhRD chRD], by simp only [puts, Act.put, lsA, lsZ, lsS], below_later hb h1, Nat.le_trans hsz h1.size, vgu.past h1, vgd.past h1, vh5.past h1, vh6.past h1, cr.past h1 (Nat.lt_of_lt_of_le lr hsz), xr.past h1 (Nat.lt_of_lt_of_le lr hsz), xo.past h1 (Nat.lt_of_lt_of_le lo hsz), fun h => (po.out (upd_off h)).past h1 (Nat.lt_of_lt_of_le lo hsz), fun h => rfl, uo f1 rfl, uo f2 rfl, uo f3 rfl, fun h => rfl, fun _ => ⟨_, _, _, _, _, _, rfl, hRU.mono hsz, hRD.mono hsz⟩, fun h => absurd (hc.reach (f := 8) (s := 6) (l := 5) (by kernel_rfl) (upd_of rfl h)) (by rw [hun]; decide), trivial⟩
      · intro dd aa ww K hc hun hn hI hK
        obtain ⟨y18, y19, y20, y21, y22, y23, ea, hb, hsz, vgu, vgd, vh5, vh6, cr, xr, xo, po, f0, f1, f2, f3, f4, f5, f6, _⟩ := hI
        try simp [Region.binds] at hn
        obtain ⟨ahRU, nhRU, chRU, ahRD, nhRD, chRD, ex, hRU, hRD⟩ := f5.out (by first | (simp [hn]; done) | exact rc hc hn | exact rc hc hn.1 | exact rc hc hn.2 | exact rc hc hn.2.1 | exact rc hc hn.2.2)
        subst ex
        have x3 := xo
        obtain ⟨v0, v1, v2, z0, z1, z2, z3, z4, z5, _, _, _⟩ := x3.three
        have hv : ∀ v ∈ ([.bool (neg (R).num), .slice ahRU nhRU chRU, .slice ahRD nhRD chRD] : List Value), notU v := by simp [notU_bool, notU_slice, notU_i64]
        subst ea
        simp only [puts, Act.put, lsA, lsZ, lsS]
        go_simp
        refine hK.out _ _ ?_
        exact ⟨y18, y19, y20, y21, y22, .agg #[.bool (neg (R).num), .slice ahRU nhRU chRU, .slice ahRD nhRD chRD], by simp only [puts, Act.put, lsA, lsZ, lsS], hb.trans (below_setCells _ _ (by omega) [.bool (neg (R).num), .slice ahRU nhRU chRU, .slice ahRD nhRD chRD] 0 _), (by simpa using hsz), OwnAt.sets [.bool (neg (R).num), .slice ahRU nhRU chRU, .slice ahRD nhRD chRD] 0 _ vgu x3 (by simp) hv, OwnAt.sets [.bool (neg (R).num), .slice ahRU nhRU chRU, .slice ahRD nhRD chRD] 0 _ vgd x3 (by simp) hv, NatAt.sets [.bool (neg (R).num), .slice ahRU nhRU chRU, .slice ahRD nhRD chRD] 0 _ vh5 x3 (by simp) hv, NatAt.sets [.bool (neg (R).num), .slice ahRU nhRU chRU, .slice ahRD nhRD chRD] 0 _ vh6 x3 (by simp) hv, Cells.sets (by omega) [.bool (neg (R).num), .slice ahRU nhRU chRU, .slice ahRD nhRD chRD] 0 _ cr, BoxAt.sets [.bool (neg (R).num), .slice ahRU nhRU chRU, .slice ahRD nhRD chRD] _ 0 _ xr hv, BoxAt.sets [.bool (neg (R).num), .slice ahRU nhRU chRU, .slice ahRD nhRD chRD] _ 0 _ xo hv, fun h => absurd h (by simp [upd]), uo f0 rfl, uo f1 rfl, uo f2 rfl, uo f3 rfl, uo f4 rfl, fun h => ((f5.out (upd_of rfl h)).setsOff lo [.bool (neg (R).num), .slice ahRU nhRU chRU, .slice ahRD nhRD chRD]), fun _ => ⟨[.bool (neg (R).num), .slice ahRU nhRU chRU, .slice ahRD nhRD chRD], rfl, Cells.new x3 [.bool (neg (R).num), .slice ahRU nhRU chRU, .slice ahRD nhRD chRD] (by simp)⟩, trivial⟩
    intro dd aa w1 hd hI
    obtain ⟨y18, y19, y20, y21, y22, y23, ea, hb, hsz, vgu, vgd, vh5, vh6, cr, xr, xo, po, f0, f1, f2, f3, f4, f5, f6, _⟩ := hI
    have ex := f0.out (hd 0 (by simp))
    subst ex
    have ex := f1.out (hd 1 (by simp))
    subst ex
    have ex := f2.out (hd 2 (by simp))
    subst ex
    have ex := f3.out (hd 3 (by simp))
    subst ex
    have ex := f4.out (hd 4 (by simp))
    subst ex
    obtain ⟨ahRU, nhRU, chRU, ahRD, nhRD, chRD, ex, hRU, hRD⟩ := f5.out (hd 5 (by simp))
    subst ex
    obtain ⟨vs6, e, h6⟩ := f6.out (hd 6 (by simp))
    cases e
    have lo := Nat.lt_of_lt_of_le lo hsz
    have qo0 := h6 0 (by simp)
    simp only [lgZ, lgS] at qo0
    have qo1 := h6 1 (by simp)
    simp only [lgZ, lgS] at qo1
    have qo2 := h6 2 (by simp)
    simp only [lgZ, lgS] at qo2
    subst ea
    simp only [puts, Act.put, lsA, lsZ, lsS]
    have hRU := hRU.mono szW
    have hRD := hRD.mono szW
    have h5 := vh5
    have h6 := vh6
    have gu := vgu
    have gd := vgd
    have lr := Nat.lt_of_lt_of_le lr hsz
    have qr0 := cr 0 (by simp)
    simp only [lgZ, lgS] at qr0
    have qr1 := cr 1 (by simp)
    simp only [lgZ, lgS] at qr1
    have qr2 := cr 2 (by simp)
    simp only [lgZ, lgS] at qr2
    clear cr
    have hB := hb
    clear po
    clear hb hd
    go_wp2
    go_roundw
    case rel => exact ⟨j + 1, _, _, _, _, _, _, by omega, by go_num, by rw [HR.out]; exact hRU, by rw [HR.out]; exact hRD, hB, lo, lr, qr0, qr1, qr2, by rw [HR.out]; exact qo0, qo1, qo2, xr, xo⟩
    case measure => simp [intOf]; omega
  · obtain rfl : j = nr := by omega
    clear gr0 hpl hlt
    have zf0 := xr.f 0 (by decide)
    have zf1 := xr.f 1 (by decide)
    have zf2 := xr.f 2 (by decide)
    go_wp2
    obtain ⟨w1, hW, hO, qN0, qN1, qN2, xN⟩ := store3 xr (.bool (neg (foldR (· + ·) S f j).num)) (.slice au nu cu) (.slice ad nd cd) (Go.Proofs.YtlkoenpdmlbhlaaGreat.nu rfl) (Go.Proofs.YtlkoenpdmlbhlaaGreat.nu rfl) (Go.Proofs.YtlkoenpdmlbhlaaGreat.nu rfl)
    try rw [hW]
    clear hW
    have gu := hO.own gu
    have gd := hO.own gd
    have lr : w.heap.size < w1.heap.size := by rw [hO.size]; exact lr
    have qo0 := (hO.cell (b2 := BO) (k := 0) (by omega)).trans qo0
    have qo1 := (hO.cell (b2 := BO) (k := 1) (by omega)).trans qo1
    have qo2 := (hO.cell (b2 := BO) (k := 2) (by omega)).trans qo2
    have xo := hO.box xo
    have lo : BO < w1.heap.size := by rw [hO.size]; exact lo
    have qr0 := qN0
    have qr1 := qN1
    have qr2 := qN2
    have xr := xN
    have hB := hO.below (by omega) hB
    clear hO qN0 qN1 qN2 xN zf0 zf1 zf2
    refine bodyPost_ret (v := .tuple #[.agg #[.bool (neg (foldR (· + ·) S f j).num), .slice au nu cu, .slice ad nd cd], .int .i64 0]) ?_ rfl ⟨_, _, _, _, _, _, rfl, gu, gd, hB⟩
    simp [results, Tryz.f45, go_sem, qr0, qr1, qr2]
theorem radd05_any (ar : Option Addr) (nr cc : Nat) (f : Nat → Bool × List Nat × List Nat) (KB : Nat) (w : World) (gr : RatsAt w ar nr cc f) (hs : 1 ≤ KB) (hk : ∀ i, i < nr → (f i).2.1.length ≤ KB ∧ (f i).2.2.length ≤ KB) (hKB : KB + nr * (KB + 1) ≤ 40000) :
 Calls Tryz.prog 45 #[.slice ar nr cc] w (RetAns w (foldA (· + ·) 0 f nr)) := by
 unfold foldA
 cases hb : allR f nr
 · exact radd05_bad ar nr cc f KB w gr hs hk hKB hb
 · exact radd05_ok ar nr cc f KB w gr hs hk hKB hb
set_option maxRecDepth 100000 in
set_option maxHeartbeats 4000000 in
theorem rmul05_bad (ar : Option Addr) (nr cc : Nat) (f : Nat → Bool × List Nat × List Nat) (KB : Nat) (w : World) (gr : RatsAt w ar nr cc f) (hs : 1 ≤ KB) (hk : ∀ i, i < nr → (f i).2.1.length ≤ KB ∧ (f i).2.2.length ≤ KB) (hKB : KB + nr * (KB + 1) ≤ 40000) (hb : allR f nr = false) :
 Calls Tryz.prog 62 #[.slice ar nr cc] w (RetAns w (.error 6)) := by
 have gk : ∀ i, i < nr → (f i).2.1.length ≤ 200000 ∧ (f i).2.2.length ≤ 200000 := fun i hi => by
  have h1 := hk i hi
  generalize nr * (KB + 1) = X at hKB
  omega
 have GK := Lib.hid gk
 clear gk
 have GB := Lib.hid hb
 clear hb hk hKB
 go_enter Tryz.func62, Tryz.ntmps62
 have hB := Below.refl w.heap.size w
 go_wp2_with fail
 obtain ⟨w1, hW, hz0, hb, q, f⟩ := box1g w (w.heap.size) (by omega) #[.bool false, .slice none 0 0, .slice none 0 0] 27
 rw [hW]
 clear hW
 have gr := gr.past hb
 have hB := below_later hB hb
 clear hb
 have lr : w.heap.size < w1.heap.size := by omega
 have qr0 := q 0; have qr1 := q 1; have qr2 := q 2
 simp only [lgA, lgZ, lgS] at qr0 qr1 qr2
 have xr : BoxAt w1 (w.heap.size) 3 := BoxAt.of q f rfl (by simp [notU_bool, notU_slice, notU_i64])
 clear q f
 clear hz0
 with_reducible refine (rfine05_any _ _ _ _ _ gr GK.out).mono ?_
 rintro e w2 ⟨rfl, hb⟩
 have gr := gr.past hb
 have xr := xr.past hb lr
 obtain ⟨qr0, qr1, qr2, lr⟩ := bq3 hb lr qr0 qr1 qr2
 have hB := below_later hB hb
 clear hb
 rw [GB.out]
 have zf0 := xr.f 0 (by decide)
 have zf1 := xr.f 1 (by decide)
 have zf2 := xr.f 2 (by decide)
 go_wp2
 obtain ⟨w3, hW, hO, qN0, qN1, qN2, xN⟩ := store3 xr (.bool false) (.slice none 0 0) (.slice none 0 0) (Go.Proofs.YtlkoenpdmlbhlaaGreat.nu rfl) (Go.Proofs.YtlkoenpdmlbhlaaGreat.nu rfl) (Go.Proofs.YtlkoenpdmlbhlaaGreat.nu rfl)
 try rw [hW]
 clear hW
 have lr : w.heap.size < w3.heap.size := by rw [hO.size]; exact lr
 have qr0 := qN0
 have qr1 := qN1
 have qr2 := qN2
 have xr := xN
 have hB := hO.below (by omega) hB
 clear hO qN0 qN1 qN2 xN zf0 zf1 zf2
 refine bodyPost_ret (v := .tuple #[.agg #[.bool false, .slice none 0 0, .slice none 0 0], .int .i64 6]) ?_ rfl ⟨_, _, _, _, _, _, rfl, OwnAt.nil _ _, OwnAt.nil _ _, hB⟩
 simp [results, Tryz.f62, go_sem, qr0, qr1, qr2]
set_option maxRecDepth 100000 in
set_option maxHeartbeats 8000000 in
theorem rmul05_ok (ar : Option Addr) (nr cc : Nat) (f : Nat → Bool × List Nat × List Nat) (KB : Nat) (w : World) (gr : RatsAt w ar nr cc f) (hs : 1 ≤ KB) (hk : ∀ i, i < nr → (f i).2.1.length ≤ KB ∧ (f i).2.2.length ≤ KB) (hKB : KB + nr * (KB + 1) ≤ 40000) (hb : allR f nr = true) :
 Calls Tryz.prog 62 #[.slice ar nr cc] w (RetOk w (foldR (· * ·) 1 f nr)) := by
 have gk : ∀ i, i < nr → (f i).2.1.length ≤ 200000 ∧ (f i).2.2.length ≤ 200000 := fun i hi => by
  have h1 := hk i hi
  generalize nr * (KB + 1) = X at hKB
  omega
 have GK := Lib.hid gk
 clear gk
 have GB := Lib.hid hb
 have gr0 := gr
 have hcr := gr.cle
 have hnr := gr.le
 have hm : nr ≤ 9223372036854775807 := by unfold maxLen at hcr; omega
 have hs0 : rlen 1 ≤ KB := by first | (rw [rlen_zero]; exact hs) | (rw [rlen_one]; exact hs)
 obtain ⟨S, hS⟩ : ∃ S : Rat, S = 1 := ⟨_, rfl⟩
 rw [← hS] at hs0 ⊢
 have hs1 : neg S.num = false := by rw [hS]; rfl
 have hs2 : digs S.num.natAbs = digs 1 := by rw [hS]; rfl
 have hs3 : digs S.den = digs 1 := by rw [hS]; rfl
 have hpl := hk
 have HS1 := Lib.hid hs1
 have HS2 := Lib.hid hs2
 have HS3 := Lib.hid hs3
 clear hb hk hS hs1 hs2 hs3
 go_enter Tryz.func62, Tryz.ntmps62
 have hB := Below.refl w.heap.size w
 go_wp2_with fail
 obtain ⟨w1, hW, hz0, hb, q, f⟩ := box1g w (w.heap.size) (by omega) #[.bool false, .slice none 0 0, .slice none 0 0] 27
 rw [hW]
 clear hW
 have gr := gr.past hb
 have hB := below_later hB hb
 clear hb
 have lr : w.heap.size < w1.heap.size := by omega
 have qr0 := q 0; have qr1 := q 1; have qr2 := q 2
 simp only [lgA, lgZ, lgS] at qr0 qr1 qr2
 have xr : BoxAt w1 (w.heap.size) 3 := BoxAt.of q f rfl (by simp [notU_bool, notU_slice, notU_i64])
 clear q f
 clear hz0
 with_reducible refine (rfine05_any _ _ _ _ _ gr GK.out).mono ?_
 rintro e w2 ⟨rfl, hb⟩
 have gr := gr.past hb
 have xr := xr.past hb lr
 obtain ⟨qr0, qr1, qr2, lr⟩ := bq3 hb lr qr0 qr1 qr2
 have hB := below_later hB hb
 clear hb
 rw [GB.out]
 go_wp2_with fail
 with_reducible refine (rone05_any _).mono ?_
 rintro e w3 ⟨ahP, nhP, chP, rfl, hP, hb⟩
 have hP := hP.mono hB.size
 have xr := xr.past hb lr
 obtain ⟨qr0, qr1, qr2, lr⟩ := bq3 hb lr qr0 qr1 qr2
 have hB := below_later hB hb
 clear hb
 have bP : nhP ≤ 1 := by rw [← hP.len]; exact Nat.le_refl _
 go_wp2_with fail
 with_reducible refine (rwhole_one hP.toNatAt (by omega)).mono ?_
 rintro e w4 ⟨ahU, nhU, chU, rfl, hU, hb⟩
 have hU := hU.mono hB.size
 have hP := hP.past hb
 have xr := xr.past hb lr
 obtain ⟨qr0, qr1, qr2, lr⟩ := bq3 hb lr qr0 qr1 qr2
 have hB := below_later hB hb
 clear hb
 go_wp2_with fail
 with_reducible refine (rone05_any _).mono ?_
 rintro e w5 ⟨ahO, nhO, chO, rfl, hO, hb⟩
 have hO := hO.mono hB.size
 have hU := hU.past hb
 have xr := xr.past hb lr
 obtain ⟨qr0, qr1, qr2, lr⟩ := bq3 hb lr qr0 qr1 qr2
 have hB := below_later hB hb
 clear hb
 have hgo := lr
 go_wp2_with fail
 obtain ⟨w6, hW, hz0, hb, q, f⟩ := box1g w5 (w5.heap.size) (by omega) #[.bool (neg 1), .slice ahU nhU chU, .slice ahO nhO chO] 27
 rw [hW]
 clear hW
 have hU := hU.past hb
 have hO := hO.past hb
 have xr := xr.past hb lr
 obtain ⟨qr0, qr1, qr2, lr⟩ := bq3 hb lr qr0 qr1 qr2
 have hB := below_later hB hb
 clear hb
 have lo : w5.heap.size < w6.heap.size := by omega
 have qo0 := q 0; have qo1 := q 1; have qo2 := q 2
 simp only [lgA, lgZ, lgS] at qo0 qo1 qo2
 have xo : BoxAt w6 (w5.heap.size) 3 := BoxAt.of q f rfl (by simp [notU_bool, notU_slice, notU_i64])
 clear q f
 clear hz0
 generalize w5.heap.size = BO at *
 have lr : w.heap.size < w6.heap.size := by omega
 have hU0 : OwnAt w6 w.heap.size ahU nhU chU (digs S.num.natAbs) := by rw [HS2.out]; exact hU
 have hD0 : OwnAt w6 w.heap.size ahO nhO chO (digs S.den) := by rw [HS3.out]; exact hO
 have qo0 : w6.cell? ⟨BO, 0, none⟩ = some (.bool (neg S.num)) := by rw [HS1.out]; exact qo0
 go_loopw [5] (fun i wr => ∃ (j : Nat) (au : Option Addr) (nu cu : Nat) (ad : Option Addr) (nd cd : Nat), j ≤ nr ∧ i = .int .i64 ((j : Nat) : Int) ∧ OwnAt wr w.heap.size au nu cu (digs (foldR (· * ·) S f j).num.natAbs) ∧ OwnAt wr w.heap.size ad nd cd (digs (foldR (· * ·) S f j).den) ∧ Below w.heap.size w wr ∧ BO < wr.heap.size ∧ w.heap.size < wr.heap.size ∧ wr.cell? ⟨w.heap.size, 0, none⟩ = some (.bool false) ∧ wr.cell? ⟨w.heap.size, 1, none⟩ = some (.slice none 0 0) ∧ wr.cell? ⟨w.heap.size, 2, none⟩ = some (.slice none 0 0) ∧ wr.cell? ⟨BO, 0, none⟩ = some (.bool (neg (foldR (· * ·) S f j).num)) ∧ wr.cell? ⟨BO, 1, none⟩ = some (.slice au nu cu) ∧ wr.cell? ⟨BO, 2, none⟩ = some (.slice ad nd cd) ∧ BoxAt wr (w.heap.size) 3 ∧ BoxAt wr BO 3) (fun i _ => nr - (intOf i).toNat)
 case atStart => exact ⟨0, _, _, _, _, _, _, Nat.zero_le _, rfl, hU0, hD0, hB, lo, lr, qr0, qr1, qr2, qo0, qo1, qo2, xr, xo⟩
 case round =>
  clear hU0 hD0 hO hU hB lo lr qr0 qr1 qr2 qo0 qo1 qo2 xr xo
  obtain ⟨j, au, nu, cu, ad, nd, cd, hj, rfl, gu, gd, hB, lo, lr, qr0, qr1, qr2, qo0, qo1, qo2, xr, xo⟩ := hrel
  by_cases hlt : j < nr
  · rcases gr0.cell with h0 | ⟨b, o, rfl, hbl, hc⟩
    · omega
    obtain ⟨a5, n5, c5, a6, n6, c6, q1, q2, q3, h5, h6⟩ := hc j hlt
    have hz := allR_iff.1 GB.out j hlt
    have hf := chk3_rat h5.dig h6.dig hz
    have hfs : foldR (· * ·) S f (j + 1) = foldR (· * ·) S f j * ratOf (f j) := rfl
    obtain ⟨l1, l2⟩ := hpl j hlt
    rw [hf] at l1 l2
    have l3 : rlen (ratOf (f j)) ≤ KB := by unfold rlen; unfold partsOf at l1 l2; simp only at l1 l2; omega
    have l4 : rlen (foldR (· * ·) S f j) ≤ 40000 := by
     have h1 := foldR_len product_short hs0 (f := f) (n := j) (fun i hi => by
      obtain ⟨l1, l2⟩ := hpl i (by omega)
      obtain ⟨b', o', e', _, hc'⟩ := (gr0.cell.resolve_left (by omega))
      obtain ⟨_, _, _, _, _, _, _, _, _, h5', h6'⟩ := hc' i (by omega)
      rw [chk3_rat h5'.dig h6'.dig (allR_iff.1 GB.out i (by omega))] at l1 l2
      unfold rlen; unfold partsOf at l1 l2; simp only at l1 l2; omega)
     have h2 : j * (KB + 1) ≤ nr * (KB + 1) := Nat.mul_le_mul_right _ hj
     omega
    have l5 : KB ≤ 40000 := by omega
    obtain ⟨Q, hQ⟩ : ∃ Q, ratOf (f j) = Q := ⟨_, rfl⟩
    rw [hQ] at hf hfs l3
    rw [hf] at q1 h5 h6
    simp only [partsOf] at q1 h5 h6
    have HFS := Lib.hid hfs
    obtain ⟨R, hR⟩ : ∃ R, foldR (· * ·) S f (j + 1) = R := ⟨_, rfl⟩
    obtain ⟨P, hP⟩ : ∃ P, foldR (· * ·) S f j = P := ⟨_, rfl⟩
    rw [hR, hP] at hfs
    rw [hP] at gu gd qo0 l4
    have HR := Lib.hid hR
    have HFS := Lib.hid hfs.symm
    have L3 := Lib.hid (Nat.le_trans l3 l5)
    have L4 := Lib.hid l4
    have h5 := h5.past hB
    have h6 := h6.past hB
    clear hc hz hf hfs l1 l2 l3 l4 l5 hQ hR hP hpl gr0
    go_wp2_with fail
    have szW := hB.size
    refine wp_region_inv (by kernel_rfl) rfl (by kernel_rfl) (fun A0 V0 dd aa ww => ∃ (y20 y21 y22 y23 y24 y25 : Value), aa = puts A0 [(20, y20), (21, y21), (22, y22), (23, y23), (24, y24), (25, y25)] ∧ Below (w).heap.size (w) ww ∧ V0.heap.size ≤ ww.heap.size ∧ OwnAt ww w.heap.size au nu cu (digs P.num.natAbs) ∧ OwnAt ww w.heap.size ad nd cd (digs P.den) ∧ NatAt ww a5 n5 c5 (digs Q.num.natAbs) ∧ NatAt ww a6 n6 c6 (digs Q.den) ∧ Cells ww (w.heap.size) [.bool false, .slice none 0 0, .slice none 0 0] ∧ BoxAt ww (w.heap.size) 3 ∧ BoxAt ww (BO) 3 ∧ Shut (dd 6 = false → Cells ww (BO) [.bool (neg P.num), .slice au nu cu, .slice ad nd cd]) ∧ Shut (dd 0 = true → y20 = .agg #[.bool (neg P.num), .slice au nu cu, .slice ad nd cd]) ∧ Shut (dd 1 = true → y21 = .slice (some ⟨b, o, none⟩) nr cc) ∧ Shut (dd 2 = true → y22 = .int .i64 (j : Int)) ∧ Shut (dd 3 = true → y23 = .pointer (some ⟨b, o + j * 3, none⟩)) ∧ Shut (dd 4 = true → y24 = .agg #[.bool (neg Q.num), .slice a5 n5 c5, .slice a6 n6 c6]) ∧ Shut (dd 5 = true → RatV V0.heap.size (R) y25 ww) ∧ Shut (dd 6 = true → CellsV (BO) y25 ww) ∧ True) ?_ ?_ ?_
    · exact ⟨_, _, _, _, _, _, puts_self _ [20, 21, 22, 23, 24, 25], hB.drew, Nat.le_refl _, gu.drew, gd.drew, h5.drew, h6.drew, (by intro k hk; simp at hk; rcases (by omega : k = 0 ∨ k = 1 ∨ k = 2) with rfl | rfl | rfl <;> assumption), xr.drew, xo.drew, (fun _ => by intro k hk; simp at hk; rcases (by omega : k = 0 ∨ k = 1 ∨ k = 2) with rfl | rfl | rfl <;> assumption), fun h => (by cases h), fun h => (by cases h), fun h => (by cases h), fun h => (by cases h), fun h => (by cases h), fun h => (by cases h), fun h => (by cases h), trivial⟩
    · refine Steps.cons ?_ (Steps.cons ?_ (Steps.cons ?_ (Steps.cons ?_ (Steps.cons ?_ (Steps.cons ?_ (Steps.cons ?_ (Steps.nil)))))))
      · intro dd aa ww K hc hun hn hI hK
        obtain ⟨y20, y21, y22, y23, y24, y25, ea, hb, hsz, vgu, vgd, vh5, vh6, cr, xr, xo, po, f0, f1, f2, f3, f4, f5, f6, _⟩ := hI
        try simp [Region.binds] at hn
        have hs := hc.not (f := 8) (s := 6) (l := 0) (by kernel_rfl) hun
        have e0 := po.out hs 0 (by simp)
        simp only [lgZ, lgS] at e0
        have e1 := po.out hs 1 (by simp)
        simp only [lgZ, lgS] at e1
        have e2 := po.out hs 2 (by simp)
        simp only [lgZ, lgS] at e2
        subst ea
        simp only [puts, Act.put, lsA, lsZ, lsS]
        go_simp
        refine hK.out _ _ ?_
        exact ⟨.agg #[.bool (neg P.num), .slice au nu cu, .slice ad nd cd], y21, y22, y23, y24, y25, by simp only [puts, Act.put, lsA, lsZ, lsS], hb, hsz, vgu, vgd, vh5, vh6, cr, xr, xo, fun h => (po.out (upd_off h)), fun _ => rfl, uo f1 rfl, uo f2 rfl, uo f3 rfl, uo f4 rfl, uo f5 rfl, uo f6 rfl, trivial⟩
      · intro dd aa ww K hc hun hn hI hK
        obtain ⟨y20, y21, y22, y23, y24, y25, ea, hb, hsz, vgu, vgd, vh5, vh6, cr, xr, xo, po, f0, f1, f2, f3, f4, f5, f6, _⟩ := hI
        try simp [Region.binds] at hn
        subst ea
        simp only [puts, Act.put, lsA, lsZ, lsS]
        go_simp
        refine hK.out _ _ ?_
        exact ⟨y20, .slice (some ⟨b, o, none⟩) nr cc, y22, y23, y24, y25, by simp only [puts, Act.put, lsA, lsZ, lsS], hb, hsz, vgu, vgd, vh5, vh6, cr, xr, xo, fun h => (po.out (upd_off h)), uo f0 rfl, fun _ => rfl, uo f2 rfl, uo f3 rfl, uo f4 rfl, uo f5 rfl, uo f6 rfl, trivial⟩
      · intro dd aa ww K hc hun hn hI hK
        obtain ⟨y20, y21, y22, y23, y24, y25, ea, hb, hsz, vgu, vgd, vh5, vh6, cr, xr, xo, po, f0, f1, f2, f3, f4, f5, f6, _⟩ := hI
        try simp [Region.binds] at hn
        subst ea
        simp only [puts, Act.put, lsA, lsZ, lsS]
        go_simp
        refine hK.out _ _ ?_
        exact ⟨y20, y21, .int .i64 (j : Int), y23, y24, y25, by simp only [puts, Act.put, lsA, lsZ, lsS], hb, hsz, vgu, vgd, vh5, vh6, cr, xr, xo, fun h => (po.out (upd_off h)), uo f0 rfl, uo f1 rfl, fun _ => rfl, uo f3 rfl, uo f4 rfl, uo f5 rfl, uo f6 rfl, trivial⟩
      · intro dd aa ww K hc hun hn hI hK
        obtain ⟨y20, y21, y22, y23, y24, y25, ea, hb, hsz, vgu, vgd, vh5, vh6, cr, xr, xo, po, f0, f1, f2, f3, f4, f5, f6, _⟩ := hI
        try simp [Region.binds] at hn
        have ex := f1.out (by first | (simp [hn]; done) | exact rc hc hn | exact rc hc hn.1 | exact rc hc hn.2 | exact rc hc hn.2.1 | exact rc hc hn.2.2)
        subst ex
        have ex := f2.out (by first | (simp [hn]; done) | exact rc hc hn | exact rc hc hn.1 | exact rc hc hn.2 | exact rc hc hn.2.1 | exact rc hc hn.2.2)
        subst ex
        subst ea
        simp only [puts, Act.put, lsA, lsZ, lsS]
        go_simp
        refine hK.out _ _ ?_
        exact ⟨y20, .slice (some ⟨b, o, none⟩) nr cc, .int .i64 (j : Int), .pointer (some ⟨b, o + j * 3, none⟩), y24, y25, by simp only [puts, Act.put, lsA, lsZ, lsS], hb, hsz, vgu, vgd, vh5, vh6, cr, xr, xo, fun h => (po.out (upd_off h)), uo f0 rfl, fun h => rfl, fun h => rfl, fun _ => rfl, uo f4 rfl, uo f5 rfl, uo f6 rfl, trivial⟩
      · intro dd aa ww K hc hun hn hI hK
        obtain ⟨y20, y21, y22, y23, y24, y25, ea, hb, hsz, vgu, vgd, vh5, vh6, cr, xr, xo, po, f0, f1, f2, f3, f4, f5, f6, _⟩ := hI
        try simp [Region.binds] at hn
        have ex := f3.out (by first | (simp [hn]; done) | exact rc hc hn | exact rc hc hn.1 | exact rc hc hn.2 | exact rc hc hn.2.1 | exact rc hc hn.2.2)
        subst ex
        have e5 := (hb.cell (p := ⟨b, _, none⟩) hbl).trans q1
        have e6 := (hb.cell (p := ⟨b, _, none⟩) hbl).trans q2
        have e7 := (hb.cell (p := ⟨b, _, none⟩) hbl).trans q3
        subst ea
        simp only [puts, Act.put, lsA, lsZ, lsS]
        go_simp
        refine hK.out _ _ ?_
        exact ⟨y20, y21, y22, .pointer (some ⟨b, o + j * 3, none⟩), .agg #[.bool (neg Q.num), .slice a5 n5 c5, .slice a6 n6 c6], y25, by simp only [puts, Act.put, lsA, lsZ, lsS], hb, hsz, vgu, vgd, vh5, vh6, cr, xr, xo, fun h => (po.out (upd_off h)), uo f0 rfl, uo f1 rfl, uo f2 rfl, fun h => rfl, fun _ => rfl, uo f5 rfl, uo f6 rfl, trivial⟩
      · intro dd aa ww K hc hun hn hI hK
        obtain ⟨y20, y21, y22, y23, y24, y25, ea, hb, hsz, vgu, vgd, vh5, vh6, cr, xr, xo, po, f0, f1, f2, f3, f4, f5, f6, _⟩ := hI
        try simp [Region.binds] at hn
        have ex := f0.out (by first | (simp [hn]; done) | exact rc hc hn | exact rc hc hn.1 | exact rc hc hn.2 | exact rc hc hn.2.1 | exact rc hc hn.2.2)
        subst ex
        have ex := f4.out (by first | (simp [hn]; done) | exact rc hc hn | exact rc hc hn.1 | exact rc hc hn.2 | exact rc hc hn.2.1 | exact rc hc hn.2.2)
        subst ex
        subst ea
        simp only [puts, Act.put, lsA, lsZ, lsS]
        go_simp
        with_reducible refine (rproduct05_rat P Q _ _ _ _ _ _ _ _ _ _ _ _ _ vgu.toNatAt vgd.toNatAt vh5 vh6 L4.out L3.out).mono ?_
        rintro e w1 ⟨ahRU, nhRU, chRU, ahRD, nhRD, chRD, rfl, hRU, hRD, h1⟩
        rw [HFS.out] at hRU hRD ⊢
        refine hK.out _ _ ?_
        exact ⟨.agg #[.bool (neg P.num), .slice au nu cu, .slice ad nd cd], y21, y22, y23, .agg #[.bool (neg Q.num), .slice a5 n5 c5, .slice a6 n6 c6], .agg #[.bool (neg (R).num), .slice ahRU nhRU chRU, .slice ahRD nhRD chRD], by simp only [puts, Act.put, lsA, lsZ, lsS], below_later hb h1, Nat.le_trans hsz h1.size, vgu.past h1, vgd.past h1, vh5.past h1, vh6.past h1, cr.past h1 (Nat.lt_of_lt_of_le lr hsz), xr.past h1 (Nat.lt_of_lt_of_le lr hsz), xo.past h1 (Nat.lt_of_lt_of_le lo hsz), fun h => (po.out (upd_off h)).past h1 (Nat.lt_of_lt_of_le lo hsz), fun h => rfl, uo f1 rfl, uo f2 rfl, uo f3 rfl, fun h => rfl, fun _ => ⟨_, _, _, _, _, _, rfl, hRU.mono hsz, hRD.mono hsz⟩, fun h => absurd (hc.reach (f := 8) (s := 6) (l := 5) (by kernel_rfl) (upd_of rfl h)) (by rw [hun]; decide), trivial⟩
      · intro dd aa ww K hc hun hn hI hK
        obtain ⟨y20, y21, y22, y23, y24, y25, ea, hb, hsz, vgu, vgd, vh5, vh6, cr, xr, xo, po, f0, f1, f2, f3, f4, f5, f6, _⟩ := hI
        try simp [Region.binds] at hn
        obtain ⟨ahRU, nhRU, chRU, ahRD, nhRD, chRD, ex, hRU, hRD⟩ := f5.out (by first | (simp [hn]; done) | exact rc hc hn | exact rc hc hn.1 | exact rc hc hn.2 | exact rc hc hn.2.1 | exact rc hc hn.2.2)
        subst ex
        have x3 := xo
        obtain ⟨v0, v1, v2, z0, z1, z2, z3, z4, z5, _, _, _⟩ := x3.three
        have hv : ∀ v ∈ ([.bool (neg (R).num), .slice ahRU nhRU chRU, .slice ahRD nhRD chRD] : List Value), notU v := by simp [notU_bool, notU_slice, notU_i64]
        subst ea
        simp only [puts, Act.put, lsA, lsZ, lsS]
        go_simp
        refine hK.out _ _ ?_
        exact ⟨y20, y21, y22, y23, y24, .agg #[.bool (neg (R).num), .slice ahRU nhRU chRU, .slice ahRD nhRD chRD], by simp only [puts, Act.put, lsA, lsZ, lsS], hb.trans (below_setCells _ _ (by omega) [.bool (neg (R).num), .slice ahRU nhRU chRU, .slice ahRD nhRD chRD] 0 _), (by simpa using hsz), OwnAt.sets [.bool (neg (R).num), .slice ahRU nhRU chRU, .slice ahRD nhRD chRD] 0 _ vgu x3 (by simp) hv, OwnAt.sets [.bool (neg (R).num), .slice ahRU nhRU chRU, .slice ahRD nhRD chRD] 0 _ vgd x3 (by simp) hv, NatAt.sets [.bool (neg (R).num), .slice ahRU nhRU chRU, .slice ahRD nhRD chRD] 0 _ vh5 x3 (by simp) hv, NatAt.sets [.bool (neg (R).num), .slice ahRU nhRU chRU, .slice ahRD nhRD chRD] 0 _ vh6 x3 (by simp) hv, Cells.sets (by omega) [.bool (neg (R).num), .slice ahRU nhRU chRU, .slice ahRD nhRD chRD] 0 _ cr, BoxAt.sets [.bool (neg (R).num), .slice ahRU nhRU chRU, .slice ahRD nhRD chRD] _ 0 _ xr hv, BoxAt.sets [.bool (neg (R).num), .slice ahRU nhRU chRU, .slice ahRD nhRD chRD] _ 0 _ xo hv, fun h => absurd h (by simp [upd]), uo f0 rfl, uo f1 rfl, uo f2 rfl, uo f3 rfl, uo f4 rfl, fun h => ((f5.out (upd_of rfl h)).setsOff lo [.bool (neg (R).num), .slice ahRU nhRU chRU, .slice ahRD nhRD chRD]), fun _ => ⟨[.bool (neg (R).num), .slice ahRU nhRU chRU, .slice ahRD nhRD chRD], rfl, Cells.new x3 [.bool (neg (R).num), .slice ahRU nhRU chRU, .slice ahRD nhRD chRD] (by simp)⟩, trivial⟩
    intro dd aa w1 hd hI
    obtain ⟨y20, y21, y22, y23, y24, y25, ea, hb, hsz, vgu, vgd, vh5, vh6, cr, xr, xo, po, f0, f1, f2, f3, f4, f5, f6, _⟩ := hI
    have ex := f0.out (hd 0 (by simp))
    subst ex
    have ex := f1.out (hd 1 (by simp))
    subst ex
    have ex := f2.out (hd 2 (by simp))
    subst ex
    have ex := f3.out (hd 3 (by simp))
    subst ex
    have ex := f4.out (hd 4 (by simp))
    subst ex
    obtain ⟨ahRU, nhRU, chRU, ahRD, nhRD, chRD, ex, hRU, hRD⟩ := f5.out (hd 5 (by simp))
    subst ex
    obtain ⟨vs6, e, h6⟩ := f6.out (hd 6 (by simp))
    cases e
    have lo := Nat.lt_of_lt_of_le lo hsz
    have qo0 := h6 0 (by simp)
    simp only [lgZ, lgS] at qo0
    have qo1 := h6 1 (by simp)
    simp only [lgZ, lgS] at qo1
    have qo2 := h6 2 (by simp)
    simp only [lgZ, lgS] at qo2
    subst ea
    simp only [puts, Act.put, lsA, lsZ, lsS]
    have hRU := hRU.mono szW
    have hRD := hRD.mono szW
    have h5 := vh5
    have h6 := vh6
    have gu := vgu
    have gd := vgd
    have lr := Nat.lt_of_lt_of_le lr hsz
    have qr0 := cr 0 (by simp)
    simp only [lgZ, lgS] at qr0
    have qr1 := cr 1 (by simp)
    simp only [lgZ, lgS] at qr1
    have qr2 := cr 2 (by simp)
    simp only [lgZ, lgS] at qr2
    clear cr
    have hB := hb
    clear po
    clear hb hd
    go_wp2
    go_roundw
    case rel => exact ⟨j + 1, _, _, _, _, _, _, by omega, by go_num, by rw [HR.out]; exact hRU, by rw [HR.out]; exact hRD, hB, lo, lr, qr0, qr1, qr2, by rw [HR.out]; exact qo0, qo1, qo2, xr, xo⟩
    case measure => simp [intOf]; omega
  · obtain rfl : j = nr := by omega
    clear gr0 hpl hlt
    have zf0 := xr.f 0 (by decide)
    have zf1 := xr.f 1 (by decide)
    have zf2 := xr.f 2 (by decide)
    go_wp2
    obtain ⟨w1, hW, hO, qN0, qN1, qN2, xN⟩ := store3 xr (.bool (neg (foldR (· * ·) S f j).num)) (.slice au nu cu) (.slice ad nd cd) (Go.Proofs.YtlkoenpdmlbhlaaGreat.nu rfl) (Go.Proofs.YtlkoenpdmlbhlaaGreat.nu rfl) (Go.Proofs.YtlkoenpdmlbhlaaGreat.nu rfl)
    try rw [hW]
    clear hW
    have gu := hO.own gu
    have gd := hO.own gd
    have lr : w.heap.size < w1.heap.size := by rw [hO.size]; exact lr
    have qo0 := (hO.cell (b2 := BO) (k := 0) (by omega)).trans qo0
    have qo1 := (hO.cell (b2 := BO) (k := 1) (by omega)).trans qo1
    have qo2 := (hO.cell (b2 := BO) (k := 2) (by omega)).trans qo2
    have xo := hO.box xo
    have lo : BO < w1.heap.size := by rw [hO.size]; exact lo
    have qr0 := qN0
    have qr1 := qN1
    have qr2 := qN2
    have xr := xN
    have hB := hO.below (by omega) hB
    clear hO qN0 qN1 qN2 xN zf0 zf1 zf2
    refine bodyPost_ret (v := .tuple #[.agg #[.bool (neg (foldR (· * ·) S f j).num), .slice au nu cu, .slice ad nd cd], .int .i64 0]) ?_ rfl ⟨_, _, _, _, _, _, rfl, gu, gd, hB⟩
    simp [results, Tryz.f62, go_sem, qr0, qr1, qr2]
theorem rmul05_any (ar : Option Addr) (nr cc : Nat) (f : Nat → Bool × List Nat × List Nat) (KB : Nat) (w : World) (gr : RatsAt w ar nr cc f) (hs : 1 ≤ KB) (hk : ∀ i, i < nr → (f i).2.1.length ≤ KB ∧ (f i).2.2.length ≤ KB) (hKB : KB + nr * (KB + 1) ≤ 40000) :
 Calls Tryz.prog 62 #[.slice ar nr cc] w (RetAns w (foldA (· * ·) 1 f nr)) := by
 unfold foldA
 cases hb : allR f nr
 · exact rmul05_bad ar nr cc f KB w gr hs hk hKB hb
 · exact rmul05_ok ar nr cc f KB w gr hs hk hKB hb
end Go.Proofs.YtlkoenpdmlbhlaaGreat
