import Derived.Test.YtlkoenpdmlbhlaaGreatS0Cm
import Derived.Test.YtlkoenpdmlbhlaaGreatRef24aCm
set_option linter.unusedVariables false
set_option linter.unusedSimpArgs false
namespace Go.Proofs.YtlkoenpdmlbhlaaGreat
open Go.RowKit
theorem RatsAt.drop {w : World} {b o n c k : Nat} {f : Nat → Bool × List Nat × List Nat} (h : RatsAt w (some ⟨b, o, none⟩) n c f) (hk : k ≤ n) : RatsAt w (some ⟨b, o + k * 3, none⟩) (n - k) (c - k) (fun i => f (k + i)) := by
 have h1 := h.le
 have h2 := h.cle
 refine ⟨by omega, by omega, ?_⟩
 rcases h.cell with e | ⟨b', o', e, hl, hc⟩
 · exact .inl (by omega)
 · cases e
   refine .inr ⟨b, o + k * 3, rfl, hl, fun i hi => ?_⟩
   obtain ⟨a1, n1, c1, a2, n2, c2, e1, e2, e3, g1, g2⟩ := hc (k + i) (by omega)
   have e : o + k * 3 + i * 3 = o + (k + i) * 3 := by omega
   rw [e]
   exact ⟨a1, n1, c1, a2, n2, c2, e1, e2, e3, g1, g2⟩
theorem rfoldR_sum (q : Nat → Rat) : ∀ n, foldR (· + ·) 0 (fun i => partsOf (q i)) n = sumQ 0 q n
 | 0 => rfl
 | n + 1 => by
   have h := rfoldR_sum q n
   simp only [foldR] at h ⊢
   rw [h, ratOf_parts]
   rfl
theorem radd_rats {w : World} {a : Option Addr} {n c : Nat} {q : Nat → Rat} (K : Nat) (gr : RatsAt w a n c (fun i => partsOf (q i))) (hK : ∀ i, i < n → rlen (q i) ≤ K) (h1 : 1 ≤ K) (h2 : K + n * (K + 1) ≤ 40000) : Calls Tryz.prog 45 #[.slice a n c] w (RetOk w (sumQ 0 q n)) := by
 have h := radd05_any a n c _ K w gr h1 (fun i hi => rlen_parts _ (hK i hi)) h2
 have e : foldA (· + ·) 0 (fun i => partsOf (q i)) n = .ok (sumQ 0 q n) := by
  unfold foldA
  rw [if_pos (allR_iff.2 fun _ _ => chk3_parts _), rfoldR_sum]
 rw [e] at h
 exact h.mono fun e w' h => h.ok
def RetRowR (w : World) (N : Nat) (q : Nat → Rat) (e : Ending) (w' : World) : Prop := ∃ v, e = .returned (.tuple #[v, .int .i64 0]) ∧ RatsOwn w' w.heap.size v N (fun i => partsOf (q i)) ∧ Below w.heap.size w w'
set_option maxRecDepth 100000 in
set_option maxHeartbeats 4000000 in
theorem rRow_ref (a : Option Addr) (n c : Nat) (zs : List Int) (k u : Int) (w : World) (g : IntsAt w a n c zs) (X : Int) (h : refA zs k u = X) (hX : X ≠ 0) :
 Calls Tryz.prog 28 #[.slice a n c, .int .i64 k, .int .i64 u] w (RetVal w (.tuple #[.slice none 0 0, .int .i64 X])) := by
 have H := Lib.hid h
 clear h
 have t0 : (X == 0) = false := by rw [beq_eq_false_iff_ne]; exact hX
 have t1 : (X != 0) = true := by simp [hX]
 go_enter Tryz.func28, Tryz.ntmps28
 have hB := Below.refl w.heap.size w
 go_wp2_with fail
 with_reducible refine (rrefuses_any _ _ _ zs k u _ g).mono ?_
 rintro e w1 ⟨rfl, hb⟩
 have g := g.past hb
 have hB := below_later hB hb
 clear hb
 rw [H.out]
 go_wp2
 go_ret2
 exact ⟨rfl, hB⟩
set_option maxRecDepth 100000 in
set_option maxHeartbeats 8000000 in
theorem rRow_ok (a : Option Addr) (n c : Nat) (zs : List Int) (k u : Nat) (w : World) (g : IntsAt w a n c zs) (hok : okT zs (k : Int)) (hk1 : 1 ≤ k) (hk : k ≤ 20) (hu : u ≤ k) :
 Calls Tryz.prog 28 #[.slice a n c, .int .i64 (k : Int), .int .i64 (u : Int)] w (RetRowR w (u + 1) (fun i => inR24 zs k u i)) := by
 have h := refA_ok hok hk1 (by omega) hu
 have H := Lib.hid h
 have hin := fun j hj w g => rIn_ok a n c zs k u j w g hok hk1 hk hu hj
 obtain ⟨q, hq⟩ : ∃ q : Nat → Rat, (fun i => inR24 zs k u i) = q := ⟨_, rfl⟩
 have hq2 : ∀ i, inR24 zs k u i = q i := fun i => by rw [← hq]
 simp only [hq2] at hin
 rw [hq]
 have HIN := Lib.hid hin
 have HG := Lib.hid g
 clear h hok hq hq2 hin
 go_enter Tryz.func28, Tryz.ntmps28
 have hB := Below.refl w.heap.size w
 go_wp2_with fail
 with_reducible refine (rrefuses_any _ _ _ zs (k : Int) (u : Int) _ g).mono ?_
 rintro e w1 ⟨rfl, hb⟩
 have g := g.past hb
 have hB := below_later hB hb
 clear hb
 rw [H.out]
 go_wp2_with fail
 clear g
 go_loopw [9, 10] (fun s i wr => ∃ (m : Nat), m ≤ u + 1 ∧ RatsOwn wr w.heap.size s m (fun i => partsOf (q i)) ∧ i = .int .i64 ((m : Nat) : Int) ∧ Below w.heap.size w wr) (fun _ i _ => u + 1 - (intOf i).toNat)
 case atStart => exact ⟨0, Nat.zero_le _, RatsOwn.nil _ _ _, rfl, hB⟩
 case round =>
  clear hB
  obtain ⟨m, hm, hv, rfl, hB⟩ := hrel
  have g := HG.out.past hB
  by_cases hlt : m < u + 1
  · have tl : decide (m ≤ u) = true := decide_eq_true (by omega)
    have hlb := hv.lt
    obtain ⟨x, hx⟩ : ∃ x, q m = x := ⟨_, rfl⟩
    have HX := Lib.hid hx
    have hBs := hB.size
    go_wp2_with fail
    refine (HIN.out m (by omega) _ g).mono ?_
    rintro e w1 ⟨ahAU, nhAU, chAU, ahAD, nhAD, chAD, rfl, hAU, hAD, hb⟩
    rw [HX.out] at hAU hAD ⊢
    have hv := hv.past hb
    have hB1 := below_later hB hb
    have hal : Below w1.heap.size w1 ((w1.alloc (.cells #[.bool (neg x.num), .slice ahAU nhAU chAU, .slice ahAD nhAD chAD] 27)).alloc (.cells #[.bool (neg x.num), .slice ahAU nhAU chAU, .slice ahAD nhAD chAD] 27)) := ((Below.refl _ _).alloc (Nat.le_refl _) _).alloc (by simp) _
    have hv2 := hv.past hal
    have hU2 : OwnAt ((w1.alloc (.cells #[.bool (neg x.num), .slice ahAU nhAU chAU, .slice ahAD nhAD chAD] 27)).alloc (.cells #[.bool (neg x.num), .slice ahAU nhAU chAU, .slice ahAD nhAD chAD] 27)) wr.heap.size ahAU nhAU chAU (digs (q m).num.natAbs) := by rw [HX.out]; exact hAU.past hal
    have hD2 : OwnAt ((w1.alloc (.cells #[.bool (neg x.num), .slice ahAU nhAU chAU, .slice ahAD nhAD chAD] 27)).alloc (.cells #[.bool (neg x.num), .slice ahAU nhAU chAU, .slice ahAD nhAD chAD] 27)) wr.heap.size ahAD nhAD chAD (digs (q m).den) := by rw [HX.out]; exact hAD.past hal
    have z0 : ((w1.alloc (.cells #[.bool (neg x.num), .slice ahAU nhAU chAU, .slice ahAD nhAD chAD] 27)).alloc (.cells #[.bool (neg x.num), .slice ahAU nhAU chAU, .slice ahAD nhAD chAD] 27)).cell? ⟨w1.heap.size + 1, 0, none⟩ = some (.bool (neg (q m).num)) := by rw [World.cell?_alloc_at _ _ _ _ (by simp), HX.out]; rfl
    have z1 : ((w1.alloc (.cells #[.bool (neg x.num), .slice ahAU nhAU chAU, .slice ahAD nhAD chAD] 27)).alloc (.cells #[.bool (neg x.num), .slice ahAU nhAU chAU, .slice ahAD nhAD chAD] 27)).cell? ⟨w1.heap.size + 1, 1, none⟩ = some (.slice ahAU nhAU chAU) := by rw [World.cell?_alloc_at _ _ _ _ (by simp)]; rfl
    have z2 : ((w1.alloc (.cells #[.bool (neg x.num), .slice ahAU nhAU chAU, .slice ahAD nhAD chAD] 27)).alloc (.cells #[.bool (neg x.num), .slice ahAU nhAU chAU, .slice ahAD nhAD chAD] 27)).cell? ⟨w1.heap.size + 1, 2, none⟩ = some (.slice ahAD nhAD chAD) := by rw [World.cell?_alloc_at _ _ _ _ (by simp)]; rfl
    have hB2 := below_later hB1 hal
    have hsz2 := hB2.size
    go_wp2_with (at_builtin; go_loud (refine wpList_push_rat rfl _ _ rfl w.heap.size m _ (fun i => partsOf (q i)) rfl hv2 (w1.heap.size + 1) _ _ _ _ _ _ rfl z0 z1 z2 wr.heap.size hU2 hD2 hBs (fun j e => (hlb j e).2) (by omega) hsz2 ?_; intro v2 w2 hr2 hb2))
    go_roundw
    case rel => exact ⟨m + 1, by omega, hr2, by go_num, hB2.trans hb2⟩
    case measure => simp [intOf]; omega
  · have tl : decide (m ≤ u) = false := decide_eq_false (by omega)
    obtain rfl : m = u + 1 := by omega
    go_wp2
    go_ret2
    exact ⟨_, rfl, hv, hB⟩
set_option maxRecDepth 100000 in
set_option maxHeartbeats 4000000 in
theorem rCloud_ref (a : Option Addr) (n c : Nat) (zs : List Int) (k u : Int) (w : World) (g : IntsAt w a n c zs) (X : Int) (h : refA zs k u = X) (hX : X ≠ 0) :
 Calls Tryz.prog 21 #[.slice a n c, .int .i64 k, .int .i64 u] w (RetNone w X) := by
 have H := Lib.hid (fun w g => rRow_ref a n c zs k u w g X h hX)
 have t0 : (X == 0) = false := by rw [beq_eq_false_iff_ne]; exact hX
 have t1 : (X != 0) = true := by simp [hX]
 clear h hX
 go_enter Tryz.func21, Tryz.ntmps21
 have hB := Below.refl w.heap.size w
 go_wp2_with fail
 obtain ⟨w1, hW, hz0, hb, q, f⟩ := box1g w (w.heap.size) (by omega) #[.bool false, .slice none 0 0, .slice none 0 0] 27
 rw [hW]
 clear hW
 have g := g.past hb
 have hB := below_later hB hb
 clear hb
 have lr : w.heap.size < w1.heap.size := by omega
 have qr0 := q 0; have qr1 := q 1; have qr2 := q 2
 simp only [lgA, lgZ, lgS] at qr0 qr1 qr2
 have xr : BoxAt w1 (w.heap.size) 3 := BoxAt.of q f rfl (by simp [notU_bool, notU_slice, notU_i64])
 clear q f
 clear hz0
 with_reducible refine (H.out _ g).mono ?_
 rintro e w2 ⟨rfl, hb⟩
 have g := g.past hb
 have xr := xr.past hb lr
 obtain ⟨qr0, qr1, qr2, lr⟩ := bq3 hb lr qr0 qr1 qr2
 have hB := below_later hB hb
 clear hb
 have zf0 := xr.f 0 (by decide)
 have zf1 := xr.f 1 (by decide)
 have zf2 := xr.f 2 (by decide)
 go_wp2
 obtain ⟨w3, hW, hO, qN0, qN1, qN2, xN⟩ := store3 xr (.bool false) (.slice none 0 0) (.slice none 0 0) (nu rfl) (nu rfl) (nu rfl)
 try rw [hW]
 clear hW
 have lr : w.heap.size < w3.heap.size := by rw [hO.size]; exact lr
 have qr0 := qN0
 have qr1 := qN1
 have qr2 := qN2
 have xr := xN
 have hB := hO.below (by omega) hB
 clear hO qN0 qN1 qN2 xN zf0 zf1 zf2
 refine bodyPost_ret (v := .tuple #[.agg #[.bool false, .slice none 0 0, .slice none 0 0], .int .i64 X]) ?_ rfl ⟨rfl, hB⟩
 simp [results, Tryz.f21, go_sem, qr0, qr1, qr2]
set_option maxRecDepth 100000 in
set_option maxHeartbeats 4000000 in
theorem rCloud_few (a : Option Addr) (n c : Nat) (zs : List Int) (k u : Nat) (w : World) (g : IntsAt w a n c zs) (hok : okT zs (k : Int)) (hk1 : 1 ≤ k) (hk : k ≤ 20) (hu : u ≤ k) (h2 : u < 2) :
 Calls Tryz.prog 21 #[.slice a n c, .int .i64 (k : Int), .int .i64 (u : Int)] w (RetOk w (cloudR zs k u)) := by
 have H := Lib.hid (fun w g => rRow_ok a n c zs k u w g hok hk1 hk hu)
 rw [cloud_one (by omega)]
 have tu : decide (u < 2) = true := decide_eq_true h2
 clear hok
 obtain ⟨Z, hZ0⟩ : ∃ Z : Rat, (0 : Rat) = Z := ⟨_, rfl⟩
 have hz := fun w => rwhole_nil w
 simp only [hZ0] at hz ⊢
 have HZ := Lib.hid hz
 clear hz hZ0
 go_enter Tryz.func21, Tryz.ntmps21
 have hB := Below.refl w.heap.size w
 go_wp2_with fail
 obtain ⟨w1, hW, hz0, hb, q, f⟩ := box1g w (w.heap.size) (by omega) #[.bool false, .slice none 0 0, .slice none 0 0] 27
 rw [hW]
 clear hW
 have g := g.past hb
 have hB := below_later hB hb
 clear hb
 have lr : w.heap.size < w1.heap.size := by omega
 have qr0 := q 0; have qr1 := q 1; have qr2 := q 2
 simp only [lgA, lgZ, lgS] at qr0 qr1 qr2
 have xr : BoxAt w1 (w.heap.size) 3 := BoxAt.of q f rfl (by simp [notU_bool, notU_slice, notU_i64])
 clear q f
 clear hz0
 refine (H.out _ g).mono ?_
 rintro e w2 ⟨v, rfl, hv, hb⟩
 have g := g.past hb
 have xr := xr.past hb lr
 obtain ⟨qr0, qr1, qr2, lr⟩ := bq3 hb lr qr0 qr1 qr2
 have hB := below_later hB hb
 clear hb
 obtain ⟨al, cl, rfl, gl⟩ := hv.at_
 clear hv
 go_wp2_with fail
 with_reducible refine (HZ.out _).mono ?_
 rintro e w3 ⟨ahZU, nhZU, chZU, ahZD, nhZD, chZD, rfl, hZU, hZD, hb⟩
 have hZU := hZU.mono hB.size
 have hZD := hZD.mono hB.size
 have xr := xr.past hb lr
 obtain ⟨qr0, qr1, qr2, lr⟩ := bq3 hb lr qr0 qr1 qr2
 have hB := below_later hB hb
 clear hb
 have zf0 := xr.f 0 (by decide)
 have zf1 := xr.f 1 (by decide)
 have zf2 := xr.f 2 (by decide)
 go_wp2
 obtain ⟨w4, hW, hO, qN0, qN1, qN2, xN⟩ := store3 xr (.bool (neg (Z).num)) (.slice ahZU nhZU chZU) (.slice ahZD nhZD chZD) (nu rfl) (nu rfl) (nu rfl)
 try rw [hW]
 clear hW
 have hZU := hO.own hZU
 have hZD := hO.own hZD
 have lr : w.heap.size < w4.heap.size := by rw [hO.size]; exact lr
 have qr0 := qN0
 have qr1 := qN1
 have qr2 := qN2
 have xr := xN
 have hB := hO.below (by omega) hB
 clear hO qN0 qN1 qN2 xN zf0 zf1 zf2
 refine bodyPost_ret (v := .tuple #[.agg #[.bool (neg Z.num), .slice ahZU nhZU chZU, .slice ahZD nhZD chZD], .int .i64 0]) ?_ rfl ⟨_, _, _, _, _, _, rfl, hZU, hZD, hB⟩
 simp [results, Tryz.f21, go_sem, qr0, qr1, qr2]
set_option maxRecDepth 100000 in
set_option maxHeartbeats 4000000 in
theorem rCloud_many (a : Option Addr) (n c : Nat) (zs : List Int) (k u : Nat) (w : World) (g : IntsAt w a n c zs) (hok : okT zs (k : Int)) (hk1 : 1 ≤ k) (hk : k ≤ 20) (hu : u ≤ k) (h2 : 2 ≤ u) :
 Calls Tryz.prog 21 #[.slice a n c, .int .i64 (k : Int), .int .i64 (u : Int)] w (RetOk w (cloudR zs k u)) := by
 have H := Lib.hid (fun w g => rRow_ok a n c zs k u w g hok hk1 hk hu)
 have hlen : ∀ i, i < u + 1 - 2 → rlen (inR24 zs k u (2 + i)) ≤ 501 := fun i hi => in_len hok hk hu (by omega)
 have HL := Lib.hid hlen
 have tu : decide (u < 2) = false := decide_eq_false (by omega)
 obtain ⟨C, hC⟩ : ∃ C, cloudR zs k u = C := ⟨_, rfl⟩
 have HC := Lib.hid (show sumQ 0 (fun i => inR24 zs k u (2 + i)) (u + 1 - 2) = C from hC)
 rw [hC]
 clear hok hlen hC
 go_enter Tryz.func21, Tryz.ntmps21
 have hB := Below.refl w.heap.size w
 go_wp2_with fail
 obtain ⟨w1, hW, hz0, hb, q, f⟩ := box1g w (w.heap.size) (by omega) #[.bool false, .slice none 0 0, .slice none 0 0] 27
 rw [hW]
 clear hW
 have g := g.past hb
 have hB := below_later hB hb
 clear hb
 have lr : w.heap.size < w1.heap.size := by omega
 have qr0 := q 0; have qr1 := q 1; have qr2 := q 2
 simp only [lgA, lgZ, lgS] at qr0 qr1 qr2
 have xr : BoxAt w1 (w.heap.size) 3 := BoxAt.of q f rfl (by simp [notU_bool, notU_slice, notU_i64])
 clear q f
 clear hz0
 refine (H.out _ g).mono ?_
 rintro e w2 ⟨v, rfl, hv, hb⟩
 have g := g.past hb
 have xr := xr.past hb lr
 obtain ⟨qr0, qr1, qr2, lr⟩ := bq3 hb lr qr0 qr1 qr2
 have hB := below_later hB hb
 clear hb
 obtain ⟨al, cl, rfl, gl⟩ := hv.at_
 clear hv
 have hcle := gl.le
 have hcl2 := gl.cle
 simp only [maxLen] at hcl2
 obtain ⟨b, o, rfl⟩ : ∃ b o, al = some ⟨b, o, none⟩ := by
  rcases gl.cell with h0 | ⟨b, o, e, _⟩
  · omega
  · exact ⟨b, o, e⟩
 have gd := gl.drop (k := 2) (by omega)
 have gd2 : RatsAt w2 (some ⟨b, o + 2 * 3, none⟩) (u + 1 - 2) (cl - 2) (fun i => partsOf ((fun i => inR24 zs k u (2 + i)) i)) := gd
 clear gd gl
 go_wp2_with fail
 refine (radd_rats 501 gd2 HL.out (by decide) (by omega)).mono ?_
 rintro e w3 ⟨ahZU, nhZU, chZU, ahZD, nhZD, chZD, rfl, hZU, hZD, hb⟩
 have hZU := hZU.mono hB.size
 have hZD := hZD.mono hB.size
 have gd2 := gd2.past hb
 have xr := xr.past hb lr
 obtain ⟨qr0, qr1, qr2, lr⟩ := bq3 hb lr qr0 qr1 qr2
 have hB := below_later hB hb
 clear hb
 rw [HC.out] at hZU hZD ⊢
 have zf0 := xr.f 0 (by decide)
 have zf1 := xr.f 1 (by decide)
 have zf2 := xr.f 2 (by decide)
 go_wp2
 obtain ⟨w4, hW, hO, qN0, qN1, qN2, xN⟩ := store3 xr (.bool (neg (C).num)) (.slice ahZU nhZU chZU) (.slice ahZD nhZD chZD) (nu rfl) (nu rfl) (nu rfl)
 try rw [hW]
 clear hW
 have hZU := hO.own hZU
 have hZD := hO.own hZD
 have lr : w.heap.size < w4.heap.size := by rw [hO.size]; exact lr
 have qr0 := qN0
 have qr1 := qN1
 have qr2 := qN2
 have xr := xN
 have hB := hO.below (by omega) hB
 clear hO qN0 qN1 qN2 xN zf0 zf1 zf2
 refine bodyPost_ret (v := .tuple #[.agg #[.bool (neg C.num), .slice ahZU nhZU chZU, .slice ahZD nhZD chZD], .int .i64 0]) ?_ rfl ⟨_, _, _, _, _, _, rfl, hZU, hZD, hB⟩
 simp [results, Tryz.f21, go_sem, qr0, qr1, qr2]
theorem rCloud_ok (a : Option Addr) (n c : Nat) (zs : List Int) (k u : Nat) (w : World) (g : IntsAt w a n c zs) (hok : okT zs (k : Int)) (hk1 : 1 ≤ k) (hk : k ≤ 20) (hu : u ≤ k) :
 Calls Tryz.prog 21 #[.slice a n c, .int .i64 (k : Int), .int .i64 (u : Int)] w (RetOk w (cloudR zs k u)) := by
 by_cases h2 : u < 2
 · exact rCloud_few a n c zs k u w g hok hk1 hk hu h2
 · exact rCloud_many a n c zs k u w g hok hk1 hk hu (by omega)
set_option maxRecDepth 100000 in
set_option maxHeartbeats 4000000 in
theorem rFree_ref (a : Option Addr) (n c : Nat) (zs : List Int) (k u : Int) (w : World) (g : IntsAt w a n c zs) (X : Int) (h : refA zs k u = X) (hX : X ≠ 0) :
 Calls Tryz.prog 23 #[.slice a n c, .int .i64 k, .int .i64 u] w (RetNone w X) := by
 have H := Lib.hid h
 have HX := Lib.hid hX
 have t0 : (X == 0) = false := by rw [beq_eq_false_iff_ne]; exact hX
 have t1 : (X != 0) = true := by simp [hX]
 clear h hX
 go_enter Tryz.func23, Tryz.ntmps23
 have hB := Below.refl w.heap.size w
 go_wp2_with fail
 obtain ⟨w1, hW, hz0, hb, q, f⟩ := box1g w (w.heap.size) (by omega) #[.bool false, .slice none 0 0, .slice none 0 0] 27
 rw [hW]
 clear hW
 have g := g.past hb
 have hB := below_later hB hb
 clear hb
 have lr : w.heap.size < w1.heap.size := by omega
 have qr0 := q 0; have qr1 := q 1; have qr2 := q 2
 simp only [lgA, lgZ, lgS] at qr0 qr1 qr2
 have xr : BoxAt w1 (w.heap.size) 3 := BoxAt.of q f rfl (by simp [notU_bool, notU_slice, notU_i64])
 clear q f
 clear hz0
 with_reducible refine (rCloud_ref _ _ _ zs k u _ g X H.out HX.out).mono ?_
 rintro e w2 ⟨rfl, hb⟩
 have g := g.past hb
 have xr := xr.past hb lr
 obtain ⟨qr0, qr1, qr2, lr⟩ := bq3 hb lr qr0 qr1 qr2
 have hB := below_later hB hb
 clear hb
 have zf0 := xr.f 0 (by decide)
 have zf1 := xr.f 1 (by decide)
 have zf2 := xr.f 2 (by decide)
 go_wp2
 have zf0 := xr.f 0 (by decide)
 have zf1 := xr.f 1 (by decide)
 have zf2 := xr.f 2 (by decide)
 obtain ⟨w3, hW, hO, qN0, qN1, qN2, xN⟩ := store3 xr (.bool false) (.slice none 0 0) (.slice none 0 0) (nu rfl) (nu rfl) (nu rfl)
 try rw [hW]
 clear hW
 have lr : w.heap.size < w3.heap.size := by rw [hO.size]; exact lr
 have qr0 := qN0
 have qr1 := qN1
 have qr2 := qN2
 have xr := xN
 have hB := hO.below (by omega) hB
 clear hO qN0 qN1 qN2 xN zf0 zf1 zf2
 obtain ⟨w4, hW, hz0, hb, q, f⟩ := box1g w3 (w3.heap.size) (by omega) #[.bool false, .slice none 0 0, .slice none 0 0] 27
 rw [hW]
 clear hW
 have xr := xr.past hb lr
 obtain ⟨qr0, qr1, qr2, lr⟩ := bq3 hb lr qr0 qr1 qr2
 have hB := below_later hB hb
 clear hb
 have lx : w3.heap.size < w4.heap.size := by omega
 have qx0 := q 0; have qx1 := q 1; have qx2 := q 2
 simp only [lgA, lgZ, lgS] at qx0 qx1 qx2
 clear q f
 clear hz0
 refine bodyPost_ret (v := .tuple #[.agg #[.bool false, .slice none 0 0, .slice none 0 0], .int .i64 X]) ?_ rfl ⟨rfl, hB⟩
 simp [results, Tryz.f23, go_sem, qr0, qr1, qr2]
set_option maxRecDepth 100000 in
set_option maxHeartbeats 4000000 in
theorem rFree_zero (a : Option Addr) (n c : Nat) (zs : List Int) (k : Nat) (w : World) (g : IntsAt w a n c zs) (hok : okT zs (k : Int)) (hk1 : 1 ≤ k) (hk : k ≤ 20) :
 Calls Tryz.prog 23 #[.slice a n c, .int .i64 (k : Int), .int .i64 0] w (RetNone w 3) := by
 have HC := Lib.hid (fun w g => rCloud_ok a n c zs k 0 w g hok hk1 hk (Nat.zero_le _))
 clear hok
 go_enter Tryz.func23, Tryz.ntmps23
 have hB := Below.refl w.heap.size w
 go_wp2_with fail
 obtain ⟨w1, hW, hz0, hb, q, f⟩ := box1g w (w.heap.size) (by omega) #[.bool false, .slice none 0 0, .slice none 0 0] 27
 rw [hW]
 clear hW
 have g := g.past hb
 have hB := below_later hB hb
 clear hb
 have lr : w.heap.size < w1.heap.size := by omega
 have qr0 := q 0; have qr1 := q 1; have qr2 := q 2
 simp only [lgA, lgZ, lgS] at qr0 qr1 qr2
 have xr : BoxAt w1 (w.heap.size) 3 := BoxAt.of q f rfl (by simp [notU_bool, notU_slice, notU_i64])
 clear q f
 clear hz0
 refine (HC.out _ g).mono ?_
 rintro e w2 ⟨ahCU, nhCU, chCU, ahCD, nhCD, chCD, rfl, hCU, hCD, hb⟩
 have hCU := hCU.mono hB.size
 have hCD := hCD.mono hB.size
 have g := g.past hb
 have xr := xr.past hb lr
 obtain ⟨qr0, qr1, qr2, lr⟩ := bq3 hb lr qr0 qr1 qr2
 have hB := below_later hB hb
 clear hb
 generalize cloudR zs k 0 = C at *
 have zf0 := xr.f 0 (by decide)
 have zf1 := xr.f 1 (by decide)
 have zf2 := xr.f 2 (by decide)
 go_wp2
 have zf0 := xr.f 0 (by decide)
 have zf1 := xr.f 1 (by decide)
 have zf2 := xr.f 2 (by decide)
 obtain ⟨w3, hW, hO, qN0, qN1, qN2, xN⟩ := store3 xr (.bool false) (.slice none 0 0) (.slice none 0 0) (nu rfl) (nu rfl) (nu rfl)
 try rw [hW]
 clear hW
 have hCU := hO.own hCU
 have hCD := hO.own hCD
 have lr : w.heap.size < w3.heap.size := by rw [hO.size]; exact lr
 have qr0 := qN0
 have qr1 := qN1
 have qr2 := qN2
 have xr := xN
 have hB := hO.below (by omega) hB
 clear hO qN0 qN1 qN2 xN zf0 zf1 zf2
 obtain ⟨w4, hW, hz0, hb, q, f⟩ := box1g w3 (w3.heap.size) (by omega) #[.bool (neg (C).num), .slice ahCU nhCU chCU, .slice ahCD nhCD chCD] 27
 rw [hW]
 clear hW
 have hCU := hCU.past hb
 have hCD := hCD.past hb
 have xr := xr.past hb lr
 obtain ⟨qr0, qr1, qr2, lr⟩ := bq3 hb lr qr0 qr1 qr2
 have hB := below_later hB hb
 clear hb
 have lx : w3.heap.size < w4.heap.size := by omega
 have qx0 := q 0; have qx1 := q 1; have qx2 := q 2
 simp only [lgA, lgZ, lgS] at qx0 qx1 qx2
 clear q f
 clear hz0
 refine bodyPost_ret (v := .tuple #[.agg #[.bool false, .slice none 0 0, .slice none 0 0], .int .i64 3]) ?_ rfl ⟨rfl, hB⟩
 simp [results, Tryz.f23, go_sem, qr0, qr1, qr2]
set_option maxRecDepth 100000 in
set_option maxHeartbeats 4000000 in
theorem rFree_none (a : Option Addr) (n c : Nat) (zs : List Int) (k u : Nat) (w : World) (g : IntsAt w a n c zs) (hok : okT zs (k : Int)) (hk1 : 1 ≤ k) (hk : k ≤ 20) (hu : u ≤ k) (hu1 : 1 ≤ u) (h0 : cloudR zs k u = 0) :
 Calls Tryz.prog 23 #[.slice a n c, .int .i64 (k : Int), .int .i64 (u : Int)] w (RetOk w 0) := by
 have t0 : ((u : Int) == 0) = false := by rw [beq_eq_false_iff_ne]; omega
 obtain ⟨C, hC⟩ : ∃ C, cloudR zs k u = C := ⟨_, rfl⟩
 have HC := Lib.hid (fun w g => rCloud_ok a n c zs k u w g hok hk1 hk hu)
 have HCC := Lib.hid hC
 have hl0 : (digs C.num.natAbs).length = 0 := by rw [← hC, h0]; rfl
 clear hok hC h0
 obtain ⟨Z, hZ0⟩ : ∃ Z : Rat, (0 : Rat) = Z := ⟨_, rfl⟩
 have hz := fun w => rwhole_nil w
 simp only [hZ0] at hz ⊢
 have HZ := Lib.hid hz
 clear hz hZ0
 go_enter Tryz.func23, Tryz.ntmps23
 have hB := Below.refl w.heap.size w
 go_wp2_with fail
 obtain ⟨w1, hW, hz0, hb, q, f⟩ := box1g w (w.heap.size) (by omega) #[.bool false, .slice none 0 0, .slice none 0 0] 27
 rw [hW]
 clear hW
 have g := g.past hb
 have hB := below_later hB hb
 clear hb
 have lr : w.heap.size < w1.heap.size := by omega
 have qr0 := q 0; have qr1 := q 1; have qr2 := q 2
 simp only [lgA, lgZ, lgS] at qr0 qr1 qr2
 have xr : BoxAt w1 (w.heap.size) 3 := BoxAt.of q f rfl (by simp [notU_bool, notU_slice, notU_i64])
 clear q f
 clear hz0
 with_reducible refine (HC.out _ g).mono ?_
 rintro e w2 ⟨ahCU, nhCU, chCU, ahCD, nhCD, chCD, rfl, hCU, hCD, hb⟩
 have hCU := hCU.mono hB.size
 have hCD := hCD.mono hB.size
 have g := g.past hb
 have xr := xr.past hb lr
 obtain ⟨qr0, qr1, qr2, lr⟩ := bq3 hb lr qr0 qr1 qr2
 have hB := below_later hB hb
 clear hb
 rw [HCC.out] at hCU hCD ⊢
 have hn0 : nhCU = 0 := by have := hCU.len; omega
 subst hn0
 go_wp2_with fail
 obtain ⟨w3, hW, hz0, hb, q, f⟩ := box1g w2 (w2.heap.size) (by omega) #[.bool (neg (C).num), .slice ahCU 0 chCU, .slice ahCD nhCD chCD] 27
 rw [hW]
 clear hW
 have hCU := hCU.past hb
 have hCD := hCD.past hb
 have xr := xr.past hb lr
 obtain ⟨qr0, qr1, qr2, lr⟩ := bq3 hb lr qr0 qr1 qr2
 have hB := below_later hB hb
 clear hb
 have lx : w2.heap.size < w3.heap.size := by omega
 have qx0 := q 0; have qx1 := q 1; have qx2 := q 2
 simp only [lgA, lgZ, lgS] at qx0 qx1 qx2
 clear q f
 clear hz0
 with_reducible refine (HZ.out _).mono ?_
 rintro e w4 ⟨ahZU, nhZU, chZU, ahZD, nhZD, chZD, rfl, hZU, hZD, hb⟩
 have hZU := hZU.mono hB.size
 have hZD := hZD.mono hB.size
 have hCU := hCU.past hb
 have hCD := hCD.past hb
 have xr := xr.past hb lr
 obtain ⟨qr0, qr1, qr2, lr⟩ := bq3 hb lr qr0 qr1 qr2
 obtain ⟨qx0, qx1, qx2, lx⟩ := bq3 hb lx qx0 qx1 qx2
 have hB := below_later hB hb
 clear hb
 have zf0 := xr.f 0 (by decide)
 have zf1 := xr.f 1 (by decide)
 have zf2 := xr.f 2 (by decide)
 go_wp2
 obtain ⟨w5, hW, hO, qN0, qN1, qN2, xN⟩ := store3 xr (.bool (neg (Z).num)) (.slice ahZU nhZU chZU) (.slice ahZD nhZD chZD) (nu rfl) (nu rfl) (nu rfl)
 try rw [hW]
 clear hW
 have hCU := hO.own hCU
 have hCD := hO.own hCD
 have hZU := hO.own hZU
 have hZD := hO.own hZD
 have lr : w.heap.size < w5.heap.size := by rw [hO.size]; exact lr
 have qx0 := (hO.cell (b2 := w2.heap.size) (k := 0) (by omega)).trans qx0
 have qx1 := (hO.cell (b2 := w2.heap.size) (k := 1) (by omega)).trans qx1
 have qx2 := (hO.cell (b2 := w2.heap.size) (k := 2) (by omega)).trans qx2
 have lx : w2.heap.size < w5.heap.size := by rw [hO.size]; exact lx
 have qr0 := qN0
 have qr1 := qN1
 have qr2 := qN2
 have xr := xN
 have hB := hO.below (by omega) hB
 clear hO qN0 qN1 qN2 xN zf0 zf1 zf2
 refine bodyPost_ret (v := .tuple #[.agg #[.bool (neg Z.num), .slice ahZU nhZU chZU, .slice ahZD nhZD chZD], .int .i64 0]) ?_ rfl ⟨_, _, _, _, _, _, rfl, hZU, hZD, hB⟩
 simp [results, Tryz.f23, go_sem, qr0, qr1, qr2]
theorem rIn_two (a : Option Addr) (n c : Nat) (zs : List Int) (k u : Nat) (w : World) (g : IntsAt w a n c zs) (hok : okT zs (k : Int)) (hk1 : 1 ≤ k) (hk : k ≤ 20) (hu : u ≤ k) (hj : 2 ≤ u) :
 Calls Tryz.prog 26 #[.slice a n c, .int .i64 (k : Int), .int .i64 (u : Int), .int .i64 2] w (RetOk w (inR24 zs k u 2)) := rIn_ok a n c zs k u 2 w g hok hk1 hk hu hj
set_option maxRecDepth 100000 in
set_option maxHeartbeats 16000000 in
theorem rFree_ok (a : Option Addr) (n c : Nat) (zs : List Int) (k u : Nat) (w : World) (g : IntsAt w a n c zs) (hok : okT zs (k : Int)) (hk1 : 1 ≤ k) (hk : k ≤ 20) (hu : u ≤ k) (hu2 : 2 ≤ u) (h0 : cloudR zs k u ≠ 0) :
 Calls Tryz.prog 23 #[.slice a n c, .int .i64 (k : Int), .int .i64 (u : Int)] w (RetOk w (freeR zs k u)) := by
 have hpr := fun w => rpair_q 2 u w (by omega) (by omega) (by omega)
 have hin := fun w g => rIn_two a n c zs k u w g hok hk1 hk hu hu2
 have lp0 : rlen (mkRat 2 u) ≤ 1 := rlen_mkRat (by omega) (by decide) (digs_length_le.2 (by simp; omega))
 have li0 := in_len hok hk hu hu2
 have lc0 : rlen (cloudR zs k u) ≤ 20000 := cloud_len hok hk hu _ (Nat.le_refl _)
 have t0 : ((u : Int) == 0) = false := by rw [beq_eq_false_iff_ne]; omega
 obtain ⟨C, hC⟩ : ∃ C, cloudR zs k u = C := ⟨_, rfl⟩
 have HC := Lib.hid (fun w g => rCloud_ok a n c zs k u w g hok hk1 hk hu)
 have HCC := Lib.hid hC
 rw [hC] at h0 lc0
 have hl0 : (digs C.num.natAbs).length ≠ 0 := fun h => h0 (Rat.num_eq_zero.1 (by have := digs_eq_nil.1 (List.length_eq_zero_iff.1 h); omega))
 obtain ⟨P, hP⟩ : ∃ P, mkRat 2 u = P := ⟨_, rfl⟩
 obtain ⟨I, hI⟩ : ∃ I, inR24 zs k u 2 = I := ⟨_, rfl⟩
 have hF : freeR zs k u = P * I / C := by unfold freeR; rw [hP, hI, hC]
 rw [hF]
 obtain ⟨X, hX⟩ : ∃ X, P * I = X := ⟨_, rfl⟩
 obtain ⟨R, hR⟩ : ∃ R, X / C = R := ⟨_, rfl⟩
 rw [hX, hR]
 simp only [hP] at hpr
 simp only [hI] at hin
 rw [hP] at lp0
 rw [hI] at li0
 have lx0 : rlen (P * I) ≤ rlen P + rlen I + 1 := product_short P I
 rw [hX] at lx0
 have HPR := Lib.hid hpr
 have HIN := Lib.hid hin
 have HX := Lib.hid hX
 have HR := Lib.hid hR
 have LP := Lib.hid (show rlen P ≤ 10000 by omega)
 have LI := Lib.hid (show rlen I ≤ 10000 by omega)
 have LX := Lib.hid (show rlen X ≤ 20000 by omega)
 have LC := Lib.hid (show rlen C ≤ 20000 by omega)
 have H0 := Lib.hid h0
 clear hok hC h0 hpr hin lp0 li0 lc0 hP hI hF hX hR lx0
 go_enter Tryz.func23, Tryz.ntmps23
 have hB := Below.refl w.heap.size w
 go_wp2_with fail
 obtain ⟨w1, hW, hz0, hb, q, f⟩ := box1g w (w.heap.size) (by omega) #[.bool false, .slice none 0 0, .slice none 0 0] 27
 rw [hW]
 clear hW
 have g := g.past hb
 have hB := below_later hB hb
 clear hb
 have lr : w.heap.size < w1.heap.size := by omega
 have qr0 := q 0; have qr1 := q 1; have qr2 := q 2
 simp only [lgA, lgZ, lgS] at qr0 qr1 qr2
 have xr : BoxAt w1 (w.heap.size) 3 := BoxAt.of q f rfl (by simp [notU_bool, notU_slice, notU_i64])
 clear q f
 clear hz0
 with_reducible refine (HC.out _ g).mono ?_
 rintro e w2 ⟨ahCU, nhCU, chCU, ahCD, nhCD, chCD, rfl, hCU, hCD, hb⟩
 have hCU := hCU.mono hB.size
 have hCD := hCD.mono hB.size
 have g := g.past hb
 have xr := xr.past hb lr
 obtain ⟨qr0, qr1, qr2, lr⟩ := bq3 hb lr qr0 qr1 qr2
 have hB := below_later hB hb
 clear hb
 rw [HCC.out] at hCU hCD ⊢
 have hn0 : nhCU ≠ 0 := by have := hCU.len; omega
 have tn : ((nhCU : Int) == 0) = false := by rw [beq_eq_false_iff_ne]; omega
 have tn2 : (nhCU == 0) = false := by rw [beq_eq_false_iff_ne]; exact hn0
 go_wp2_with fail
 obtain ⟨w3, hW, hz0, hb, q, f⟩ := box1g w2 (w2.heap.size) (by omega) #[.bool (neg (C).num), .slice ahCU nhCU chCU, .slice ahCD nhCD chCD] 27
 rw [hW]
 clear hW
 have g := g.past hb
 have hCU := hCU.past hb
 have hCD := hCD.past hb
 have xr := xr.past hb lr
 obtain ⟨qr0, qr1, qr2, lr⟩ := bq3 hb lr qr0 qr1 qr2
 have hB := below_later hB hb
 clear hb
 have lx : w2.heap.size < w3.heap.size := by omega
 have qx0 := q 0; have qx1 := q 1; have qx2 := q 2
 simp only [lgA, lgZ, lgS] at qx0 qx1 qx2
 clear q f
 clear hz0
 with_reducible refine (HIN.out _ g).mono ?_
 rintro e w4 ⟨ahIU, nhIU, chIU, ahID, nhID, chID, rfl, hIU, hID, hb⟩
 have hIU := hIU.mono hB.size
 have hID := hID.mono hB.size
 have g := g.past hb
 have hCU := hCU.past hb
 have hCD := hCD.past hb
 have xr := xr.past hb lr
 obtain ⟨qr0, qr1, qr2, lr⟩ := bq3 hb lr qr0 qr1 qr2
 obtain ⟨qx0, qx1, qx2, lx⟩ := bq3 hb lx qx0 qx1 qx2
 have hB := below_later hB hb
 clear hb
 go_wp2_with fail
 obtain ⟨w5, hW, hz0, hb, q, f⟩ := box1g w4 (w4.heap.size) (by omega) #[.bool (neg (I).num), .slice ahIU nhIU chIU, .slice ahID nhID chID] 27
 rw [hW]
 clear hW
 have hCU := hCU.past hb
 have hCD := hCD.past hb
 have hIU := hIU.past hb
 have hID := hID.past hb
 have xr := xr.past hb lr
 obtain ⟨qr0, qr1, qr2, lr⟩ := bq3 hb lr qr0 qr1 qr2
 obtain ⟨qx0, qx1, qx2, lx⟩ := bq3 hb lx qx0 qx1 qx2
 have hB := below_later hB hb
 clear hb
 have li : w4.heap.size < w5.heap.size := by omega
 have qi0 := q 0; have qi1 := q 1; have qi2 := q 2
 simp only [lgA, lgZ, lgS] at qi0 qi1 qi2
 clear q f
 clear hz0
 with_reducible refine (HPR.out _).mono ?_
 rintro e w6 ⟨ahPU, nhPU, chPU, ahPD, nhPD, chPD, rfl, hPU, hPD, hb⟩
 have hPU := hPU.mono hB.size
 have hPD := hPD.mono hB.size
 have hCU := hCU.past hb
 have hCD := hCD.past hb
 have hIU := hIU.past hb
 have hID := hID.past hb
 have xr := xr.past hb lr
 obtain ⟨qr0, qr1, qr2, lr⟩ := bq3 hb lr qr0 qr1 qr2
 obtain ⟨qx0, qx1, qx2, lx⟩ := bq3 hb lx qx0 qx1 qx2
 obtain ⟨qi0, qi1, qi2, li⟩ := bq3 hb li qi0 qi1 qi2
 have hB := below_later hB hb
 clear hb
 go_wp2_with fail
 obtain ⟨w7, hW, hz0, hb, q, f⟩ := box1g w6 (w6.heap.size) (by omega) #[.bool (neg (P).num), .slice ahPU nhPU chPU, .slice ahPD nhPD chPD] 27
 rw [hW]
 clear hW
 have hCU := hCU.past hb
 have hCD := hCD.past hb
 have hIU := hIU.past hb
 have hID := hID.past hb
 have hPU := hPU.past hb
 have hPD := hPD.past hb
 have xr := xr.past hb lr
 obtain ⟨qr0, qr1, qr2, lr⟩ := bq3 hb lr qr0 qr1 qr2
 obtain ⟨qx0, qx1, qx2, lx⟩ := bq3 hb lx qx0 qx1 qx2
 obtain ⟨qi0, qi1, qi2, li⟩ := bq3 hb li qi0 qi1 qi2
 have hB := below_later hB hb
 clear hb
 have lp : w6.heap.size < w7.heap.size := by omega
 have qp0 := q 0; have qp1 := q 1; have qp2 := q 2
 simp only [lgA, lgZ, lgS] at qp0 qp1 qp2
 clear q f
 obtain ⟨w8, hW, hz1, hb, q, f⟩ := box1g w7 (w6.heap.size + 1) (by omega) #[.bool (neg (P).num), .slice ahPU nhPU chPU, .slice ahPD nhPD chPD, .bool (neg (I).num), .slice ahIU nhIU chIU, .slice ahID nhID chID] 27
 rw [hW]
 clear hW
 have hCU := hCU.past hb
 have hCD := hCD.past hb
 have hIU := hIU.past hb
 have hID := hID.past hb
 have hPU := hPU.past hb
 have hPD := hPD.past hb
 have xr := xr.past hb lr
 obtain ⟨qr0, qr1, qr2, lr⟩ := bq3 hb lr qr0 qr1 qr2
 obtain ⟨qx0, qx1, qx2, lx⟩ := bq3 hb lx qx0 qx1 qx2
 obtain ⟨qi0, qi1, qi2, li⟩ := bq3 hb li qi0 qi1 qi2
 obtain ⟨qp0, qp1, qp2, lp⟩ := bq3 hb lp qp0 qp1 qp2
 have hB := below_later hB hb
 clear hb
 have lv : w6.heap.size + 1 < w8.heap.size := by omega
 have qv0 := q 0; have qv1 := q 1; have qv2 := q 2; have qv3 := q 3; have qv4 := q 4; have qv5 := q 5
 simp only [lgA, lgZ, lgS] at qv0 qv1 qv2 qv3 qv4 qv5
 clear q f
 clear hz0
 clear hz1
 with_reducible refine (rmul_two (RatsAt.two lv qv0 qv1 qv2 qv3 qv4 qv5 hPU.toNatAt hPD.toNatAt hIU.toNatAt hID.toNatAt) LP.out LI.out).mono ?_
 rintro e w9 ⟨ahXU, nhXU, chXU, ahXD, nhXD, chXD, rfl, hXU, hXD, hb⟩
 have hXU := hXU.mono hB.size
 have hXD := hXD.mono hB.size
 have hCU := hCU.past hb
 have hCD := hCD.past hb
 have hIU := hIU.past hb
 have hID := hID.past hb
 have hPU := hPU.past hb
 have hPD := hPD.past hb
 have xr := xr.past hb lr
 obtain ⟨qr0, qr1, qr2, lr⟩ := bq3 hb lr qr0 qr1 qr2
 obtain ⟨qx0, qx1, qx2, lx⟩ := bq3 hb lx qx0 qx1 qx2
 obtain ⟨qi0, qi1, qi2, li⟩ := bq3 hb li qi0 qi1 qi2
 obtain ⟨qp0, qp1, qp2, lp⟩ := bq3 hb lp qp0 qp1 qp2
 have qv0 := bq hb lv qv0; have qv1 := bq hb lv qv1; have qv2 := bq hb lv qv2; have qv3 := bq hb lv qv3; have qv4 := bq hb lv qv4; have qv5 := bq hb lv qv5
 have lv := bl hb lv
 have hB := below_later hB hb
 clear hb
 rw [HX.out] at hXU hXD ⊢
 go_wp2_with fail
 obtain ⟨w10, hW, hz0, hb, q, f⟩ := box1g w9 (w9.heap.size) (by omega) #[.bool (neg (X).num), .slice ahXU nhXU chXU, .slice ahXD nhXD chXD] 27
 rw [hW]
 clear hW
 have hCU := hCU.past hb
 have hCD := hCD.past hb
 have hXU := hXU.past hb
 have hXD := hXD.past hb
 have xr := xr.past hb lr
 obtain ⟨qr0, qr1, qr2, lr⟩ := bq3 hb lr qr0 qr1 qr2
 obtain ⟨qx0, qx1, qx2, lx⟩ := bq3 hb lx qx0 qx1 qx2
 have hB := below_later hB hb
 clear hb
 have ly : w9.heap.size < w10.heap.size := by omega
 have qy0 := q 0; have qy1 := q 1; have qy2 := q 2
 simp only [lgA, lgZ, lgS] at qy0 qy1 qy2
 clear q f
 clear hz0
 with_reducible refine (rdiv05_rat _ _ _ _ _ _ _ _ _ _ _ _ _ _ _ hXU.toNatAt hXD.toNatAt hCU.toNatAt hCD.toNatAt (by have := LX.out; unfold rlen at this; have := hXU.len; omega) (by have := LX.out; unfold rlen at this; have := hXD.len; omega) (by have := LC.out; unfold rlen at this; have := hCU.len; omega) (by have := LC.out; unfold rlen at this; have := hCD.len; omega) H0.out).mono ?_
 rintro e w11 ⟨ahAU, nhAU, chAU, ahAD, nhAD, chAD, rfl, hAU, hAD, hb⟩
 have hAU := hAU.mono hB.size
 have hAD := hAD.mono hB.size
 have hCU := hCU.past hb
 have hCD := hCD.past hb
 have hXU := hXU.past hb
 have hXD := hXD.past hb
 have xr := xr.past hb lr
 obtain ⟨qr0, qr1, qr2, lr⟩ := bq3 hb lr qr0 qr1 qr2
 obtain ⟨qx0, qx1, qx2, lx⟩ := bq3 hb lx qx0 qx1 qx2
 obtain ⟨qy0, qy1, qy2, ly⟩ := bq3 hb ly qy0 qy1 qy2
 have hB := below_later hB hb
 clear hb
 rw [HR.out] at hAU hAD ⊢
 have zf0 := xr.f 0 (by decide)
 have zf1 := xr.f 1 (by decide)
 have zf2 := xr.f 2 (by decide)
 go_wp2
 obtain ⟨w12, hW, hO, qN0, qN1, qN2, xN⟩ := store3 xr (.bool (neg (R).num)) (.slice ahAU nhAU chAU) (.slice ahAD nhAD chAD) (nu rfl) (nu rfl) (nu rfl)
 try rw [hW]
 clear hW
 have hCU := hO.own hCU
 have hCD := hO.own hCD
 have hXU := hO.own hXU
 have hXD := hO.own hXD
 have hAU := hO.own hAU
 have hAD := hO.own hAD
 have lr : w.heap.size < w12.heap.size := by rw [hO.size]; exact lr
 have qx0 := (hO.cell (b2 := w2.heap.size) (k := 0) (by omega)).trans qx0
 have qx1 := (hO.cell (b2 := w2.heap.size) (k := 1) (by omega)).trans qx1
 have qx2 := (hO.cell (b2 := w2.heap.size) (k := 2) (by omega)).trans qx2
 have lx : w2.heap.size < w12.heap.size := by rw [hO.size]; exact lx
 have qy0 := (hO.cell (b2 := w9.heap.size) (k := 0) (by omega)).trans qy0
 have qy1 := (hO.cell (b2 := w9.heap.size) (k := 1) (by omega)).trans qy1
 have qy2 := (hO.cell (b2 := w9.heap.size) (k := 2) (by omega)).trans qy2
 have ly : w9.heap.size < w12.heap.size := by rw [hO.size]; exact ly
 have qr0 := qN0
 have qr1 := qN1
 have qr2 := qN2
 have xr := xN
 have hB := hO.below (by omega) hB
 clear hO qN0 qN1 qN2 xN zf0 zf1 zf2
 refine bodyPost_ret (v := .tuple #[.agg #[.bool (neg R.num), .slice ahAU nhAU chAU, .slice ahAD nhAD chAD], .int .i64 0]) ?_ rfl ⟨_, _, _, _, _, _, rfl, hAU, hAD, hB⟩
 simp [results, Tryz.f23, go_sem, qr0, qr1, qr2]
end Go.Proofs.YtlkoenpdmlbhlaaGreat
