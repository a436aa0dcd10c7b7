/- chance.fold over whatever hands on fractions: the walk. -/
import Derived.Test.YtlkoenpdmlbhlaaFold1
set_option linter.unusedVariables false
set_option linter.unusedSimpArgs false
namespace Go.Proofs.Ytlkoenpdmlbhlaa
open Go.RowKit Go.Shelf
attribute [local go_sem] Oper.semAt_some

def FoldI (B bTo bBy bR : Nat) (p : Rat) (q : Nat → Rat) (i : Nat) (W : World) : Prop :=
  RatBox W B bTo (sumQ p q i) ∧ W.cell? ⟨bBy, 0, none⟩ = some (.func (.func 62) #[] #[]) ∧ bBy < W.heap.size ∧ BoxAt W bR 3 ∧ bR < W.heap.size
theorem FoldI.past {B bTo bBy bR : Nat} {p : Rat} {q : Nat → Rat} {i : Nat} {W W' : World} (h : FoldI B bTo bBy bR p q i W) (hb : Below W.heap.size W W') : FoldI B bTo bBy bR p q i W' :=
  ⟨h.1.past hb, (hb.cell (p := ⟨bBy, 0, none⟩) h.2.2.1).trans h.2.1, Nat.lt_of_lt_of_le h.2.2.1 hb.size, h.2.2.2.1.past hb h.2.2.2.2, Nat.lt_of_lt_of_le h.2.2.2.2 hb.size⟩
theorem FoldI.off {B bTo bBy bR b : Nat} {p : Rat} {q : Nat → Rat} {i : Nat} {W : World} {x y : Int} (h : FoldI B bTo bBy bR p q i W) (hb : b < bTo ∧ b < bBy) (hc : W.cell? ⟨b, 0, none⟩ = some (.int .i64 x)) : FoldI B bTo bBy bR p q i (W.setCell ⟨b, 0, none⟩ (.int .i64 y)) := by
  obtain ⟨⟨au, nu, cu, ad, nd, cd, h0, h1, h2, hx, hl, hu, hd⟩, hby, hbl, hR, hRl⟩ := h
  have ne : ∀ {b2 : Nat} (o : Nat), b < b2 → (W.setCell ⟨b, 0, none⟩ (.int .i64 y)).cell? ⟨b2, o, none⟩ = W.cell? ⟨b2, o, none⟩ := fun o hlt => World.cell?_setCell_other _ _ _ _ (fun e => by injection e with h2; omega)
  exact ⟨⟨au, nu, cu, ad, nd, cd, (ne 0 hb.1).trans h0, (ne 1 hb.1).trans h1, (ne 2 hb.1).trans h2, hx.set _ _ (notU_i64 y), by simpa using hl, hu.offBox hc (notU_i64 x) _, hd.offBox hc (notU_i64 x) _⟩, (ne 0 hb.2).trans hby, by simpa using hbl, hR.set _ _ (notU_i64 y), by simpa using hRl⟩
theorem FoldI.turn {B bTo bBy bR : Nat} {p : Rat} {q : Nat → Rat} {i : Nat} {W : World} (h : FoldI B bTo bBy bR p q i W) {l : Nat} {o : Obj} (o' : Obj) (hl : W.heap[l]? = some o) (ho : o.isCells = false) : FoldI B bTo bBy bR p q i (W.putObj l o') :=
  ⟨h.1.turn o' hl ho, cell_turn o' h.2.1 hl ho, by simpa using h.2.2.1, h.2.2.2.1.turn o' hl ho, by simpa using h.2.2.2.2⟩
def FoldM (gf : Nat) (lb : Array Value) (p0 : Value) (B bTo bBy bR : Nat) (p : Rat) (q : Nat → Rat) (i : Nat) (x : Value) (b : Act) (W : World) : Prop :=
  ∃ bx a1 n1 c1 a2 n2 c2, b = { tmps := #[.func (.func gf) #[] lb, p0, .func (.func 62) #[] #[], undef, .pointer (some ⟨bTo, 0, none⟩), .pointer (some ⟨bBy, 0, none⟩), .pointer (some ⟨bR, 0, none⟩), .pointer (some ⟨bx, 0, none⟩), .func (.func gf) #[] lb, x, undef, undef, undef, undef, undef], defers := [] } ∧
    W.cell? ⟨bx, 0, none⟩ = some (.bool (neg (q i).num)) ∧ W.cell? ⟨bx, 1, none⟩ = some (.slice a1 n1 c1) ∧ W.cell? ⟨bx, 2, none⟩ = some (.slice a2 n2 c2) ∧ NatAt W a1 n1 c1 (digs (q i).num.natAbs) ∧ NatAt W a2 n2 c2 (digs (q i).den) ∧ FoldI B bTo bBy bR p q i W
theorem FoldM.turn {gf : Nat} {lb : Array Value} {p0 : Value} {B bTo bBy bR : Nat} {p : Rat} {q : Nat → Rat} {i : Nat} {x : Value} {b : Act} {W : World} (h : FoldM gf lb p0 B bTo bBy bR p q i x b W) {l : Nat} {o : Obj} (o' : Obj) (hl : W.heap[l]? = some o) (ho : o.isCells = false) : FoldM gf lb p0 B bTo bBy bR p q i x b (W.putObj l o') := by
  obtain ⟨bx, a1, n1, c1, a2, n2, c2, e, h0, h1, h2, g1, g2, hi⟩ := h
  exact ⟨bx, a1, n1, c1, a2, n2, c2, e, cell_turn o' h0 hl ho, cell_turn o' h1 hl ho, cell_turn o' h2 hl ho, g1.turn o' hl ho, g2.turn o' hl ho, hi.turn o' hl ho⟩
set_option maxRecDepth 100000 in
set_option maxHeartbeats 8000000 in
theorem fold_any (B gf : Nat) (lb : Array Value) (N : Nat) (p : Rat) (q : Nat → Rat) (a1 : Option Addr) (n1 c1 : Nat) (a2 : Option Addr) (n2 c2 : Nat) (w : World) (g1 : OwnAt w B a1 n1 c1 (digs p.num.natAbs)) (g2 : OwnAt w B a2 n2 c2 (digs p.den)) (hBw : B ≤ w.heap.size)
    (n0 : Nat) (bj : Option Nat) (hn0 : n0 ≤ w.heap.size) (hbj : ∀ b, bj = some b → b < w.heap.size) (hseq : Hands 2 Try.prog gf lb w n0 bj N (RatOk q)) (eg : ∀ args w, (callFunc gf args).run Try.prog w = .ok (.enter gf args) w) (hq : ∀ i, i < N → rlen (q i) ≤ 1000000) (hs : ∀ i, i ≤ N → rlen (sumQ p q i) ≤ 1000000) :
    Calls Try.prog 60 #[.func (.func gf) #[] lb, .agg #[.bool (neg p.num), .slice a1 n1 c1, .slice a2 n2 c2], .func (.func 62) #[] #[]] w fun e w' => ∃ a3 n3 c3 a4 n4 c4, e = .returned (.agg #[.bool (neg (sumQ p q N).num), .slice a3 n3 c3, .slice a4 n4 c4]) ∧ OwnAt w' B a3 n3 c3 (digs (sumQ p q N).num.natAbs) ∧ OwnAt w' B a4 n4 c4 (digs (sumQ p q N).den) ∧ Below n0 w w' := by
  refine (callsIn_wide (n := 3)).1 ?_
  refine callsIn_of_wp_marks Try.func60 rfl trivial ?_ rfl
  simp only [Try.ntmps60, List.size_toArray, List.length_cons, List.length_nil, Nat.reduceAdd, Nat.reduceSub, Array.replicate_succ, Array.replicate_zero, List.push_toArray, List.append_toArray, List.nil_append, List.cons_append]
  gi_wp2
  obtain ⟨w1, hW1, hz1, hb1, q1, f1⟩ := box1g w w.heap.size rfl #[.bool (neg p.num), .slice a1 n1 c1, .slice a2 n2 c2] 36
  rw [hW1]
  obtain ⟨w2, hW2, hz2, hb2, q2, f2⟩ := box1g w1 (w.heap.size + 1) (by omega) #[.func (.func 62) #[] #[]] 79
  rw [hW2]
  obtain ⟨w3, hW3, hz3, hb3, q3, f3⟩ := box1g w2 (w.heap.size + 1 + 1) (by omega) #[.bool false, .slice none 0 0, .slice none 0 0] 36
  rw [hW3]
  have hb12 := below_later hb1 hb2
  have hB := below_later hb12 hb3
  have hb23 : Below w1.heap.size w1 w3 := below_later hb2 hb3
  have x1 : BoxAt w1 w.heap.size 3 := BoxAt.of q1 f1 rfl (by simp [notU_bool, notU_slice])
  have x3 : BoxAt w3 (w.heap.size + 1 + 1) 3 := BoxAt.of q3 f3 rfl (by simp [notU_bool, notU_slice])
  have r1 : RatBox w1 B w.heap.size (sumQ p q 0) := ⟨_, _, _, _, _, _, q1 0, q1 1, q1 2, x1, by omega, g1.past hb1, g2.past hb1⟩
  have hI0 : FoldI B w.heap.size (w.heap.size + 1) (w.heap.size + 1 + 1) p q 0 w3 := ⟨r1.past hb23, (hb3.cell (p := ⟨w.heap.size + 1, 0, none⟩) (show w.heap.size + 1 < w2.heap.size by omega)).trans (q2 0), by omega, x3, by omega⟩
  clear q1 q2 q3 f1 f2 f3 x1 x3 r1 hb12 hb23 hW1 hW2 hW3 hb1 hb2 hb3
  refine wpIn_rounds (w0 := w) (by decide) rfl eg hn0 hseq hB (FoldI B w.heap.size (w.heap.size + 1) (w.heap.size + 1 + 1) p q) (FoldM gf lb (.agg #[.bool (neg p.num), .slice a1 n1 c1, .slice a2 n2 c2]) B w.heap.size (w.heap.size + 1) (w.heap.size + 1 + 1) p q)
    (fun i W W' h hb => h.past hb) (fun b hb i W x y h hc => h.off ⟨hbj b hb, Nat.lt_succ_of_lt (hbj b hb)⟩ hc) (fun i W l o o' h hl ho _ => h.turn o' hl ho) (fun i x b W l o o' h hl ho _ => h.turn o' hl ho) hI0 ?_ ?_ ?_
  · rintro l i x W0 W hi hI0 hW0 hI hBW ⟨a3, n3, c3, a4, n4, c4, rfl, h3, h4⟩
    have hal : Below W.heap.size W (W.alloc (.cells #[.bool (neg (q i).num), .slice a3 n3 c3, .slice a4 n4 c4] 36)) := (Below.refl _ _).alloc (Nat.le_refl _) _
    have y0 : (W.alloc (.cells #[.bool (neg (q i).num), .slice a3 n3 c3, .slice a4 n4 c4] 36)).cell? ⟨W.heap.size, 0, none⟩ = some (.bool (neg (q i).num)) := by rw [World.cell?_alloc_at _ _ _ _ rfl]; rfl
    have y1 : (W.alloc (.cells #[.bool (neg (q i).num), .slice a3 n3 c3, .slice a4 n4 c4] 36)).cell? ⟨W.heap.size, 1, none⟩ = some (.slice a3 n3 c3) := by rw [World.cell?_alloc_at _ _ _ _ rfl]; rfl
    have y2 : (W.alloc (.cells #[.bool (neg (q i).num), .slice a3 n3 c3, .slice a4 n4 c4] 36)).cell? ⟨W.heap.size, 2, none⟩ = some (.slice a4 n4 c4) := by rw [World.cell?_alloc_at _ _ _ _ rfl]; rfl
    have hM : FoldM gf lb (.agg #[.bool (neg p.num), .slice a1 n1 c1, .slice a2 n2 c2]) B w.heap.size (w.heap.size + 1) (w.heap.size + 1 + 1) p q i (.agg #[.bool (neg (q i).num), .slice a3 n3 c3, .slice a4 n4 c4]) _ _ := ⟨W.heap.size, a3, n3, c3, a4, n4, c4, rfl, y0, y1, y2, h3.past hal, h4.past hal, hI.past hal⟩
    have hall := And.intro (KeepsOthers.alloc W (.cells #[.bool (neg (q i).num), .slice a3 n3 c3, .slice a4 n4 c4] 36)) (And.intro (hal.mono hBW.size) hM)
    clear y0 y1 y2 hM
    gi_wp2
    exact hall
  · rintro l i x b W hi hBW0 hWs ⟨bx, a3, n3, c3, a4, n4, c4, rfl, h0, h1, h2, h3, h4, hI⟩
    obtain ⟨⟨au, nu, cu, ad, nd, cd, t0, t1, t2, hx, hlt, hu, hd⟩, hby, hbyl, hxR, hRl⟩ := hI
    have hS := hs i (by omega)
    have hQ := hq i hi
    have hSS := hs (i + 1) (by omega)
    have hsum : sumQ p q (i + 1) = sumQ p q i + q i := rfl
    obtain ⟨S, hSe⟩ : ∃ S, sumQ p q i = S := ⟨_, rfl⟩
    obtain ⟨X, hXe⟩ : ∃ X, q i = X := ⟨_, rfl⟩
    obtain ⟨Z, hZe⟩ : ∃ Z, sumQ p q (i + 1) = Z := ⟨_, rfl⟩
    rw [hSe] at hS t0 hu hd hsum
    rw [hXe] at hQ h0 h3 h4 hsum
    rw [hZe] at hsum
    have HPL := Lib.hid (plus_any S X _ _ _ _ _ _ _ _ _ _ _ _ W hu.toNatAt hd.toNatAt h3 h4 (by omega) (by omega))
    have HZ := Lib.hid hZe
    have HSUM := Lib.hid hsum.symm
    clear hS hQ hSS hsum hSe hXe hZe
    gi_wp2_with (refine ⟨trivial, ?_⟩; gi_at_call 62; refine (CallsIn.inRound l (callsIn_wide.2 HPL.out)).mono ?_; rintro e W2 ⟨a5, n5, c5, a6, n6, c6, rfl, u5, u6, hb⟩; rw [HSUM.out] at u5 u6 ⊢; have t0 := (hb.cell (p := ⟨w.heap.size, 0, none⟩) hlt).trans t0; have t1 := (hb.cell (p := ⟨w.heap.size, 1, none⟩) hlt).trans t1; have t2 := (hb.cell (p := ⟨w.heap.size, 2, none⟩) hlt).trans t2; have hx := hx.past hb hlt; have hlt2 := Nat.lt_of_lt_of_le hlt hb.size; have zf0 := hx.f 0 (by decide); have zf1 := hx.f 1 (by decide); have zf2 := hx.f 2 (by decide))
    obtain ⟨W3, hW3, hO, qN0, qN1, qN2, xN⟩ := store3 hx (.bool (neg Z.num)) (.slice a5 n5 c5) (.slice a6 n6 c6) (Go.Proofs.Ytlkoenpdmlbhlaa.nu rfl) (Go.Proofs.Ytlkoenpdmlbhlaa.nu rfl) (Go.Proofs.Ytlkoenpdmlbhlaa.nu rfl)
    have hkW2 : KeepsOthers W W2 := ⟨hb.size, fun k o h _ => (hb.block k (Array.getElem?_eq_some_iff.1 h).1).trans h⟩
    have hk3 : KeepsOthers W2 W3 := by rw [← hW3]; exact ((KeepsOthers.setCell _ _ _).trans (KeepsOthers.setCell _ _ _)).trans (KeepsOthers.setCell _ _ _)
    have hBl : B ≤ W.heap.size := Nat.le_trans hBw hWs
    try rw [hW3]
    exact ⟨hkW2.trans hk3, hO.below (Nat.le_refl _) (hb.mono hWs), ⟨a5, n5, c5, a6, n6, c6, by rw [HZ.out]; exact qN0, qN1, qN2, xN, by rw [hO.size]; exact hlt2, by rw [HZ.out]; exact hO.own (u5.mono hBl), by rw [HZ.out]; exact hO.own (u6.mono hBl)⟩, (hO.cell (b2 := w.heap.size + 1) (k := 0) (by omega)).trans ((hb.cell (p := ⟨w.heap.size + 1, 0, none⟩) hbyl).trans hby), by rw [hO.size]; exact Nat.lt_of_lt_of_le hbyl hb.size, hO.box (hxR.past hb hRl), by rw [hO.size]; exact Nat.lt_of_lt_of_le hRl hb.size⟩
  · intro D W hD hI hBW hdef
    obtain ⟨⟨au, nu, cu, ad, nd, cd, t0, t1, t2, hx, hlt, hu, hd⟩, hby, hbyl, hxR, hRl⟩ := hI
    obtain ⟨v0, v1, v2, z0, z1, z2, z3, z4, z5, _, _, _⟩ := hxR.three
    gi_wp2
    obtain ⟨W3, hW3, hO, qN0, qN1, qN2, xN⟩ := store3 hxR (.bool (neg (sumQ p q N).num)) (.slice au nu cu) (.slice ad nd cd) (Go.Proofs.Ytlkoenpdmlbhlaa.nu rfl) (Go.Proofs.Ytlkoenpdmlbhlaa.nu rfl) (Go.Proofs.Ytlkoenpdmlbhlaa.nu rfl)
    have hk3 : KeepsOthers W W3 := by rw [← hW3]; exact ((KeepsOthers.setCell _ _ _).trans (KeepsOthers.setCell _ _ _)).trans (KeepsOthers.setCell _ _ _)
    have hdef3 := hk3.same _ _ hdef rfl
    try rw [hW3]
    have r0 := cell_turn (.deferred none) qN0 hdef3 rfl
    have r1 := cell_turn (.deferred none) qN1 hdef3 rfl
    have r2 := cell_turn (.deferred none) qN2 hdef3 rfl
    have hB3 := (hO.below (by omega) hBW).trans (below_put (.deferred none) (show n0 ≤ D by omega))
    have u3 := (hO.own hu).turn (.deferred none) hdef3 rfl
    have u4 := (hO.own hd).turn (.deferred none) hdef3 rfl
    refine ⟨by simp, .inl ⟨_, _, rfl, run_takeDeferred hdef3, ?_⟩⟩
    refine ⟨.agg #[.bool (neg (sumQ p q N).num), .slice au nu cu, .slice ad nd cd], ?_, ?_⟩
    · simp [results, Try.f60, go_sem, r0, r1, r2]
    · exact ⟨_, _, _, _, _, _, rfl, u3, u4, hB3⟩

end Go.Proofs.Ytlkoenpdmlbhlaa
