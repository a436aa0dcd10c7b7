/- slices.Collect over whatever hands on fractions. -/
import Derived.Test.YtlkoenpdmlbhlaaRats2
import Derived.Test.YtlkoenpdmlbhlaaFold2
set_option linter.unusedVariables false
set_option linter.unusedSimpArgs false
namespace Go.Proofs.Ytlkoenpdmlbhlaa
open Go.RowKit Go.Shelf
attribute [local go_sem] Oper.semAt_some

theorem BoxAt.low {w w' : World} {B b k : Nat} (h : BoxAt w b k) (hb : Below B w w') (hl : b < B) : BoxAt w' b k :=
  ⟨fun i hi => by obtain ⟨v, hv, hu⟩ := h.c i hi; exact ⟨v, (hb.cell (p := ⟨b, i, none⟩) hl).trans hv, hu⟩, fun i hi => (hb.frozen (p := ⟨b, i, none⟩) hl).trans (h.f i hi)⟩
def AppI (B bS : Nat) (q : Nat → Rat) (i : Nat) (W : World) : Prop := ∃ v U, W.cell? ⟨bS, 0, none⟩ = some v ∧ BoxAt W bS 1 ∧ bS < B ∧ B ≤ U ∧ RatsSep W B U v i q
theorem AppI.lt {B bS : Nat} {q : Nat → Rat} {i : Nat} {W : World} (h : AppI B bS q i W) : bS < W.heap.size := by
  obtain ⟨v, U, _, _, h1, h2, h3⟩ := h
  obtain ⟨_, _, _, _, _, hU, _⟩ := h3
  omega
theorem AppI.past {B bS : Nat} {q : Nat → Rat} {i : Nat} {W W' : World} (h : AppI B bS q i W) (hb : Below W.heap.size W W') : AppI B bS q i W' := by
  have hl := h.lt
  obtain ⟨v, U, hc, hx, h1, h2, h3⟩ := h
  exact ⟨v, U, (hb.cell (p := ⟨bS, 0, none⟩) hl).trans hc, hx.past hb hl, h1, h2, h3.past hb⟩
theorem AppI.off {B bS b : Nat} {q : Nat → Rat} {i : Nat} {W : World} {x y : Int} (h : AppI B bS q i W) (hb : b < bS) (hc : W.cell? ⟨b, 0, none⟩ = some (.int .i64 x)) : AppI B bS q i (W.setCell ⟨b, 0, none⟩ (.int .i64 y)) := by
  obtain ⟨v, U, h0, hx, h1, h2, h3⟩ := h
  exact ⟨v, U, (World.cell?_setCell_other _ _ _ _ (fun e => by injection e with h2; omega)).trans h0, hx.set _ _ (notU_i64 y), h1, h2, h3.grown (grownBy_setCell' W b _) (by omega)⟩
theorem AppI.turn {B bS : Nat} {q : Nat → Rat} {i : Nat} {W : World} (h : AppI B bS q i W) {l : Nat} {o : Obj} (o' : Obj) (hl : W.heap[l]? = some o) (ho : o.isCells = false) : AppI B bS q i (W.putObj l o') := by
  obtain ⟨v, U, h0, hx, h1, h2, h3⟩ := h
  exact ⟨v, U, cell_turn o' h0 hl ho, hx.turn o' hl ho, h1, h2, h3.turn o' hl ho⟩
def AppM (gf : Nat) (lb : Array Value) (B bS : Nat) (q : Nat → Rat) (i : Nat) (x : Value) (b : Act) (W : World) : Prop :=
  ∃ bx a1 n1 c1 a2 n2 c2, b = { tmps := #[.slice none 0 0, .func (.func gf) #[] lb, .pointer (some ⟨bS, 0, none⟩), undef, .slice none 0 0, .pointer (some ⟨bx, 0, none⟩), .func (.func gf) #[] lb, x, undef, undef, undef, undef, undef], defers := [] } ∧
    W.cell? ⟨bx, 0, none⟩ = some (.bool (neg (q i).num)) ∧ W.cell? ⟨bx, 1, none⟩ = some (.slice a1 n1 c1) ∧ W.cell? ⟨bx, 2, none⟩ = some (.slice a2 n2 c2) ∧
    ∃ v U, W.cell? ⟨bS, 0, none⟩ = some v ∧ BoxAt W bS 1 ∧ bS < B ∧ B ≤ U ∧ RatsSep W B U v i q ∧ OwnAt W U a1 n1 c1 (digs (q i).num.natAbs) ∧ OwnAt W U a2 n2 c2 (digs (q i).den)
theorem AppM.turn {gf : Nat} {lb : Array Value} {B bS : Nat} {q : Nat → Rat} {i : Nat} {x : Value} {b : Act} {W : World} (h : AppM gf lb B bS q i x b W) {l : Nat} {o : Obj} (o' : Obj) (hl : W.heap[l]? = some o) (ho : o.isCells = false) : AppM gf lb B bS q i x b (W.putObj l o') := by
  obtain ⟨bx, a1, n1, c1, a2, n2, c2, e, h0, h1, h2, v, U, z0, hx, z1, z2, z3, g1, g2⟩ := h
  exact ⟨bx, a1, n1, c1, a2, n2, c2, e, cell_turn o' h0 hl ho, cell_turn o' h1 hl ho, cell_turn o' h2 hl ho, v, U, cell_turn o' z0 hl ho, hx.turn o' hl ho, z1, z2, z3.turn o' hl ho, g1.turn o' hl ho, g2.turn o' hl ho⟩
/-- a row of fractions in memory of its own -/
def RetRats (w : World) (N : Nat) (q : Nat → Rat) (e : Ending) (w' : World) : Prop := ∃ v U, e = .returned v ∧ RatsSep w' w.heap.size U v N q
set_option maxRecDepth 100000 in
set_option maxHeartbeats 8000000 in
theorem appendSeq_any (gf : Nat) (lb : Array Value) (N : Nat) (q : Nat → Rat) (w : World)
    (n0 : Nat) (bj : Option Nat) (hn0 : n0 ≤ w.heap.size) (hbj : ∀ b, bj = some b → b < w.heap.size) (hseq : Hands 2 Try.prog gf lb w n0 bj N (RatNew q)) (eg : ∀ args w, (callFunc gf args).run Try.prog w = .ok (.enter gf args) w) (hN : N ≤ 1000) :
    Calls Try.prog 94 #[.slice none 0 0, .func (.func gf) #[] lb] w fun e w' => RetRats w N q e w' ∧ Below n0 w w' := by
  refine (callsIn_wide (n := 3)).1 ?_
  refine callsIn_of_wp_marks Try.func94 rfl trivial ?_ rfl
  simp only [Try.ntmps94, List.size_toArray, List.length_cons, List.length_nil, Nat.reduceAdd, Nat.reduceSub, Array.replicate_succ, Array.replicate_zero, List.push_toArray, List.append_toArray, List.nil_append, List.cons_append]
  gi_wp2
  obtain ⟨w1, hW1, hz1, hb1, q1, f1⟩ := box1g w w.heap.size rfl #[.slice none 0 0] 49
  rw [hW1]
  have x1 : BoxAt w1 w.heap.size 1 := BoxAt.of q1 f1 rfl (by simp [notU_slice])
  have hI0 : AppI (w.heap.size + 1) w.heap.size q 0 w1 := ⟨_, w.heap.size + 1, q1 0, x1, Nat.lt_succ_self _, Nat.le_refl _, RatsSep.nil _ _ _ _ (by omega)⟩
  clear q1 f1 x1 hW1
  refine wpIn_rounds (w0 := w) (by decide) rfl eg hn0 hseq hb1 (AppI (w.heap.size + 1) w.heap.size q) (AppM gf lb (w.heap.size + 1) w.heap.size q)
    (fun i W W' h hb => h.past hb) (fun b hb i W x y h hc => h.off (hbj b hb) hc) (fun i W l o o' h hl ho _ => h.turn o' hl ho) (fun i x b W l o o' h hl ho _ => h.turn o' hl ho) hI0 ?_ ?_ ?_
  · rintro l i x W0 W hi hI0 hW0 hI hBW ⟨a3, n3, c3, a4, n4, c4, rfl, h3, h4⟩
    have hal : Below W.heap.size W (W.alloc (.cells #[.bool (neg (q i).num), .slice a3 n3 c3, .slice a4 n4 c4] 36)) := (Below.refl _ _).alloc (Nat.le_refl _) _
    have y0 : (W.alloc (.cells #[.bool (neg (q i).num), .slice a3 n3 c3, .slice a4 n4 c4] 36)).cell? ⟨W.heap.size, 0, none⟩ = some (.bool (neg (q i).num)) := by rw [World.cell?_alloc_at _ _ _ _ rfl]; rfl
    have y1 : (W.alloc (.cells #[.bool (neg (q i).num), .slice a3 n3 c3, .slice a4 n4 c4] 36)).cell? ⟨W.heap.size, 1, none⟩ = some (.slice a3 n3 c3) := by rw [World.cell?_alloc_at _ _ _ _ rfl]; rfl
    have y2 : (W.alloc (.cells #[.bool (neg (q i).num), .slice a3 n3 c3, .slice a4 n4 c4] 36)).cell? ⟨W.heap.size, 2, none⟩ = some (.slice a4 n4 c4) := by rw [World.cell?_alloc_at _ _ _ _ rfl]; rfl
    have hlt := hI0.lt
    obtain ⟨v, U, z0, hx, z1, z2, z3⟩ := hI0
    have hU : U ≤ W0.heap.size := by obtain ⟨_, _, _, _, _, hU, _⟩ := z3; exact hU
    have z3 := ((z3.up hU (Nat.le_refl _)).past hW0).past hal
    have z0 := (hal.cell (p := ⟨w.heap.size, 0, none⟩) (Nat.lt_of_lt_of_le hlt hW0.size)).trans ((hW0.cell (p := ⟨w.heap.size, 0, none⟩) hlt).trans z0)
    have hx := (hx.past hW0 hlt).past hal (Nat.lt_of_lt_of_le hlt hW0.size)
    have hM : AppM gf lb (w.heap.size + 1) w.heap.size q i (.agg #[.bool (neg (q i).num), .slice a3 n3 c3, .slice a4 n4 c4]) _ _ := ⟨W.heap.size, a3, n3, c3, a4, n4, c4, rfl, y0, y1, y2, v, W0.heap.size, z0, hx, z1, by omega, z3, h3.past hal, h4.past hal⟩
    have hall := And.intro (KeepsOthers.alloc W (.cells #[.bool (neg (q i).num), .slice a3 n3 c3, .slice a4 n4 c4] 36)) (And.intro (hal.mono hBW.size) hM)
    clear y0 y1 y2 hM z0 z1 z2 z3 hx
    gi_wp2
    exact hall
  · rintro l i x b W hi hBW0 hWs ⟨bx, a3, n3, c3, a4, n4, c4, rfl, h0, h1, h2, v, U, t0, hx, t1, t2, t3, h3, h4⟩
    have zf0 := hx.f 0 (by decide)
    have hal : Below W.heap.size W (W.alloc (.cells #[.bool (neg (q i).num), .slice a3 n3 c3, .slice a4 n4 c4] 36)) := (Below.refl _ _).alloc (Nat.le_refl _) _
    have y0 : (W.alloc (.cells #[.bool (neg (q i).num), .slice a3 n3 c3, .slice a4 n4 c4] 36)).cell? ⟨W.heap.size, 0, none⟩ = some (.bool (neg (q i).num)) := by rw [World.cell?_alloc_at _ _ _ _ rfl]; rfl
    have y1 : (W.alloc (.cells #[.bool (neg (q i).num), .slice a3 n3 c3, .slice a4 n4 c4] 36)).cell? ⟨W.heap.size, 1, none⟩ = some (.slice a3 n3 c3) := by rw [World.cell?_alloc_at _ _ _ _ rfl]; rfl
    have y2 : (W.alloc (.cells #[.bool (neg (q i).num), .slice a3 n3 c3, .slice a4 n4 c4] 36)).cell? ⟨W.heap.size, 2, none⟩ = some (.slice a4 n4 c4) := by rw [World.cell?_alloc_at _ _ _ _ rfl]; rfl
    have hUW : U ≤ W.heap.size := by obtain ⟨_, _, _, _, _, hU, _⟩ := t3; exact hU
    have hown := t3.lt
    have t3 := t3.past hal
    have h3 := h3.past hal
    have h4 := h4.past hal
    have hx2 := hx.past hal (by omega)
    have zf2 := hx2.f 0 (by decide)
    have hbz : w.heap.size + 1 ≤ (W.alloc (.cells #[.bool (neg (q i).num), .slice a3 n3 c3, .slice a4 n4 c4] 36)).heap.size := Nat.le_trans (by omega) hal.size
    have t02 := (hal.cell (p := ⟨w.heap.size, 0, none⟩) (show w.heap.size < W.heap.size by omega)).trans t0
    gi_wp2_with (gi_at_builtin; go_loud (refine wpListIn_push_sep rfl _ _ rfl (w.heap.size + 1) U i v q rfl t3 W.heap.size _ _ _ _ _ _ rfl y0 y1 y2 h3 h4 (by omega) t2 ?_; rintro v2 w2 k1 k2 k3 ⟨g2, c2, rfl⟩; have hb2 := (Below.refl (w.heap.size + 1) _).grown k2 hbz (fun k e => (hown k e).1); have q2 := (hb2.cell (p := ⟨w.heap.size, 0, none⟩) (Nat.lt_succ_self _)).trans t02; have hx2 := hx2.low hb2 (Nat.lt_succ_self _); have zf2 := hx2.f 0 (by decide)))
    have hw2 : w.heap.size + 1 ≤ w2.heap.size := Nat.le_trans hbz hb2.size
    refine ⟨((KeepsOthers.alloc W _).trans (KeepsOthers.of_grownBy k2 fun j o ej hj => t3.cells j o ej hj)).trans (KeepsOthers.setCell _ _ _), ?_, ?_⟩
    · exact ((hal.mono (by omega)).trans (hb2.mono (Nat.le_succ _))).setCell (p := ⟨w.heap.size, 0, none⟩) (Nat.le_refl _) _
    · exact ⟨_, w2.heap.size, World.cell?_setCell_same _ _ _ q2, hx2.set _ _ (Go.Proofs.Ytlkoenpdmlbhlaa.nu rfl), t1, hw2, k1.grown (grownBy_setCell' w2 w.heap.size _) (Nat.lt_succ_self _)⟩
  · intro D W hD hI hBW hdef
    obtain ⟨v, U, z0, hx, z1, z2, z3⟩ := hI
    gi_wp2
    refine ⟨by simp, .inl ⟨_, _, rfl, run_takeDeferred hdef, ?_⟩⟩
    exact ⟨_, results_tmp rfl _ _ _, ⟨v, U, rfl, (z3.turn (.deferred none) hdef rfl).mono (Nat.le_succ _)⟩, hBW.trans (below_put (.deferred none) (show n0 ≤ D by omega))⟩

set_option maxRecDepth 100000 in
set_option maxHeartbeats 8000000 in
theorem collect_any (gf : Nat) (lb : Array Value) (N : Nat) (q : Nat → Rat) (w : World)
    (n0 : Nat) (bj : Option Nat) (hn0 : n0 ≤ w.heap.size) (hbj : ∀ b, bj = some b → b < w.heap.size) (hseq : Hands 2 Try.prog gf lb w n0 bj N (RatNew q)) (eg : ∀ args w, (callFunc gf args).run Try.prog w = .ok (.enter gf args) w) (hN : N ≤ 1000) :
    Calls Try.prog 66 #[.func (.func gf) #[] lb] w fun e w' => RetRats w N q e w' ∧ Below n0 w w' := by
  have H := Lib.hid (appendSeq_any gf lb N q w n0 bj hn0 hbj hseq eg hN)
  clear hseq eg
  go_enter Try.func66, Try.ntmps66
  go_wp2_with fail
  refine H.out.mono ?_
  rintro e w1 ⟨⟨v, U, rfl, h1⟩, hb⟩
  go_wp2
  go_ret
  exact ⟨⟨v, U, rfl, h1⟩, hb⟩

end Go.Proofs.Ytlkoenpdmlbhlaa
