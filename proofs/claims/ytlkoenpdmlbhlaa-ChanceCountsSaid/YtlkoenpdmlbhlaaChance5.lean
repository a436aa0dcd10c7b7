/- chance, fifth part: the iterator of row. -/
import Derived.Test.YtlkoenpdmlbhlaaChance3
set_option linter.unusedVariables false
set_option linter.unusedSimpArgs false
namespace Go.Proofs.Ytlkoenpdmlbhlaa
open Go.RowKit Go.Shelf
attribute [local go_sem] Oper.semAt_some

theorem IntsAt.low {w0 w : World} {n0 : Nat} {a : Option Addr} {n c : Nat} {zs : List Int} (g : IntsAt w0 a n c zs) (hn : n = 0 ∨ ∀ x, a = some x → x.block < n0) (hb : Below n0 w0 w) : IntsAt w a n c zs := by
  refine ⟨g.len, g.le, g.cle, ?_, g.nilc, g.wf⟩
  rcases g.cell with h0 | ⟨b, o, rfl, hl, hc⟩
  · exact .inl h0
  · rcases hn with h0 | hn
    · exact .inl h0
    · exact .inr ⟨b, o, rfl, Nat.lt_of_lt_of_le hl hb.size, fun i hi => (hb.cell (p := ⟨b, o + i, none⟩) (show b < n0 from hn ⟨b, o, none⟩ rfl)).trans (hc i hi)⟩
theorem IntsAt.under {w : World} {a : Option Addr} {n c : Nat} {zs : List Int} (g : IntsAt w a n c zs) : n = 0 ∨ ∀ x, a = some x → x.block < w.heap.size := by
  rcases g.cell with h0 | ⟨b, o, rfl, hl, hc⟩
  · exact .inl h0
  · exact .inr fun x hx => by cases hx; exact hl
set_option maxRecDepth 100000 in
set_option maxHeartbeats 8000000 in
theorem row1_in (f : Nat) (hf : 1 ≤ f) (lp bJ bU bT bK n0 : Nat) (a : Option Addr) (n c : Nat) (zs : List Int) (k u j0 N : Nat) (w0 : World) (g : IntsAt w0 a n c zs) (hna : n = 0 ∨ ∀ x, a = some x → x.block < n0) (hok : okT zs (k : Int)) (hk : k ≤ 20) (hu : u ≤ k) (hj0 : j0 ≤ 2) (hN : N = u + 1 - j0)
    (lJ : bJ < w0.heap.size) (hn0 : n0 ≤ bJ) (lU : bU < n0) (lT : bT < n0) (lK : bK < n0)
    (qJ : w0.cell? ⟨bJ, 0, none⟩ = some (.int .i64 (j0 : Int))) (fJ : w0.frozen? ⟨bJ, 0, none⟩ = false) (qU : w0.cell? ⟨bU, 0, none⟩ = some (.int .i64 (u : Int))) (qT : w0.cell? ⟨bT, 0, none⟩ = some (.slice a n c)) (qK : w0.cell? ⟨bK, 0, none⟩ = some (.int .i64 (k : Int)))
    (J : Nat → World → Prop)
    (hY : ∀ i (a1 : Option Addr) (n1 c1 : Nat) (a2 : Option Addr) (n2 c2 : Nat) W0 W, i < N → J i W0 → Below W0.heap.size W0 W → J i W → Below n0 w0 W → OwnAt W W0.heap.size a1 n1 c1 (digs (inR24 zs k u (j0 + i)).num.natAbs) → OwnAt W W0.heap.size a2 n2 c2 (digs (inR24 zs k u (j0 + i)).den) →
      YieldAt Fence.wide (f - 1) Try.prog lp #[.agg #[.bool (neg (inR24 zs k u (j0 + i)).num), .slice a1 n1 c1, .slice a2 n2 c2]] W fun e W' => e = .returned (.bool true) ∧ J (i + 1) W' ∧ Below w0.heap.size W W')
    (hJ : ∀ i W W', J i W → Below W.heap.size W W' → J i W')
    (hJ2 : ∀ i W x y, J i W → W.cell? ⟨bJ, 0, none⟩ = some (.int .i64 x) → J i (W.setCell ⟨bJ, 0, none⟩ (.int .i64 y)))
    (W : World) (hb0 : Below w0.heap.size w0 W) (h0 : J 0 W) :
    CallsIn Fence.wide f Try.prog 90 #[.func (.yield lp) #[] #[], .pointer (some ⟨bJ, 0, none⟩), .pointer (some ⟨bU, 0, none⟩), .pointer (some ⟨bT, 0, none⟩), .pointer (some ⟨bK, 0, none⟩)] W fun e W' => (∃ v, e = .returned v) ∧ J N W' ∧ Below n0 w0 W' := by
  have HY := Lib.hid hY
  have HJ := Lib.hid hJ
  have HJ2 := Lib.hid hJ2
  have HOK := Lib.hid hok
  have qJW := (hb0.cell (p := ⟨bJ, 0, none⟩) lJ).trans qJ
  have fJW : W.frozen? ⟨bJ, 0, none⟩ = false := (hb0.frozen (p := ⟨bJ, 0, none⟩) lJ).trans fJ
  have hszW := hb0.size
  have hbn := hb0.mono (show n0 ≤ w0.heap.size by omega)
  clear hY hJ hJ2 hok
  refine callsIn_of_wp Try.func90 rfl trivial ?_ rfl
  simp only [Try.ntmps90, List.size_toArray, List.length_cons, List.length_nil, Nat.reduceAdd, Nat.reduceSub, Array.replicate_succ, Array.replicate_zero, List.push_toArray, List.append_toArray, List.nil_append, List.cons_append]
  gi_wp2
  gi_loopw [] (fun wr => ∃ i, i ≤ N ∧ J i wr ∧ Below n0 w0 wr ∧ w0.heap.size ≤ wr.heap.size ∧ wr.cell? ⟨bJ, 0, none⟩ = some (.int .i64 ((j0 + i : Nat) : Int)) ∧ wr.frozen? ⟨bJ, 0, none⟩ = false)
    (fun wr => match wr.cell? ⟨bJ, 0, none⟩ with
      | some v => u + 1 - (intOf v).toNat
      | none => 0)
  case atStart => exact ⟨0, Nat.zero_le _, h0, hbn, hszW, qJW, fJW⟩
  case round =>
    clear qJ fJ h0 hb0 qJW fJW hbn hszW
    obtain ⟨i, hi, hJi, hB, hsz, qJ, fJ⟩ := hrel
    have qU := (hB.cell (p := ⟨bU, 0, none⟩) lU).trans qU
    have qT := (hB.cell (p := ⟨bT, 0, none⟩) lT).trans qT
    have qK := (hB.cell (p := ⟨bK, 0, none⟩) lK).trans qK
    have g := g.low hna hB
    obtain ⟨m, hm⟩ : ∃ m, j0 + i = m := ⟨_, rfl⟩
    rw [hm] at qJ
    have lJ2 : bJ < wr.heap.size := by omega
    by_cases hlt : m ≤ u
    · have hi2 : i < N := by omega
      have qJ0 := qJ
      have HY1 := Lib.hid (fun a1 n1 c1 a2 n2 c2 W => HY.out i a1 n1 c1 a2 n2 c2 wr W hi2 hJi)
      have t0 : decide (m ≤ u) = true := decide_eq_true hlt
      have HIN := Lib.hid (in_any _ _ _ zs k u m wr g HOK.out hk hu hlt)
      rw [hm] at HY1
      gi_wp2_with (first | (refine ⟨trivial, ?_⟩; gi_at_call 57; refine (callsIn_wide.2 HIN.out).mono ?_; rintro e W2 ⟨a1, n1, c1, a2, n2, c2, rfl, u1, u2, hb⟩; obtain ⟨fn, tmps, assign, body, hy, hR⟩ := HY1.out _ _ _ _ _ _ W2 hb (HJ.out i _ _ hJi hb) (hB.trans (hb.mono (by omega))) u1 u2; have qJ := (hb.cell (p := ⟨bJ, 0, none⟩) lJ2).trans qJ; have fJ : W2.frozen? ⟨bJ, 0, none⟩ = false := (hb.frozen (p := ⟨bJ, 0, none⟩) lJ2).trans fJ; have hB2 := hB.trans (hb.mono (show n0 ≤ wr.heap.size by omega)); have hsz2 : w0.heap.size ≤ W2.heap.size := Nat.le_trans hsz hb.size; clear u1 u2 hb) | (refine hR.mono ?_; rintro e W3 ⟨rfl, hJ3, hk3⟩; have qJ := (hk3.cell (p := ⟨bJ, 0, none⟩) lJ).trans qJ; have fJ : W3.frozen? ⟨bJ, 0, none⟩ = false := (hk3.frozen (p := ⟨bJ, 0, none⟩) lJ).trans fJ; have hB3 := hB2.trans (hk3.mono (show n0 ≤ w0.heap.size by omega)); have hsz3 : w0.heap.size ≤ W3.heap.size := Nat.le_trans hsz2 hk3.size))
      have q2 := World.cell?_setCell_same W3 ⟨bJ, 0, none⟩ (.int .i64 ((m : Int) + 1)) qJ
      refine ⟨⟨i + 1, by omega, HJ2.out _ _ _ _ hJ3 qJ, hB3.setCell (p := ⟨bJ, 0, none⟩) hn0 _, by simpa using hsz3, by rw [q2]; congr 2; omega, by simpa using fJ⟩, ?_⟩
      rw [q2, qJ0]
      simp only [intOf]
      omega
    · have t0 : decide (m ≤ u) = false := decide_eq_false hlt
      obtain rfl : i = N := by omega
      gi_wp2_with (refine ⟨trivial, ?_⟩)
      refine ⟨fun f hf => (by cases hf), ?_⟩
      gi_wp2
      go_end0
      exact ⟨⟨_, rfl⟩, hJi, hB⟩

end Go.Proofs.Ytlkoenpdmlbhlaa
