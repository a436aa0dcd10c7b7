/- A slice of fractions' parts that came in. -/
import Derived.Test.YtmhjhhcdjecdbaaGreatA0
import Derived.Test.YtmhjhhcdjecdbaaGreatB3
import Derived.Deep.Slices
set_option linter.unusedVariables false
set_option linter.unusedSimpArgs false
namespace Go.Proofs.YtmhjhhcdjecdbaaGreat
open Go.RowKit Go.ChangeShapes Go.WideShapes Go.ChangeAt

section
variable {H : Type} {enc : TypeId × Value → H} {P : Program} {W : World}
theorem spot_none {w : World} {x : Addr} {v : Value} (h : w.cell? x = some v) : x.spot = none := by
  unfold World.cell? at h
  split at h
  · cases hs : x.spot with
    | none => rfl
    | some s => simp [hs] at h
  · simp at h
theorem open_rats {t r : TypeId} {g0 g1 f0 f1 : Field} {e : TypeId} {fuel : Nat} {c : Value} {x : DataW H × List MemPlace} (ht : P.underlying t = some (.slice r)) (hr : P.underlying r = some (.struct #[g0, g1])) (p0 : g0.offset = 0) (p1 : g1.offset = 2)
    (hu : P.underlying g0.type = some (.struct #[f0, f1])) (hn' : P.underlying g1.type = some (.slice e)) (o0 : f0.offset = 0) (o1 : f1.offset = 1)
    (hb : P.underlying f0.type = some .bool) (hn : P.underlying f1.type = some (.slice e)) (he : P.underlying e = some (.int .u64)) (z : P.cellsOf r = 3) (y0 : P.cellsOf g0.type = 2) (y1 : P.cellsOf g1.type = 1) (z0 : P.cellsOf f0.type = 1) (z1 : P.cellsOf f1.type = 1) (ze : P.cellsOf e = 1)
    (h : DataW.trod enc P W 0 (fun _ => true) true fuel t [c] = some x) : ∃ a len cap f, c = .slice a len cap ∧ RatsAt W a len cap f := by
  rcases Go.Deep.open_slice ht h with ⟨hcs, _⟩ | ⟨a, len, cap, m, n, D, Pl, hcs, _, hl, hm, hmm, _, hx⟩
  · simp at hcs
    subst hcs
    exact ⟨none, 0, 0, fun _ => (false, [], []), rfl, RatsAt.nil W _⟩
  · simp at hcs
    subst hcs
    simp at hmm
    subst hmm
    by_cases h0 : len = 0
    · subst h0
      exact ⟨_, _, _, fun _ => (false, [], []), rfl, hl, hm, .inl rfl⟩
    have each : ∀ i, i < len → ∃ y : Bool × List Nat × List Nat, ∃ a1 n1 c1 a2 n2 c2, W.cell? (a.add (i * 3)) = some (.bool y.1) ∧ W.cell? (a.add (i * 3 + 1)) = some (.slice a1 n1 c1) ∧ W.cell? (a.add (i * 3 + 2)) = some (.slice a2 n2 c2) ∧
        NatAt W a1 n1 c1 y.2.1 ∧ NatAt W a2 n2 c2 y.2.2 := by
      intro i hi
      obtain ⟨cs', h1, h2⟩ := hx i (by omega)
      rw [z] at h1
      obtain ⟨_, hlen, hcell⟩ := World.cells?_some h1
      match cs', hlen with
      | [v0, v1, v2], _ =>
        obtain ⟨b, b1, l1, c1, z1', b2, l2, c2, z2', rfl, rfl, rfl, r1, r2⟩ := open_ratioC hr p0 p1 hu hn' o0 o1 hb hn he y0 y1 z0 z1 ze h2
        have e0 := hcell 0 (by decide)
        have e1 := hcell 1 (by decide)
        have e2 := hcell 2 (by decide)
        rw [Go.Deep.add_add] at e0 e1 e2
        exact ⟨(b, digitsOf z1' l1, digitsOf z2' l2), b1, l1, c1, b2, l2, c2, e0, e1, e2, natAt_row r1, natAt_row r2⟩
    obtain ⟨f, hf⟩ := Go.Deep.choose_lt each
    refine ⟨_, _, _, f, rfl, hl, hm, .inr ?_⟩
    obtain ⟨_, _, _, _, _, _, q0, _⟩ := hf 0 (by omega)
    have hs := spot_none q0
    rw [show (a.add (0 * 3)) = a by rw [Nat.zero_mul]; unfold Addr.add; split <;> simp_all] at hs q0
    obtain ⟨b, o, s⟩ := a
    cases hs
    refine ⟨b, o, rfl, World.block_lt_of_cell? W ⟨b, o, none⟩ q0, fun i hi => ?_⟩
    obtain ⟨a1, n1, c1, a2, n2, c2, e0, e1, e2, h1, h2⟩ := hf i hi
    rw [addr_add] at e0 e1 e2
    exact ⟨a1, n1, c1, a2, n2, c2, e0, e1, e2, h1, h2⟩
end

end Go.Proofs.YtmhjhhcdjecdbaaGreat
