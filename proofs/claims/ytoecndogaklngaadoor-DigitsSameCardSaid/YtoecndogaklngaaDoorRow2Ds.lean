import Derived.ProofKit
import Derived.OpenShut
import Derived.ShutString
import Derived.ChangeOld
import Derived.Below
import Derived.Test.YtoecndogaklngaaDoorS0Ds
import Derived.Test.YtoecndogaklngaaDoorNumDs
set_option linter.unusedVariables false
set_option linter.unusedSimpArgs false
namespace Go.Proofs.YtoecndogaklngaaDoor
open Go.RowKit Go.ChangeShapes Go.WideShapes Go.ChangeAt
def RowIn (k : IntKind) (w : World) (a : Option Addr) (len cap : Nat) (zs : List Int) : Prop :=
 (a = none ∧ len = 0 ∧ cap = 0 ∧ zs = []) ∨
 ∃ x, a = some x ∧ len ≤ cap ∧ cap ≤ maxLen ∧ zs.length = cap ∧ (∀ i, i < zs.length → w.cell? (x.add i) = some (.int k (zs.getD i 0))) ∧ ∀ n ∈ zs, (Lit.int k n).wf = true
section
variable {H : Type} {enc : TypeId × Value → H} {P : Program} {W : World}
theorem open_row {t e : TypeId} {k : IntKind} {fuel : Nat} {c : Value} {x : DataW H × List MemPlace} (ht : P.underlying t = some (.slice e)) (he : P.underlying e = some (.int k)) (hc : P.cellsOf e = 1)
 (h : DataW.trod enc P W 0 (fun _ => true) true fuel t [c] = some x) : ∃ a len cap zs, c = .slice a len cap ∧ RowIn k W a len cap zs := by
 rcases open_ints ht he hc h with ⟨hcs, _⟩ | ⟨x, l, c', zs, hcs, _, hl, hm, hz, _, hcell, hwz⟩
 · simp at hcs
   subst hcs
   exact ⟨_, _, _, [], rfl, .inl ⟨rfl, rfl, rfl, rfl⟩⟩
 · simp at hcs
   subst hcs
   exact ⟨_, _, _, zs, rfl, .inr ⟨_, rfl, hl, hm, by simpa using hz, hcell, hwz⟩⟩
theorem open_bit {t : TypeId} {fuel : Nat} {c : Value} {x : DataW H × List MemPlace} (ht : P.underlying t = some .bool) (h : DataW.trod enc P W 0 (fun _ => true) true fuel t [c] = some x) : ∃ b, c = .bool b := by
 cases fuel with
 | zero => simp [DataW.trod] at h
 | succ n =>
   unfold DataW.trod at h
   rw [ht] at h
   split at h <;> simp_all
theorem open_wholeC {t : TypeId} {f0 f1 : Field} {e : TypeId} {fuel : Nat} {c0 c1 : Value} {x : DataW H × List MemPlace} (ht : P.underlying t = some (.struct #[f0, f1])) (o0 : f0.offset = 0) (o1 : f1.offset = 1)
 (hb : P.underlying f0.type = some .bool) (hn : P.underlying f1.type = some (.slice e)) (he : P.underlying e = some (.int .u64)) (z0 : P.cellsOf f0.type = 1) (z1 : P.cellsOf f1.type = 1) (ze : P.cellsOf e = 1)
 (h : DataW.trod enc P W 0 (fun _ => true) true fuel t [c0, c1] = some x) : ∃ b a len cap zs, c0 = .bool b ∧ c1 = .slice a len cap ∧ RowIn .u64 W a len cap zs := by
 obtain ⟨y0, y1, n, _, _, h0, h1⟩ := trod_struct2 ht h
 rw [o0, z0] at h0
 rw [o1, z1] at h1
 obtain ⟨b, hb'⟩ := open_bit hb h0
 obtain ⟨a, len, cap, zs, ha, hr⟩ := open_row hn he ze h1
 exact ⟨b, a, len, cap, zs, hb', ha, hr⟩
theorem open_ratioC {t : TypeId} {g0 g1 f0 f1 : Field} {e : TypeId} {fuel : Nat} {c0 c1 c2 : Value} {x : DataW H × List MemPlace} (ht : P.underlying t = some (.struct #[g0, g1])) (p0 : g0.offset = 0) (p1 : g1.offset = 2)
 (hu : P.underlying g0.type = some (.struct #[f0, f1])) (hn' : P.underlying g1.type = some (.slice e)) (o0 : f0.offset = 0) (o1 : f1.offset = 1)
 (hb : P.underlying f0.type = some .bool) (hn : P.underlying f1.type = some (.slice e)) (he : P.underlying e = some (.int .u64)) (y0 : P.cellsOf g0.type = 2) (y1 : P.cellsOf g1.type = 1) (z0 : P.cellsOf f0.type = 1) (z1 : P.cellsOf f1.type = 1) (ze : P.cellsOf e = 1)
 (h : DataW.trod enc P W 0 (fun _ => true) true fuel t [c0, c1, c2] = some x) :
 ∃ b a len cap zs a2 len2 cap2 zs2, c0 = .bool b ∧ c1 = .slice a len cap ∧ c2 = .slice a2 len2 cap2 ∧ RowIn .u64 W a len cap zs ∧ RowIn .u64 W a2 len2 cap2 zs2 := by
 obtain ⟨x0, x1, n, _, _, h0, h1⟩ := trod_struct2 ht h
 rw [p0, y0] at h0
 rw [p1, y1] at h1
 obtain ⟨b, a, len, cap, zs, q0, q1, hr⟩ := open_wholeC hu o0 o1 hb hn he z0 z1 ze (c0 := c0) (c1 := c1) h0
 obtain ⟨a2, len2, cap2, zs2, q2, hr2⟩ := open_row hn' he ze h1
 exact ⟨b, a, len, cap, zs, a2, len2, cap2, zs2, q0, q1, q2, hr, hr2⟩
theorem open_ratio {t : TypeId} {g0 g1 f0 f1 : Field} {e : TypeId} {v : Value} {d : DataW H} {ps : List MemPlace} (ht : P.underlying t = some (.struct #[g0, g1])) (p0 : g0.offset = 0) (p1 : g1.offset = 2)
 (hu : P.underlying g0.type = some (.struct #[f0, f1])) (hn' : P.underlying g1.type = some (.slice e)) (o0 : f0.offset = 0) (o1 : f1.offset = 1)
 (hb : P.underlying f0.type = some .bool) (hn : P.underlying f1.type = some (.slice e)) (he : P.underlying e = some (.int .u64)) (z : P.cellsOf t = 3) (y0 : P.cellsOf g0.type = 2) (y1 : P.cellsOf g1.type = 1) (z0 : P.cellsOf f0.type = 1) (z1 : P.cellsOf f1.type = 1) (ze : P.cellsOf e = 1)
 {r : Reach} {b0 : Nat} (hval : Value.okWide P W r b0 t v) (hd : DataW.Trod enc P W 0 (fun _ => true) true t v d ps) :
 ∃ b a len cap zs a2 len2 cap2 zs2, v = .agg #[.bool b, .slice a len cap, .slice a2 len2 cap2] ∧ RowIn .u64 W a len cap zs ∧ RowIn .u64 W a2 len2 cap2 zs2 := by
 obtain ⟨cs, rfl, hsz⟩ := okWide_struct ht hval
 rw [z] at hsz
 obtain ⟨c0, c1, c2, rfl⟩ : ∃ c0 c1 c2, cs = #[c0, c1, c2] := by
  obtain ⟨l⟩ := cs
  match l, hsz with
  | [c0, c1, c2], _ => exact ⟨c0, c1, c2, rfl⟩
 obtain ⟨fuel, hf⟩ := hd
 obtain ⟨b, a, len, cap, zs, a2, len2, cap2, zs2, h0, h1, h2, hr, hr2⟩ := open_ratioC ht p0 p1 hu hn' o0 o1 hb hn he y0 y1 z0 z1 ze (c0 := c0) (c1 := c1) (c2 := c2) hf
 exact ⟨b, a, len, cap, zs, a2, len2, cap2, zs2, by rw [h0, h1, h2], hr, hr2⟩
end
end Go.Proofs.YtoecndogaklngaaDoor
