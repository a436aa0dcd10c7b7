/- several texts as one: Row, Row2. -/
import Derived.Test.YtlkoenpdmlbhlaaA1
import Derived.ProofKit
import Derived.OpenShut
import Derived.ShutString
import Derived.ChangeOld
import Derived.Below

/- A row of digits that came in, as a list of digits. -/
set_option linter.unusedVariables false
set_option linter.unusedSimpArgs false
namespace Go.Proofs.Ytlkoenpdmlbhlaa
open Go.RowKit

/-- the digits of a row of integers -/
def digitsOf (zs : List Int) (n : Nat) : List Nat := (zs.take n).map Int.toNat

theorem natAt_row {w : World} {a : Option Addr} {len cap : Nat} {zs : List Int}
    (h : (a = none ∧ len = 0 ∧ cap = 0 ∧ zs = []) ∨ ∃ x, a = some x ∧ len ≤ cap ∧ cap ≤ maxLen ∧ zs.length = cap ∧ (∀ i, i < zs.length → w.cell? (x.add i) = some (.int .u64 (zs.getD i 0))) ∧ ∀ n ∈ zs, (Lit.int .u64 n).wf = true) :
    NatAt w a len cap (digitsOf zs len) := by
  rcases h with ⟨rfl, rfl, rfl, rfl⟩ | ⟨x, rfl, h1, h2, h3, h4, h5⟩
  · exact NatAt.nil w
  · have hz : ∀ n ∈ zs, 0 ≤ n ∧ n < 18446744073709551616 := by
      intro n hn
      have := h5 n hn
      simp only [Lit.wf, IntKind.min, IntKind.max, IntKind.signed, IntKind.bits, Bool.and_eq_true, decide_eq_true_eq] at this
      obtain ⟨t1, t2⟩ := this
      simp at t1 t2
      omega
    have hlen : (digitsOf zs len).length = len := by simp [digitsOf]; omega
    refine ⟨hlen, h1, h2, ?_, ?_, fun e => by cases e⟩
    · intro d hd
      obtain ⟨n, hn, rfl⟩ := List.mem_map.1 hd
      have := hz n (List.mem_of_mem_take hn)
      omega
    · by_cases h0 : len = 0
      · exact .inl h0
      · have hc0 := h4 0 (by omega)
        have hsp : x.spot = none := by
          rw [show x.add 0 = x from rfl] at hc0
          unfold World.cell? at hc0
          split at hc0
          · cases hs : x.spot with
            | none => rfl
            | some s => simp [hs] at hc0
          · simp at hc0
        obtain ⟨b, o, s⟩ := x
        cases hsp
        refine .inr ⟨b, o, rfl, fun i hi => ?_⟩
        have hc := h4 i (by omega)
        rw [addr_add] at hc
        rw [hc]
        have hi' : i < zs.length := by omega
        have hD : ((D (digitsOf zs len) i : Nat) : Int) = zs.getD i 0 := by
          unfold D digitsOf
          rw [List.getD_eq_getElem?_getD, List.getElem?_map, List.getElem?_take, if_pos hi, List.getElem?_eq_getElem hi', List.getD_eq_getElem?_getD, List.getElem?_eq_getElem hi']
          have := hz zs[i] (List.getElem_mem hi')
          simp
          omega
        rw [hD]

theorem i64_row {x : Int} (h : (Lit.int .i64 x).wf = true) : -9223372036854775808 ≤ x ∧ x ≤ 9223372036854775807 := by
  simp only [Lit.wf, IntKind.min, IntKind.max, IntKind.signed, IntKind.bits, Bool.and_eq_true, decide_eq_true_eq, if_true] at h
  simpa using h
theorem u64_row {x : Int} (h : (Lit.int .u64 x).wf = true) : 0 ≤ x ∧ x < 18446744073709551616 := by
  simp only [Lit.wf, IntKind.min, IntKind.max, IntKind.signed, IntKind.bits, Bool.and_eq_true, decide_eq_true_eq] at h
  obtain ⟨t1, t2⟩ := h
  simp at t1 t2
  omega

end Go.Proofs.Ytlkoenpdmlbhlaa

/- Structs that came in: an Int, a Ratio; their parts read as rows. -/
set_option linter.unusedVariables false
set_option linter.unusedSimpArgs false
namespace Go.Proofs.Ytlkoenpdmlbhlaa
open Go.RowKit Go.ChangeShapes Go.WideShapes Go.ChangeAt

/-- a slice of integers that came in -/
def RowIn (k : IntKind) (w : World) (a : Option Addr) (len cap : Nat) (zs : List Int) : Prop :=
  (a = none ∧ len = 0 ∧ cap = 0 ∧ zs = []) ∨
  ∃ x, a = some x ∧ len ≤ cap ∧ cap ≤ maxLen ∧ zs.length = cap ∧ (∀ i, i < zs.length → w.cell? (x.add i) = some (.int k (zs.getD i 0))) ∧ ∀ n ∈ zs, (Lit.int k n).wf = true

section
variable {H : Type} {enc : TypeId × Value → H} {P : Program} {W : World}
theorem open_row {t e : TypeId} {k : IntKind} {fuel : Nat} {c : Value} {x : DataW H × List MemPlace} (ht : P.underlying t = some (.slice e)) (he : P.underlying e = some (.int k)) (hc : P.cellsOf e = 1)
    (h : DataW.trod enc P W 0 (fun _ => true) true fuel t [c] = some x) : ∃ a len cap zs, c = .slice a len cap ∧ RowIn k W a len cap zs := by
  rcases open_ints ht he hc h with ⟨hcs, _⟩ | ⟨x, l, c', zs, hcs, _, hl, hm, hz, _, hcell, hwz⟩
  · simp at hcs
    subst hcs
    exact ⟨_, _, _, [], rfl, .inl ⟨rfl, rfl, rfl, rfl⟩⟩
  · simp at hcs
    subst hcs
    exact ⟨_, _, _, zs, rfl, .inr ⟨_, rfl, hl, hm, by simpa using hz, hcell, hwz⟩⟩
theorem open_bit {t : TypeId} {fuel : Nat} {c : Value} {x : DataW H × List MemPlace} (ht : P.underlying t = some .bool) (h : DataW.trod enc P W 0 (fun _ => true) true fuel t [c] = some x) : ∃ b, c = .bool b := by
  cases fuel with
  | zero => simp [DataW.trod] at h
  | succ n =>
    unfold DataW.trod at h
    rw [ht] at h
    split at h <;> simp_all
theorem open_num {t : TypeId} {k : IntKind} {fuel : Nat} {c : Value} {x : DataW H × List MemPlace} (ht : P.underlying t = some (.int k)) (h : DataW.trod enc P W 0 (fun _ => true) true fuel t [c] = some x) : ∃ n, c = .int k n ∧ (Lit.int k n).wf = true := by
  cases fuel with
  | zero => simp [DataW.trod] at h
  | succ n =>
    unfold DataW.trod at h
    rw [ht] at h
    split at h <;> simp_all
theorem open_wholeC {t : TypeId} {f0 f1 : Field} {e : TypeId} {fuel : Nat} {c0 c1 : Value} {x : DataW H × List MemPlace} (ht : P.underlying t = some (.struct #[f0, f1])) (o0 : f0.offset = 0) (o1 : f1.offset = 1)
    (hb : P.underlying f0.type = some .bool) (hn : P.underlying f1.type = some (.slice e)) (he : P.underlying e = some (.int .u64)) (z0 : P.cellsOf f0.type = 1) (z1 : P.cellsOf f1.type = 1) (ze : P.cellsOf e = 1)
    (h : DataW.trod enc P W 0 (fun _ => true) true fuel t [c0, c1] = some x) : ∃ b a len cap zs, c0 = .bool b ∧ c1 = .slice a len cap ∧ RowIn .u64 W a len cap zs := by
  obtain ⟨y0, y1, n, _, _, h0, h1⟩ := trod_struct2 ht h
  rw [o0, z0] at h0
  rw [o1, z1] at h1
  obtain ⟨b, hb'⟩ := open_bit hb h0
  obtain ⟨a, len, cap, zs, ha, hr⟩ := open_row hn he ze h1
  exact ⟨b, a, len, cap, zs, hb', ha, hr⟩
/-- an Int that came in -/
theorem open_whole {t : TypeId} {f0 f1 : Field} {e : TypeId} {v : Value} {d : DataW H} {ps : List MemPlace} (ht : P.underlying t = some (.struct #[f0, f1])) (o0 : f0.offset = 0) (o1 : f1.offset = 1)
    (hb : P.underlying f0.type = some .bool) (hn : P.underlying f1.type = some (.slice e)) (he : P.underlying e = some (.int .u64)) (z : P.cellsOf t = 2) (z0 : P.cellsOf f0.type = 1) (z1 : P.cellsOf f1.type = 1) (ze : P.cellsOf e = 1)
    {r : Reach} {b0 : Nat} (hval : Value.okWide P W r b0 t v) (hd : DataW.Trod enc P W 0 (fun _ => true) true t v d ps) : ∃ b a len cap zs, v = .agg #[.bool b, .slice a len cap] ∧ RowIn .u64 W a len cap zs := by
  obtain ⟨cs, rfl, hsz⟩ := okWide_struct ht hval
  rw [z] at hsz
  obtain ⟨c0, c1, rfl⟩ : ∃ c0 c1, cs = #[c0, c1] := by
    obtain ⟨l⟩ := cs
    match l, hsz with
    | [c0, c1], _ => exact ⟨c0, c1, rfl⟩
  obtain ⟨fuel, hf⟩ := hd
  obtain ⟨b, a, len, cap, zs, h0, h1, hr⟩ := open_wholeC ht o0 o1 hb hn he z0 z1 ze (c0 := c0) (c1 := c1) hf
  exact ⟨b, a, len, cap, zs, by rw [h0, h1], hr⟩
/-- a Ratio that came in -/
theorem open_ratioC {t : TypeId} {g0 g1 f0 f1 : Field} {e : TypeId} {fuel : Nat} {c0 c1 c2 : Value} {x : DataW H × List MemPlace} (ht : P.underlying t = some (.struct #[g0, g1])) (p0 : g0.offset = 0) (p1 : g1.offset = 2)
    (hu : P.underlying g0.type = some (.struct #[f0, f1])) (hn' : P.underlying g1.type = some (.slice e)) (o0 : f0.offset = 0) (o1 : f1.offset = 1)
    (hb : P.underlying f0.type = some .bool) (hn : P.underlying f1.type = some (.slice e)) (he : P.underlying e = some (.int .u64)) (y0 : P.cellsOf g0.type = 2) (y1 : P.cellsOf g1.type = 1) (z0 : P.cellsOf f0.type = 1) (z1 : P.cellsOf f1.type = 1) (ze : P.cellsOf e = 1)
    (h : DataW.trod enc P W 0 (fun _ => true) true fuel t [c0, c1, c2] = some x) :
    ∃ b a len cap zs a2 len2 cap2 zs2, c0 = .bool b ∧ c1 = .slice a len cap ∧ c2 = .slice a2 len2 cap2 ∧ RowIn .u64 W a len cap zs ∧ RowIn .u64 W a2 len2 cap2 zs2 := by
  obtain ⟨x0, x1, n, _, _, h0, h1⟩ := trod_struct2 ht h
  rw [p0, y0] at h0
  rw [p1, y1] at h1
  obtain ⟨b, a, len, cap, zs, q0, q1, hr⟩ := open_wholeC hu o0 o1 hb hn he z0 z1 ze (c0 := c0) (c1 := c1) h0
  obtain ⟨a2, len2, cap2, zs2, q2, hr2⟩ := open_row hn' he ze h1
  exact ⟨b, a, len, cap, zs, a2, len2, cap2, zs2, q0, q1, q2, hr, hr2⟩
theorem open_ratio {t : TypeId} {g0 g1 f0 f1 : Field} {e : TypeId} {v : Value} {d : DataW H} {ps : List MemPlace} (ht : P.underlying t = some (.struct #[g0, g1])) (p0 : g0.offset = 0) (p1 : g1.offset = 2)
    (hu : P.underlying g0.type = some (.struct #[f0, f1])) (hn' : P.underlying g1.type = some (.slice e)) (o0 : f0.offset = 0) (o1 : f1.offset = 1)
    (hb : P.underlying f0.type = some .bool) (hn : P.underlying f1.type = some (.slice e)) (he : P.underlying e = some (.int .u64)) (z : P.cellsOf t = 3) (y0 : P.cellsOf g0.type = 2) (y1 : P.cellsOf g1.type = 1) (z0 : P.cellsOf f0.type = 1) (z1 : P.cellsOf f1.type = 1) (ze : P.cellsOf e = 1)
    {r : Reach} {b0 : Nat} (hval : Value.okWide P W r b0 t v) (hd : DataW.Trod enc P W 0 (fun _ => true) true t v d ps) :
    ∃ b a len cap zs a2 len2 cap2 zs2, v = .agg #[.bool b, .slice a len cap, .slice a2 len2 cap2] ∧ RowIn .u64 W a len cap zs ∧ RowIn .u64 W a2 len2 cap2 zs2 := by
  obtain ⟨cs, rfl, hsz⟩ := okWide_struct ht hval
  rw [z] at hsz
  obtain ⟨c0, c1, c2, rfl⟩ : ∃ c0 c1 c2, cs = #[c0, c1, c2] := by
    obtain ⟨l⟩ := cs
    match l, hsz with
    | [c0, c1, c2], _ => exact ⟨c0, c1, c2, rfl⟩
  obtain ⟨fuel, hf⟩ := hd
  obtain ⟨b, a, len, cap, zs, a2, len2, cap2, zs2, h0, h1, h2, hr, hr2⟩ := open_ratioC ht p0 p1 hu hn' o0 o1 hb hn he y0 y1 z0 z1 ze (c0 := c0) (c1 := c1) (c2 := c2) hf
  exact ⟨b, a, len, cap, zs, a2, len2, cap2, zs2, by rw [h0, h1, h2], hr, hr2⟩
end

end Go.Proofs.Ytlkoenpdmlbhlaa
