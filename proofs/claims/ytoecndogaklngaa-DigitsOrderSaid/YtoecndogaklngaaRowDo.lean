import Derived.ProofKit
import Derived.OpenShut
import Derived.ShutString
import Derived.ChangeOld
import Derived.Below
import Derived.Test.YtoecndogaklngaaS0Do
import Derived.Test.YtoecndogaklngaaNumDo
set_option linter.unusedVariables false
set_option linter.unusedSimpArgs false
namespace Go.Proofs.Ytoecndogaklngaa
open Go.RowKit
def digitsOf (zs : List Int) (n : Nat) : List Nat := (zs.take n).map Int.toNat
theorem natAt_row {w : World} {a : Option Addr} {len cap : Nat} {zs : List Int}
 (h : (a = none ∧ len = 0 ∧ cap = 0 ∧ zs = []) ∨ ∃ x, a = some x ∧ len ≤ cap ∧ cap ≤ maxLen ∧ zs.length = cap ∧ (∀ i, i < zs.length → w.cell? (x.add i) = some (.int .u64 (zs.getD i 0))) ∧ ∀ n ∈ zs, (Lit.int .u64 n).wf = true) :
 NatAt w a len cap (digitsOf zs len) := by
 rcases h with ⟨rfl, rfl, rfl, rfl⟩ | ⟨x, rfl, h1, h2, h3, h4, h5⟩
 · exact NatAt.nil w
 · have hz : ∀ n ∈ zs, 0 ≤ n ∧ n < 18446744073709551616 := by
    intro n hn
    have := h5 n hn
    simp only [Lit.wf, IntKind.min, IntKind.max, IntKind.signed, IntKind.bits, Bool.and_eq_true, decide_eq_true_eq] at this
    obtain ⟨t1, t2⟩ := this
    simp at t1 t2
    omega
   have hlen : (digitsOf zs len).length = len := by simp [digitsOf]; omega
   refine ⟨hlen, h1, h2, ?_, ?_, fun e => by cases e⟩
   · intro d hd
     obtain ⟨n, hn, rfl⟩ := List.mem_map.1 hd
     have := hz n (List.mem_of_mem_take hn)
     omega
   · by_cases h0 : len = 0
     · exact .inl h0
     · have hc0 := h4 0 (by omega)
       have hsp : x.spot = none := by
        rw [show x.add 0 = x from rfl] at hc0
        unfold World.cell? at hc0
        split at hc0
        · cases hs : x.spot with
          | none => rfl
          | some s => simp [hs] at hc0
        · simp at hc0
       obtain ⟨b, o, s⟩ := x
       cases hsp
       refine .inr ⟨b, o, rfl, fun i hi => ?_⟩
       have hc := h4 i (by omega)
       rw [addr_add] at hc
       rw [hc]
       have hi' : i < zs.length := by omega
       have hD : ((D (digitsOf zs len) i : Nat) : Int) = zs.getD i 0 := by
        unfold D digitsOf
        rw [List.getD_eq_getElem?_getD, List.getElem?_map, List.getElem?_take, if_pos hi, List.getElem?_eq_getElem hi', List.getD_eq_getElem?_getD, List.getElem?_eq_getElem hi']
        have := hz zs[i] (List.getElem_mem hi')
        simp
        omega
       rw [hD]
theorem i64_row {x : Int} (h : (Lit.int .i64 x).wf = true) : -9223372036854775808 ≤ x ∧ x ≤ 9223372036854775807 := by
 simp only [Lit.wf, IntKind.min, IntKind.max, IntKind.signed, IntKind.bits, Bool.and_eq_true, decide_eq_true_eq, if_true] at h
 simpa using h
end Go.Proofs.Ytoecndogaklngaa
set_option linter.unusedVariables false
set_option linter.unusedSimpArgs false
namespace Go.Proofs.Ytoecndogaklngaa
open Go.RowKit Go.ChangeShapes Go.WideShapes Go.ChangeAt
def RowIn (k : IntKind) (w : World) (a : Option Addr) (len cap : Nat) (zs : List Int) : Prop :=
 (a = none ∧ len = 0 ∧ cap = 0 ∧ zs = []) ∨
 ∃ x, a = some x ∧ len ≤ cap ∧ cap ≤ maxLen ∧ zs.length = cap ∧ (∀ i, i < zs.length → w.cell? (x.add i) = some (.int k (zs.getD i 0))) ∧ ∀ n ∈ zs, (Lit.int k n).wf = true
section
variable {H : Type} {enc : TypeId × Value → H} {P : Program} {W : World}
theorem open_row {t e : TypeId} {k : IntKind} {fuel : Nat} {c : Value} {x : DataW H × List MemPlace} (ht : P.underlying t = some (.slice e)) (he : P.underlying e = some (.int k)) (hc : P.cellsOf e = 1)
 (h : DataW.trod enc P W 0 (fun _ => true) true fuel t [c] = some x) : ∃ a len cap zs, c = .slice a len cap ∧ RowIn k W a len cap zs := by
 rcases open_ints ht he hc h with ⟨hcs, _⟩ | ⟨x, l, c', zs, hcs, _, hl, hm, hz, _, hcell, hwz⟩
 · simp at hcs
   subst hcs
   exact ⟨_, _, _, [], rfl, .inl ⟨rfl, rfl, rfl, rfl⟩⟩
 · simp at hcs
   subst hcs
   exact ⟨_, _, _, zs, rfl, .inr ⟨_, rfl, hl, hm, by simpa using hz, hcell, hwz⟩⟩
end
end Go.Proofs.Ytoecndogaklngaa
