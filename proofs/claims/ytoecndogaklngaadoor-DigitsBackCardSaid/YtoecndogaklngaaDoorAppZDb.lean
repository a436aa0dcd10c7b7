import Derived.Lib.AppendZeros
import Derived.ArgAppend
import Derived.Test.YtoecndogaklngaaDoorS0Db
import Derived.Test.YtoecndogaklngaaDoorNumDb
set_option linter.unusedVariables false
set_option linter.unusedSimpArgs false
namespace Go.Proofs.YtoecndogaklngaaDoor
open Go.RowKit
theorem run_append_zeros {P : Program} (w : World) (t tn ty e : TypeId) (i : TypeInfo) (z : Value) (k kn : IntKind) (ht : P.underlying t = some (.slice e)) (htn : P.underlying tn = some (.int kn)) (hi : P.info? e = some i) (hz : i.zero = some z)
 (hsize : i.size = 1) (hby : i.bytes = 8) (b : Addr) (m cap : Nat) (olds : List Value) (hlo : olds.length = m) (holds : ∀ j u, olds[j]? = some u → w.cell? (b.add j) = some u) (n : Nat) (h0 : 0 < n) (hg : cap < m + n) (h63 : m + n ≤ 1099511627776) :
 (Builtin.append_ #[t, tn] ty #[.slice (some b) m cap, .int k n]).run P w =
   .ok (.slice (some ⟨w.heap.size, 0, none⟩) (m + n) (grownCap w (m + n) cap e)) (w.drew.alloc (.cells (olds.toArray ++ Builtin.zeroCells z.cells n ++ Builtin.zeroCells z.cells (grownCap w (m + n) cap e - (m + n))) e)) := by
 have hn : n ≠ 0 := by omega
 have hw : IntKind.i64.wrap (n : Int) = n := by rw [IntKind.wrap_i64]; omega
 have h63' : ¬ (9223372036854775807 < (m : Int) + (n : Int)) := by omega
 have hfit := growslice_fits (bytes := i.bytes) hg (by rw [hby]; omega)
 have h48i : ¬ (281474976710656 < (n : Int) * (i.bytes : Int)) := by
  rw [hby]; omega
 have hneg : ¬ ((n : Int) < 0) := by omega
 have hns : ¬ (n * i.size = 0) := Nat.mul_ne_zero hn (by omega)
 have hroom : ¬ (m + n ≤ cap) := by omega
 have hfc := run_firstCells_some (P := P) w.drew i.size m b m cap olds (by rw [hsize]; omega) holds
 simp [Builtin.append_, run_underlying ht, run_underlying htn, sizeOf, typeInfo, zeroValue, hi, hz, asInt, asIntOf, hw, hn, hneg, hns, h63', h48i, hroom, Question.forced, hfc, newRow, grownCap, hfit]
 intro h
 omega
theorem run_append_none {P : Program} (w : World) (t tn ty e : TypeId) (i : TypeInfo) (k kn : IntKind) (ht : P.underlying t = some (.slice e)) (htn : P.underlying tn = some (.int kn)) (hi : P.info? e = some i)
 (b : Addr) (m cap : Nat) (hg : m ≤ cap) :
 (Builtin.append_ #[t, tn] ty #[.slice (some b) m cap, .int k ((0 : Nat) : Int)]).run P w = .ok (.slice (some b) m cap) w := by
 have hw : IntKind.i64.wrap (0 : Int) = 0 := by rw [IntKind.wrap_i64]; omega
 simp [Builtin.append_, run_underlying ht, run_underlying htn, sizeOf, typeInfo, hi, asInt, asIntOf, hw, hg, storeCells]
theorem appended_own {E : Nat} {w : World} {m n cap : Nat} {l : List Nat} (hl : l.length = m) (hd : Dig l) (h63 : m + n ≤ 1099511627776) :
 OwnAt (w.drew.alloc (.cells ((dv l).toArray ++ Builtin.zeroCells (Value.int .u64 0).cells n ++ Builtin.zeroCells (Value.int .u64 0).cells (grownCap w (m + n) cap E - (m + n))) E)) w.heap.size (some ⟨w.heap.size, 0, none⟩) (m + n) (grownCap w (m + n) cap E) (l ++ List.replicate n 0) := by
 have hge := grownCap_ge w (m + n) cap E
 have hcm : grownCap w (m + n) cap E ≤ maxLen := grownCap_le_maxLen w (m + n) cap E (by simp only [maxLen]; omega)
 have hz : (Builtin.zeroCells (Value.int .u64 0).cells n).toList = dv (List.replicate n 0) := by
  rw [dv_replicate]
  apply List.ext_getElem
  · simp [Builtin.zeroCells, Value.cells]
  · intro i h1 h2
    simp [Builtin.zeroCells, Value.cells, Nat.mod_one]
 have hlen : (dv (l ++ List.replicate n 0)).length = m + n := by rw [dv_length, List.length_append, List.length_replicate, hl]
 have hrow : (w.drew.alloc (.cells ((dv l).toArray ++ Builtin.zeroCells (Value.int .u64 0).cells n ++ Builtin.zeroCells (Value.int .u64 0).cells (grownCap w (m + n) cap E - (m + n))) E)).ownsRow w.heap.size E 1 (.slice (some ⟨w.heap.size, 0, none⟩) (m + n) (grownCap w (m + n) cap E)) (m + n) (dv (l ++ List.replicate n 0)) := by
  refine ⟨by rw [hlen, Nat.mul_one], .inr ⟨w.heap.size, _, _, rfl, Nat.le_refl _, heap_alloc_new w.drew _, hge, hcm, ?_, ?_⟩⟩
  · simp [Builtin.zeroCells, Value.cells, dv_length, hl]
    omega
  · simp only [Array.toList_append, hz]
    rw [← dv_append, hlen.symm, Nat.mul_one]
    exact List.take_left
 obtain ⟨a, c, he, ho⟩ := OwnAt.ofRow hrow (dig_append.2 ⟨hd, dig_replicate _⟩)
 cases he
 exact ho
end Go.Proofs.YtoecndogaklngaaDoor
