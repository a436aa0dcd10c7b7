/-
  No cell of these rows narrows 'for every input' (looked for: loops, veiled, ifaces, maps, wideKeys, modest, calm, conditions, laid).
  DERIVED. THE GIVEN ROWS OF THIS SEAT. 8 by the template 'for every input the law returns true; each argument reads behind the call as it read before'; 0 by the template 'total and deterministic' (their statements: YtlkoenpdmlbhlaaTotals.lean).
  GIVEN WITH THE SEED: the statements are not yours to turn. If you find one false, say at which input.
  Laid BY PROGRAM, IN A SANDBOX (cutbox-rows.mjs): the forced cells as the released guide's own fill.sh prints them over the translation 4eb0c1cd7e70e525… (all of the seat's roots in one cut). By AI agents, Wed Nov 11 2026. No macro, syntax, notation, axiom, sorry.
-/
import Derived.Test.YtlkoenpdmlbhlaaChecked
import GoSem.Claim
import GoSem.ClaimJoined
import GoSem.ClaimMapViews
import Derived.JoinedTies
import Derived.KernelRfl
namespace Go.Proofs.Ytlkoenpdmlbhlaa
/- THE CELL 'sum', in the pinned program and in every row, IS THE sha256 OF THE DUMP (.gsa) THAT YtlkoenpdmlbhlaaProg.lean LOADS. Nothing in Lean hashes anything: it is a label: what it is worth is what the hold of that sum in a sandbox is worth. -/
noncomputable def Try.pinned : Pinned := { name := "ytlkoenpdmlbhlaa", sum := "4eb0c1cd7e70e525cea2f3619750b00d2823df6a06899fda3a75db9f94f80e00", checked := Try.checked }
namespace Rows
def none {H : Type} : Left H := { results := [], args := [] }

/-- 'artesianlaw13.SolitonWhole': WHATEVER THE INPUT: true; the input reads as it did. -/
def solitonWholeSpec : ChangeSpec := { name := "solitonWhole", fn := fun _ => fun
  | [d1, d2] => { results := [.lit (.bool true)], args := [d1, d2] }
  | _ => none }
def solitonWholeRow : OpenClaim := { program := "ytlkoenpdmlbhlaa", sum := "4eb0c1cd7e70e525cea2f3619750b00d2823df6a06899fda3a75db9f94f80e00", func := "artesian/artesianlaw13.SolitonWhole", spec := "solitonWhole", inPlace := ["math/bits.Add64", "math/bits.Sub64"], unfollowed := true, recurses := true, named := ["math/bits.divideError", "math/bits.overflowError"], apart := false }
def SolitonWholeSaid : Prop := solitonWholeRow.holds Try.pinned (OpenSpec.ofChange solitonWholeSpec)

/-- ITS FALSE NEIGHBOUR: 'it returns false'. Refute it at one input. -/
def solitonWholeWrong : ChangeSpec := { name := "solitonWhole", fn := fun _ => fun
  | [d1, d2] => { results := [.lit (.bool false)], args := [d1, d2] }
  | _ => none }
def SolitonWholeWrongFalsely : Prop := solitonWholeRow.holds Try.pinned (OpenSpec.ofChange solitonWholeWrong)

/-- 'artesianlaw13.SolitonKnown': WHATEVER THE INPUT: true; the input reads as it did. -/
def solitonKnownSpec : ChangeSpec := { name := "solitonKnown", fn := fun _ => fun
  | [] => { results := [.lit (.bool true)], args := [] }
  | _ => none }
def solitonKnownRow : OpenClaim := { program := "ytlkoenpdmlbhlaa", sum := "4eb0c1cd7e70e525cea2f3619750b00d2823df6a06899fda3a75db9f94f80e00", func := "artesian/artesianlaw13.SolitonKnown", spec := "solitonKnown", inPlace := ["math/bits.Add64", "math/bits.Sub64"], unfollowed := true, recurses := true, named := ["math/bits.divideError", "math/bits.overflowError"], apart := false }
def SolitonKnownSaid : Prop := solitonKnownRow.holds Try.pinned (OpenSpec.ofChange solitonKnownSpec)

/-- ITS FALSE NEIGHBOUR: 'it returns false'. Refute it at one input. -/
def solitonKnownWrong : ChangeSpec := { name := "solitonKnown", fn := fun _ => fun
  | [] => { results := [.lit (.bool false)], args := [] }
  | _ => none }
def SolitonKnownWrongFalsely : Prop := solitonKnownRow.holds Try.pinned (OpenSpec.ofChange solitonKnownWrong)

/-- 'artesianlaw13.SolitonSpike': WHATEVER THE INPUT: true; the input reads as it did. -/
def solitonSpikeSpec : ChangeSpec := { name := "solitonSpike", fn := fun _ => fun
  | [d1, d2, d3, d4] => { results := [.lit (.bool true)], args := [d1, d2, d3, d4] }
  | _ => none }
def solitonSpikeRow : OpenClaim := { program := "ytlkoenpdmlbhlaa", sum := "4eb0c1cd7e70e525cea2f3619750b00d2823df6a06899fda3a75db9f94f80e00", func := "artesian/artesianlaw13.SolitonSpike", spec := "solitonSpike", inPlace := ["math/bits.Add64", "math/bits.Sub64"], unfollowed := true, recurses := true, named := ["math/bits.divideError", "math/bits.overflowError"], apart := false }
def SolitonSpikeSaid : Prop := solitonSpikeRow.holds Try.pinned (OpenSpec.ofChange solitonSpikeSpec)

/-- ITS FALSE NEIGHBOUR: 'it returns false'. Refute it at one input. -/
def solitonSpikeWrong : ChangeSpec := { name := "solitonSpike", fn := fun _ => fun
  | [d1, d2, d3, d4] => { results := [.lit (.bool false)], args := [d1, d2, d3, d4] }
  | _ => none }
def SolitonSpikeWrongFalsely : Prop := solitonSpikeRow.holds Try.pinned (OpenSpec.ofChange solitonSpikeWrong)

/-- 'artesianlaw24.ChanceKnown': WHATEVER THE INPUT: true; the input reads as it did. -/
def chanceKnownSpec : ChangeSpec := { name := "chanceKnown", fn := fun _ => fun
  | [] => { results := [.lit (.bool true)], args := [] }
  | _ => none }
def chanceKnownRow : OpenClaim := { program := "ytlkoenpdmlbhlaa", sum := "4eb0c1cd7e70e525cea2f3619750b00d2823df6a06899fda3a75db9f94f80e00", func := "artesian/artesianlaw24.ChanceKnown", spec := "chanceKnown", inPlace := ["math/bits.Add64", "math/bits.Sub64"], unfollowed := true, recurses := true, named := ["math/bits.divideError", "math/bits.overflowError"], apart := false }
def ChanceKnownSaid : Prop := chanceKnownRow.holds Try.pinned (OpenSpec.ofChange chanceKnownSpec)

/-- ITS FALSE NEIGHBOUR: 'it returns false'. Refute it at one input. -/
def chanceKnownWrong : ChangeSpec := { name := "chanceKnown", fn := fun _ => fun
  | [] => { results := [.lit (.bool false)], args := [] }
  | _ => none }
def ChanceKnownWrongFalsely : Prop := chanceKnownRow.holds Try.pinned (OpenSpec.ofChange chanceKnownWrong)

/-- 'artesianlaw24.ChanceCounts': WHATEVER THE INPUT: true; the input reads as it did. -/
def chanceCountsSpec : ChangeSpec := { name := "chanceCounts", fn := fun _ => fun
  | [d1, d2, d3, d4] => { results := [.lit (.bool true)], args := [d1, d2, d3, d4] }
  | _ => none }
def chanceCountsRow : OpenClaim := { program := "ytlkoenpdmlbhlaa", sum := "4eb0c1cd7e70e525cea2f3619750b00d2823df6a06899fda3a75db9f94f80e00", func := "artesian/artesianlaw24.ChanceCounts", spec := "chanceCounts", inPlace := ["math/bits.Add64", "math/bits.Sub64"], unfollowed := true, recurses := true, named := ["math/bits.divideError", "math/bits.overflowError"], apart := false }
def ChanceCountsSaid : Prop := chanceCountsRow.holds Try.pinned (OpenSpec.ofChange chanceCountsSpec)

/-- ITS FALSE NEIGHBOUR: 'it returns false'. Refute it at one input. -/
def chanceCountsWrong : ChangeSpec := { name := "chanceCounts", fn := fun _ => fun
  | [d1, d2, d3, d4] => { results := [.lit (.bool false)], args := [d1, d2, d3, d4] }
  | _ => none }
def ChanceCountsWrongFalsely : Prop := chanceCountsRow.holds Try.pinned (OpenSpec.ofChange chanceCountsWrong)

/-- 'artesianlaw13.SolitonNear': WHATEVER THE INPUT: true; the input reads as it did. -/
def solitonNearSpec : ChangeSpec := { name := "solitonNear", fn := fun _ => fun
  | [d1, d2] => { results := [.lit (.bool true)], args := [d1, d2] }
  | _ => none }
def solitonNearRow : OpenClaim := { program := "ytlkoenpdmlbhlaa", sum := "4eb0c1cd7e70e525cea2f3619750b00d2823df6a06899fda3a75db9f94f80e00", func := "artesian/artesianlaw13.SolitonNear", spec := "solitonNear", inPlace := ["math/bits.Add64", "math/bits.Sub64"], unfollowed := true, recurses := true, named := ["math/bits.divideError", "math/bits.overflowError"], apart := false }
def SolitonNearSaid : Prop := solitonNearRow.holds Try.pinned (OpenSpec.ofChange solitonNearSpec)

/-- ITS FALSE NEIGHBOUR: 'it returns false'. Refute it at one input. -/
def solitonNearWrong : ChangeSpec := { name := "solitonNear", fn := fun _ => fun
  | [d1, d2] => { results := [.lit (.bool false)], args := [d1, d2] }
  | _ => none }
def SolitonNearWrongFalsely : Prop := solitonNearRow.holds Try.pinned (OpenSpec.ofChange solitonNearWrong)

/-- 'artesianlaw13.SolitonMean': WHATEVER THE INPUT: true; the input reads as it did. -/
def solitonMeanSpec : ChangeSpec := { name := "solitonMean", fn := fun _ => fun
  | [d1, d2] => { results := [.lit (.bool true)], args := [d1, d2] }
  | _ => none }
def solitonMeanRow : OpenClaim := { program := "ytlkoenpdmlbhlaa", sum := "4eb0c1cd7e70e525cea2f3619750b00d2823df6a06899fda3a75db9f94f80e00", func := "artesian/artesianlaw13.SolitonMean", spec := "solitonMean", inPlace := ["math/bits.Add64", "math/bits.Sub64"], unfollowed := true, recurses := true, named := ["math/bits.divideError", "math/bits.overflowError"], apart := false }
def SolitonMeanSaid : Prop := solitonMeanRow.holds Try.pinned (OpenSpec.ofChange solitonMeanSpec)

/-- ITS FALSE NEIGHBOUR: 'it returns false'. Refute it at one input. -/
def solitonMeanWrong : ChangeSpec := { name := "solitonMean", fn := fun _ => fun
  | [d1, d2] => { results := [.lit (.bool false)], args := [d1, d2] }
  | _ => none }
def SolitonMeanWrongFalsely : Prop := solitonMeanRow.holds Try.pinned (OpenSpec.ofChange solitonMeanWrong)

/-- 'artesianlaw24.ChanceWhole': WHATEVER THE INPUT: true; the input reads as it did. -/
def chanceWholeSpec : ChangeSpec := { name := "chanceWhole", fn := fun _ => fun
  | [d1, d2, d3] => { results := [.lit (.bool true)], args := [d1, d2, d3] }
  | _ => none }
def chanceWholeRow : OpenClaim := { program := "ytlkoenpdmlbhlaa", sum := "4eb0c1cd7e70e525cea2f3619750b00d2823df6a06899fda3a75db9f94f80e00", func := "artesian/artesianlaw24.ChanceWhole", spec := "chanceWhole", inPlace := ["math/bits.Add64", "math/bits.Sub64"], unfollowed := true, recurses := true, named := ["math/bits.divideError", "math/bits.overflowError"], apart := false }
def ChanceWholeSaid : Prop := chanceWholeRow.holds Try.pinned (OpenSpec.ofChange chanceWholeSpec)

/-- ITS FALSE NEIGHBOUR: 'it returns false'. Refute it at one input. -/
def chanceWholeWrong : ChangeSpec := { name := "chanceWhole", fn := fun _ => fun
  | [d1, d2, d3] => { results := [.lit (.bool false)], args := [d1, d2, d3] }
  | _ => none }
def ChanceWholeWrongFalsely : Prop := chanceWholeRow.holds Try.pinned (OpenSpec.ofChange chanceWholeWrong)

/- THE SECOND FORM. 'bulk': how many values and letters a reading holds, each counted each time it is reached (what is shared counts as often as it is met; a slice's spare places count too). A statement '..UptoSaid' is the law's where the arguments, and the package variables that the reading takes, are together of bulk at most 1048576: NARROWER than '..Said'. Prove '..Said' where nothing that the law and all that it calls make is longer than what came in: it says more and counts as full. Else prove '..UptoSaid'. A law counts once. -/
mutual
def uptoBulk {H : Type} : DataW H → Nat
  | .lit (.string bytes) => bytes.length + 1
  | .lit _ => 1
  | .nil => 1
  | .ptr d => uptoBulk d + 1
  | .slice elems spare => uptoBulkAll elems + uptoBulkAll spare + 1
  | .agg parts => uptoBulkAll parts + 1
  | .iface _ d => uptoBulk d + 1
  | .map entries => uptoBulkEntries entries + 1
  | .held _ => 1
def uptoBulkAll {H : Type} : List (DataW H) → Nat
  | [] => 0
  | d :: r => uptoBulk d + uptoBulkAll r
def uptoBulkEntries {H : Type} : List (Lit × DataW H) → Nat
  | [] => 0
  | x :: r => uptoBulkEntry x + uptoBulkEntries r
def uptoBulkEntry {H : Type} : Lit × DataW H → Nat
  | (.string bytes, d) => bytes.length + uptoBulk d + 1
  | (_, d) => uptoBulk d + 1
 end
def uptoSmall : (H : Type) → List (DataW H) → Bool := fun _ ds => decide (uptoBulkAll ds ≤ 1048576)
def OpenSpec.upto (s : _root_.Go.ChangeSpec) : _root_.Go.OpenSpec := { _root_.Go.OpenSpec.ofChange s with cond := some uptoSmall }

/-- 'artesianlaw13.SolitonWhole', WHERE WHAT IT READS IS OF BULK AT MOST 1048576: true; the input reads as it did. -/
def solitonWholeUptoRow : OpenClaim := { program := "ytlkoenpdmlbhlaa", sum := "4eb0c1cd7e70e525cea2f3619750b00d2823df6a06899fda3a75db9f94f80e00", func := "artesian/artesianlaw13.SolitonWhole", spec := "solitonWhole", inPlace := ["math/bits.Add64", "math/bits.Sub64"], unfollowed := true, recurses := true, named := ["math/bits.divideError", "math/bits.overflowError"], apart := false, narrowed := true }
def SolitonWholeUptoSaid : Prop := solitonWholeUptoRow.holds Try.pinned (OpenSpec.upto solitonWholeSpec)

/-- 'artesianlaw13.SolitonKnown', WHERE WHAT IT READS IS OF BULK AT MOST 1048576: true; the input reads as it did. -/
def solitonKnownUptoRow : OpenClaim := { program := "ytlkoenpdmlbhlaa", sum := "4eb0c1cd7e70e525cea2f3619750b00d2823df6a06899fda3a75db9f94f80e00", func := "artesian/artesianlaw13.SolitonKnown", spec := "solitonKnown", inPlace := ["math/bits.Add64", "math/bits.Sub64"], unfollowed := true, recurses := true, named := ["math/bits.divideError", "math/bits.overflowError"], apart := false, narrowed := true }
def SolitonKnownUptoSaid : Prop := solitonKnownUptoRow.holds Try.pinned (OpenSpec.upto solitonKnownSpec)

/-- 'artesianlaw13.SolitonSpike', WHERE WHAT IT READS IS OF BULK AT MOST 1048576: true; the input reads as it did. -/
def solitonSpikeUptoRow : OpenClaim := { program := "ytlkoenpdmlbhlaa", sum := "4eb0c1cd7e70e525cea2f3619750b00d2823df6a06899fda3a75db9f94f80e00", func := "artesian/artesianlaw13.SolitonSpike", spec := "solitonSpike", inPlace := ["math/bits.Add64", "math/bits.Sub64"], unfollowed := true, recurses := true, named := ["math/bits.divideError", "math/bits.overflowError"], apart := false, narrowed := true }
def SolitonSpikeUptoSaid : Prop := solitonSpikeUptoRow.holds Try.pinned (OpenSpec.upto solitonSpikeSpec)

/-- 'artesianlaw24.ChanceKnown', WHERE WHAT IT READS IS OF BULK AT MOST 1048576: true; the input reads as it did. -/
def chanceKnownUptoRow : OpenClaim := { program := "ytlkoenpdmlbhlaa", sum := "4eb0c1cd7e70e525cea2f3619750b00d2823df6a06899fda3a75db9f94f80e00", func := "artesian/artesianlaw24.ChanceKnown", spec := "chanceKnown", inPlace := ["math/bits.Add64", "math/bits.Sub64"], unfollowed := true, recurses := true, named := ["math/bits.divideError", "math/bits.overflowError"], apart := false, narrowed := true }
def ChanceKnownUptoSaid : Prop := chanceKnownUptoRow.holds Try.pinned (OpenSpec.upto chanceKnownSpec)

/-- 'artesianlaw24.ChanceCounts', WHERE WHAT IT READS IS OF BULK AT MOST 1048576: true; the input reads as it did. -/
def chanceCountsUptoRow : OpenClaim := { program := "ytlkoenpdmlbhlaa", sum := "4eb0c1cd7e70e525cea2f3619750b00d2823df6a06899fda3a75db9f94f80e00", func := "artesian/artesianlaw24.ChanceCounts", spec := "chanceCounts", inPlace := ["math/bits.Add64", "math/bits.Sub64"], unfollowed := true, recurses := true, named := ["math/bits.divideError", "math/bits.overflowError"], apart := false, narrowed := true }
def ChanceCountsUptoSaid : Prop := chanceCountsUptoRow.holds Try.pinned (OpenSpec.upto chanceCountsSpec)

/-- 'artesianlaw13.SolitonNear', WHERE WHAT IT READS IS OF BULK AT MOST 1048576: true; the input reads as it did. -/
def solitonNearUptoRow : OpenClaim := { program := "ytlkoenpdmlbhlaa", sum := "4eb0c1cd7e70e525cea2f3619750b00d2823df6a06899fda3a75db9f94f80e00", func := "artesian/artesianlaw13.SolitonNear", spec := "solitonNear", inPlace := ["math/bits.Add64", "math/bits.Sub64"], unfollowed := true, recurses := true, named := ["math/bits.divideError", "math/bits.overflowError"], apart := false, narrowed := true }
def SolitonNearUptoSaid : Prop := solitonNearUptoRow.holds Try.pinned (OpenSpec.upto solitonNearSpec)

/-- 'artesianlaw13.SolitonMean', WHERE WHAT IT READS IS OF BULK AT MOST 1048576: true; the input reads as it did. -/
def solitonMeanUptoRow : OpenClaim := { program := "ytlkoenpdmlbhlaa", sum := "4eb0c1cd7e70e525cea2f3619750b00d2823df6a06899fda3a75db9f94f80e00", func := "artesian/artesianlaw13.SolitonMean", spec := "solitonMean", inPlace := ["math/bits.Add64", "math/bits.Sub64"], unfollowed := true, recurses := true, named := ["math/bits.divideError", "math/bits.overflowError"], apart := false, narrowed := true }
def SolitonMeanUptoSaid : Prop := solitonMeanUptoRow.holds Try.pinned (OpenSpec.upto solitonMeanSpec)

/-- 'artesianlaw24.ChanceWhole', WHERE WHAT IT READS IS OF BULK AT MOST 1048576: true; the input reads as it did. -/
def chanceWholeUptoRow : OpenClaim := { program := "ytlkoenpdmlbhlaa", sum := "4eb0c1cd7e70e525cea2f3619750b00d2823df6a06899fda3a75db9f94f80e00", func := "artesian/artesianlaw24.ChanceWhole", spec := "chanceWhole", inPlace := ["math/bits.Add64", "math/bits.Sub64"], unfollowed := true, recurses := true, named := ["math/bits.divideError", "math/bits.overflowError"], apart := false, narrowed := true }
def ChanceWholeUptoSaid : Prop := chanceWholeUptoRow.holds Try.pinned (OpenSpec.upto chanceWholeSpec)

end Rows
end Go.Proofs.Ytlkoenpdmlbhlaa
