/-
  No cell of these rows narrows 'for every input' (looked for: loops, veiled, ifaces, maps, wideKeys, modest, calm, conditions, laid).
  DERIVED. THE GIVEN ROWS OF THIS SEAT. 3 by the template 'for every input the law returns true; each argument reads behind the call as it read before'; 0 by the template 'total and deterministic' (their statements: YtlkoenpdmlbhlaaGreatTotals.lean).
  GIVEN WITH THE SEED: the statements are not yours to turn. If you find one false, say at which input.
  Laid BY PROGRAM, IN A SANDBOX (cutbox-rows.mjs): the forced cells as the released guide's own fill.sh prints them over the translation 65cf26ff016ce570… (all of the seat's roots in one cut). By AI agents, Wed Nov 11 2026. No macro, syntax, notation, axiom, sorry.
-/
import Derived.Test.YtlkoenpdmlbhlaaGreatChecked
import GoSem.Claim
import GoSem.ClaimJoined
import GoSem.ClaimMapViews
import Derived.JoinedTies
import Derived.KernelRfl
namespace Go.Proofs.YtlkoenpdmlbhlaaGreat
/- THE CELL 'sum', in the pinned program and in every row, IS THE sha256 OF THE DUMP (.gsa) THAT YtlkoenpdmlbhlaaGreatProg.lean LOADS. Nothing in Lean hashes anything: it is a label: what it is worth is what the hold of that sum in a sandbox is worth. -/
noncomputable def Tryz.pinned : Pinned := { name := "ytlkoenpdmlbhlaagreat", sum := "65cf26ff016ce570a6def3cbe5b571610726775bc8642ade0a54305bd2a749e7", checked := Tryz.checked }
namespace Rows
def none {H : Type} : Left H := { results := [], args := [] }

/-- 'artesianlaw13.SolitonMakes': WHATEVER THE INPUT: true; the input reads as it did. -/
def solitonMakesSpec : ChangeSpec := { name := "solitonMakes", fn := fun _ => fun
  | [d1, d2, d3, d4] => { results := [.lit (.bool true)], args := [d1, d2, d3, d4] }
  | _ => none }
def solitonMakesRow : OpenClaim := { program := "ytlkoenpdmlbhlaagreat", sum := "65cf26ff016ce570a6def3cbe5b571610726775bc8642ade0a54305bd2a749e7", func := "artesian/artesianlaw13.SolitonMakes", spec := "solitonMakes", inPlace := ["math/bits.Add64", "math/bits.Sub64"], unfollowed := true, recurses := true, named := ["math/bits.divideError", "math/bits.overflowError"], apart := false }
def SolitonMakesSaid : Prop := solitonMakesRow.holds Tryz.pinned (OpenSpec.ofChange solitonMakesSpec)

/-- ITS FALSE NEIGHBOUR: 'it returns false'. Refute it at one input. -/
def solitonMakesWrong : ChangeSpec := { name := "solitonMakes", fn := fun _ => fun
  | [d1, d2, d3, d4] => { results := [.lit (.bool false)], args := [d1, d2, d3, d4] }
  | _ => none }
def SolitonMakesWrongFalsely : Prop := solitonMakesRow.holds Tryz.pinned (OpenSpec.ofChange solitonMakesWrong)

/-- 'artesianlaw24.ChanceClouds': WHATEVER THE INPUT: true; the input reads as it did. -/
def chanceCloudsSpec : ChangeSpec := { name := "chanceClouds", fn := fun _ => fun
  | [d1, d2, d3] => { results := [.lit (.bool true)], args := [d1, d2, d3] }
  | _ => none }
def chanceCloudsRow : OpenClaim := { program := "ytlkoenpdmlbhlaagreat", sum := "65cf26ff016ce570a6def3cbe5b571610726775bc8642ade0a54305bd2a749e7", func := "artesian/artesianlaw24.ChanceClouds", spec := "chanceClouds", inPlace := ["math/bits.Add64", "math/bits.Sub64"], unfollowed := true, recurses := true, named := ["math/bits.divideError", "math/bits.overflowError"], apart := false }
def ChanceCloudsSaid : Prop := chanceCloudsRow.holds Tryz.pinned (OpenSpec.ofChange chanceCloudsSpec)

/-- ITS FALSE NEIGHBOUR: 'it returns false'. Refute it at one input. -/
def chanceCloudsWrong : ChangeSpec := { name := "chanceClouds", fn := fun _ => fun
  | [d1, d2, d3] => { results := [.lit (.bool false)], args := [d1, d2, d3] }
  | _ => none }
def ChanceCloudsWrongFalsely : Prop := chanceCloudsRow.holds Tryz.pinned (OpenSpec.ofChange chanceCloudsWrong)

/-- 'artesianlaw24.ChanceMeets': WHATEVER THE INPUT: true; the input reads as it did. -/
def chanceMeetsSpec : ChangeSpec := { name := "chanceMeets", fn := fun _ => fun
  | [d1, d2, d3, d4] => { results := [.lit (.bool true)], args := [d1, d2, d3, d4] }
  | _ => none }
def chanceMeetsRow : OpenClaim := { program := "ytlkoenpdmlbhlaagreat", sum := "65cf26ff016ce570a6def3cbe5b571610726775bc8642ade0a54305bd2a749e7", func := "artesian/artesianlaw24.ChanceMeets", spec := "chanceMeets", inPlace := ["math/bits.Add64", "math/bits.Sub64"], unfollowed := true, recurses := true, named := ["math/bits.divideError", "math/bits.overflowError"], apart := false }
def ChanceMeetsSaid : Prop := chanceMeetsRow.holds Tryz.pinned (OpenSpec.ofChange chanceMeetsSpec)

/-- ITS FALSE NEIGHBOUR: 'it returns false'. Refute it at one input. -/
def chanceMeetsWrong : ChangeSpec := { name := "chanceMeets", fn := fun _ => fun
  | [d1, d2, d3, d4] => { results := [.lit (.bool false)], args := [d1, d2, d3, d4] }
  | _ => none }
def ChanceMeetsWrongFalsely : Prop := chanceMeetsRow.holds Tryz.pinned (OpenSpec.ofChange chanceMeetsWrong)

/- THE SECOND FORM. 'bulk': how many values and letters a reading holds, each counted each time it is reached (what is shared counts as often as it is met; a slice's spare places count too). A statement '..UptoSaid' is the law's where the arguments, and the package variables that the reading takes, are together of bulk at most 1048576: NARROWER than '..Said'. Prove '..Said' where nothing that the law and all that it calls make is longer than what came in: it says more and counts as full. Else prove '..UptoSaid'. A law counts once. -/
mutual
def uptoBulk {H : Type} : DataW H → Nat
  | .lit (.string bytes) => bytes.length + 1
  | .lit _ => 1
  | .nil => 1
  | .ptr d => uptoBulk d + 1
  | .slice elems spare => uptoBulkAll elems + uptoBulkAll spare + 1
  | .agg parts => uptoBulkAll parts + 1
  | .iface _ d => uptoBulk d + 1
  | .map entries => uptoBulkEntries entries + 1
  | .held _ => 1
def uptoBulkAll {H : Type} : List (DataW H) → Nat
  | [] => 0
  | d :: r => uptoBulk d + uptoBulkAll r
def uptoBulkEntries {H : Type} : List (Lit × DataW H) → Nat
  | [] => 0
  | x :: r => uptoBulkEntry x + uptoBulkEntries r
def uptoBulkEntry {H : Type} : Lit × DataW H → Nat
  | (.string bytes, d) => bytes.length + uptoBulk d + 1
  | (_, d) => uptoBulk d + 1
 end
def uptoSmall : (H : Type) → List (DataW H) → Bool := fun _ ds => decide (uptoBulkAll ds ≤ 1048576)
def OpenSpec.upto (s : _root_.Go.ChangeSpec) : _root_.Go.OpenSpec := { _root_.Go.OpenSpec.ofChange s with cond := some uptoSmall }

/-- 'artesianlaw13.SolitonMakes', WHERE WHAT IT READS IS OF BULK AT MOST 1048576: true; the input reads as it did. -/
def solitonMakesUptoRow : OpenClaim := { program := "ytlkoenpdmlbhlaagreat", sum := "65cf26ff016ce570a6def3cbe5b571610726775bc8642ade0a54305bd2a749e7", func := "artesian/artesianlaw13.SolitonMakes", spec := "solitonMakes", inPlace := ["math/bits.Add64", "math/bits.Sub64"], unfollowed := true, recurses := true, named := ["math/bits.divideError", "math/bits.overflowError"], apart := false, narrowed := true }
def SolitonMakesUptoSaid : Prop := solitonMakesUptoRow.holds Tryz.pinned (OpenSpec.upto solitonMakesSpec)

/-- 'artesianlaw24.ChanceClouds', WHERE WHAT IT READS IS OF BULK AT MOST 1048576: true; the input reads as it did. -/
def chanceCloudsUptoRow : OpenClaim := { program := "ytlkoenpdmlbhlaagreat", sum := "65cf26ff016ce570a6def3cbe5b571610726775bc8642ade0a54305bd2a749e7", func := "artesian/artesianlaw24.ChanceClouds", spec := "chanceClouds", inPlace := ["math/bits.Add64", "math/bits.Sub64"], unfollowed := true, recurses := true, named := ["math/bits.divideError", "math/bits.overflowError"], apart := false, narrowed := true }
def ChanceCloudsUptoSaid : Prop := chanceCloudsUptoRow.holds Tryz.pinned (OpenSpec.upto chanceCloudsSpec)

/-- 'artesianlaw24.ChanceMeets', WHERE WHAT IT READS IS OF BULK AT MOST 1048576: true; the input reads as it did. -/
def chanceMeetsUptoRow : OpenClaim := { program := "ytlkoenpdmlbhlaagreat", sum := "65cf26ff016ce570a6def3cbe5b571610726775bc8642ade0a54305bd2a749e7", func := "artesian/artesianlaw24.ChanceMeets", spec := "chanceMeets", inPlace := ["math/bits.Add64", "math/bits.Sub64"], unfollowed := true, recurses := true, named := ["math/bits.divideError", "math/bits.overflowError"], apart := false, narrowed := true }
def ChanceMeetsUptoSaid : Prop := chanceMeetsUptoRow.holds Tryz.pinned (OpenSpec.upto chanceMeetsSpec)

end Rows
end Go.Proofs.YtlkoenpdmlbhlaaGreat
