/-
  No cell of these rows narrows 'for every input' (looked for: loops, veiled, ifaces, maps, wideKeys, modest, calm, conditions, laid).
  DERIVED. THE GIVEN ROWS OF THIS SEAT. 6 by the template 'for every input the law returns true; each argument reads behind the call as it read before'; 0 by the template 'total and deterministic' (their statements: YtlnijohobnjlfaaTotals.lean).
  GIVEN WITH THE SEED: the statements are not yours to turn. If you find one false, say at which input.
  Laid BY PROGRAM, IN A SANDBOX (cutbox-rows.mjs): the forced cells as the released guide's own fill.sh prints them over the translation 25dca690dcef5b7b… (all of the seat's roots in one cut). By AI agents, Wed Nov 11 2026. No macro, syntax, notation, axiom, sorry.
-/
import Derived.Test.YtlnijohobnjlfaaChecked
import GoSem.Claim
import GoSem.ClaimJoined
import GoSem.ClaimMapViews
import Derived.JoinedTies
import Derived.KernelRfl
namespace Go.Proofs.Ytlnijohobnjlfaa
/- THE CELL 'sum', in the pinned program and in every row, IS THE sha256 OF THE DUMP (.gsa) THAT YtlnijohobnjlfaaProg.lean LOADS. Nothing in Lean hashes anything: it is a label: what it is worth is what the hold of that sum in a sandbox is worth. -/
noncomputable def Try.pinned : Pinned := { name := "ytlnijohobnjlfaa", sum := "25dca690dcef5b7b37857e2c4a28d0042e9913e73ec8b6b9a385af71317c69b2", checked := Try.checked }
namespace Rows
def none {H : Type} : Left H := { results := [], args := [] }

/-- 'artesianlaw01.LimbsReckons': WHATEVER THE INPUT: true; the input reads as it did. -/
def limbsReckonsSpec : ChangeSpec := { name := "limbsReckons", fn := fun _ => fun
  | [d1, d2] => { results := [.lit (.bool true)], args := [d1, d2] }
  | _ => none }
def limbsReckonsRow : OpenClaim := { program := "ytlnijohobnjlfaa", sum := "25dca690dcef5b7b37857e2c4a28d0042e9913e73ec8b6b9a385af71317c69b2", func := "artesian/artesianlaw01.LimbsReckons", spec := "limbsReckons", inPlace := ["math/bits.Sub64", "math/bits.Add64"], unfollowed := true, recurses := true, apart := false }
def LimbsReckonsSaid : Prop := limbsReckonsRow.holds Try.pinned (OpenSpec.ofChange limbsReckonsSpec)

/-- ITS FALSE NEIGHBOUR: 'it returns false'. Refute it at one input. -/
def limbsReckonsWrong : ChangeSpec := { name := "limbsReckons", fn := fun _ => fun
  | [d1, d2] => { results := [.lit (.bool false)], args := [d1, d2] }
  | _ => none }
def LimbsReckonsWrongFalsely : Prop := limbsReckonsRow.holds Try.pinned (OpenSpec.ofChange limbsReckonsWrong)

/-- 'artesianlaw01.LimbsOrder': WHATEVER THE INPUT: true; the input reads as it did. -/
def limbsOrderSpec : ChangeSpec := { name := "limbsOrder", fn := fun _ => fun
  | [d1, d2, d3] => { results := [.lit (.bool true)], args := [d1, d2, d3] }
  | _ => none }
def limbsOrderRow : OpenClaim := { program := "ytlnijohobnjlfaa", sum := "25dca690dcef5b7b37857e2c4a28d0042e9913e73ec8b6b9a385af71317c69b2", func := "artesian/artesianlaw01.LimbsOrder", spec := "limbsOrder", inPlace := ["math/bits.Sub64", "math/bits.Add64"], unfollowed := true, recurses := true, apart := false }
def LimbsOrderSaid : Prop := limbsOrderRow.holds Try.pinned (OpenSpec.ofChange limbsOrderSpec)

/-- ITS FALSE NEIGHBOUR: 'it returns false'. Refute it at one input. -/
def limbsOrderWrong : ChangeSpec := { name := "limbsOrder", fn := fun _ => fun
  | [d1, d2, d3] => { results := [.lit (.bool false)], args := [d1, d2, d3] }
  | _ => none }
def LimbsOrderWrongFalsely : Prop := limbsOrderRow.holds Try.pinned (OpenSpec.ofChange limbsOrderWrong)

/-- 'artesianlaw01.LimbsBack': WHATEVER THE INPUT: true; the input reads as it did. -/
def limbsBackSpec : ChangeSpec := { name := "limbsBack", fn := fun _ => fun
  | [d1, d2, d3] => { results := [.lit (.bool true)], args := [d1, d2, d3] }
  | _ => none }
def limbsBackRow : OpenClaim := { program := "ytlnijohobnjlfaa", sum := "25dca690dcef5b7b37857e2c4a28d0042e9913e73ec8b6b9a385af71317c69b2", func := "artesian/artesianlaw01.LimbsBack", spec := "limbsBack", inPlace := ["math/bits.Sub64", "math/bits.Add64"], unfollowed := true, recurses := true, apart := false }
def LimbsBackSaid : Prop := limbsBackRow.holds Try.pinned (OpenSpec.ofChange limbsBackSpec)

/-- ITS FALSE NEIGHBOUR: 'it returns false'. Refute it at one input. -/
def limbsBackWrong : ChangeSpec := { name := "limbsBack", fn := fun _ => fun
  | [d1, d2, d3] => { results := [.lit (.bool false)], args := [d1, d2, d3] }
  | _ => none }
def LimbsBackWrongFalsely : Prop := limbsBackRow.holds Try.pinned (OpenSpec.ofChange limbsBackWrong)

/-- 'artesianlaw01.LimbsKnown': WHATEVER THE INPUT: true; the input reads as it did. -/
def limbsKnownSpec : ChangeSpec := { name := "limbsKnown", fn := fun _ => fun
  | [] => { results := [.lit (.bool true)], args := [] }
  | _ => none }
def limbsKnownRow : OpenClaim := { program := "ytlnijohobnjlfaa", sum := "25dca690dcef5b7b37857e2c4a28d0042e9913e73ec8b6b9a385af71317c69b2", func := "artesian/artesianlaw01.LimbsKnown", spec := "limbsKnown", inPlace := ["math/bits.Sub64", "math/bits.Add64"], unfollowed := true, recurses := true, apart := false }
def LimbsKnownSaid : Prop := limbsKnownRow.holds Try.pinned (OpenSpec.ofChange limbsKnownSpec)

/-- ITS FALSE NEIGHBOUR: 'it returns false'. Refute it at one input. -/
def limbsKnownWrong : ChangeSpec := { name := "limbsKnown", fn := fun _ => fun
  | [] => { results := [.lit (.bool false)], args := [] }
  | _ => none }
def LimbsKnownWrongFalsely : Prop := limbsKnownRow.holds Try.pinned (OpenSpec.ofChange limbsKnownWrong)

/-- 'artesianlaw01.LimbsSums': WHATEVER THE INPUT: true; the input reads as it did. -/
def limbsSumsSpec : ChangeSpec := { name := "limbsSums", fn := fun _ => fun
  | [d1, d2, d3] => { results := [.lit (.bool true)], args := [d1, d2, d3] }
  | _ => none }
def limbsSumsRow : OpenClaim := { program := "ytlnijohobnjlfaa", sum := "25dca690dcef5b7b37857e2c4a28d0042e9913e73ec8b6b9a385af71317c69b2", func := "artesian/artesianlaw01.LimbsSums", spec := "limbsSums", inPlace := ["math/bits.Sub64", "math/bits.Add64"], unfollowed := true, recurses := true, apart := false }
def LimbsSumsSaid : Prop := limbsSumsRow.holds Try.pinned (OpenSpec.ofChange limbsSumsSpec)

/-- ITS FALSE NEIGHBOUR: 'it returns false'. Refute it at one input. -/
def limbsSumsWrong : ChangeSpec := { name := "limbsSums", fn := fun _ => fun
  | [d1, d2, d3] => { results := [.lit (.bool false)], args := [d1, d2, d3] }
  | _ => none }
def LimbsSumsWrongFalsely : Prop := limbsSumsRow.holds Try.pinned (OpenSpec.ofChange limbsSumsWrong)

/-- 'artesianlaw01.LimbsMoves': WHATEVER THE INPUT: true; the input reads as it did. -/
def limbsMovesSpec : ChangeSpec := { name := "limbsMoves", fn := fun _ => fun
  | [d1, d2, d3] => { results := [.lit (.bool true)], args := [d1, d2, d3] }
  | _ => none }
def limbsMovesRow : OpenClaim := { program := "ytlnijohobnjlfaa", sum := "25dca690dcef5b7b37857e2c4a28d0042e9913e73ec8b6b9a385af71317c69b2", func := "artesian/artesianlaw01.LimbsMoves", spec := "limbsMoves", inPlace := ["math/bits.Sub64", "math/bits.Add64"], unfollowed := true, recurses := true, apart := false }
def LimbsMovesSaid : Prop := limbsMovesRow.holds Try.pinned (OpenSpec.ofChange limbsMovesSpec)

/-- ITS FALSE NEIGHBOUR: 'it returns false'. Refute it at one input. -/
def limbsMovesWrong : ChangeSpec := { name := "limbsMoves", fn := fun _ => fun
  | [d1, d2, d3] => { results := [.lit (.bool false)], args := [d1, d2, d3] }
  | _ => none }
def LimbsMovesWrongFalsely : Prop := limbsMovesRow.holds Try.pinned (OpenSpec.ofChange limbsMovesWrong)

/- THE SECOND FORM. 'bulk': how many values and letters a reading holds, each counted each time it is reached (what is shared counts as often as it is met; a slice's spare places count too). A statement '..UptoSaid' is the law's where the arguments, and the package variables that the reading takes, are together of bulk at most 1048576: NARROWER than '..Said'. Prove '..Said' where nothing that the law and all that it calls make is longer than what came in: it says more and counts as full. Else prove '..UptoSaid'. A law counts once. -/
mutual
def uptoBulk {H : Type} : DataW H → Nat
  | .lit (.string bytes) => bytes.length + 1
  | .lit _ => 1
  | .nil => 1
  | .ptr d => uptoBulk d + 1
  | .slice elems spare => uptoBulkAll elems + uptoBulkAll spare + 1
  | .agg parts => uptoBulkAll parts + 1
  | .iface _ d => uptoBulk d + 1
  | .map entries => uptoBulkEntries entries + 1
  | .held _ => 1
def uptoBulkAll {H : Type} : List (DataW H) → Nat
  | [] => 0
  | d :: r => uptoBulk d + uptoBulkAll r
def uptoBulkEntries {H : Type} : List (Lit × DataW H) → Nat
  | [] => 0
  | x :: r => uptoBulkEntry x + uptoBulkEntries r
def uptoBulkEntry {H : Type} : Lit × DataW H → Nat
  | (.string bytes, d) => bytes.length + uptoBulk d + 1
  | (_, d) => uptoBulk d + 1
 end
def uptoSmall : (H : Type) → List (DataW H) → Bool := fun _ ds => decide (uptoBulkAll ds ≤ 1048576)
def OpenSpec.upto (s : _root_.Go.ChangeSpec) : _root_.Go.OpenSpec := { _root_.Go.OpenSpec.ofChange s with cond := some uptoSmall }

/-- 'artesianlaw01.LimbsReckons', WHERE WHAT IT READS IS OF BULK AT MOST 1048576: true; the input reads as it did. -/
def limbsReckonsUptoRow : OpenClaim := { program := "ytlnijohobnjlfaa", sum := "25dca690dcef5b7b37857e2c4a28d0042e9913e73ec8b6b9a385af71317c69b2", func := "artesian/artesianlaw01.LimbsReckons", spec := "limbsReckons", inPlace := ["math/bits.Sub64", "math/bits.Add64"], unfollowed := true, recurses := true, apart := false, narrowed := true }
def LimbsReckonsUptoSaid : Prop := limbsReckonsUptoRow.holds Try.pinned (OpenSpec.upto limbsReckonsSpec)

/-- 'artesianlaw01.LimbsOrder', WHERE WHAT IT READS IS OF BULK AT MOST 1048576: true; the input reads as it did. -/
def limbsOrderUptoRow : OpenClaim := { program := "ytlnijohobnjlfaa", sum := "25dca690dcef5b7b37857e2c4a28d0042e9913e73ec8b6b9a385af71317c69b2", func := "artesian/artesianlaw01.LimbsOrder", spec := "limbsOrder", inPlace := ["math/bits.Sub64", "math/bits.Add64"], unfollowed := true, recurses := true, apart := false, narrowed := true }
def LimbsOrderUptoSaid : Prop := limbsOrderUptoRow.holds Try.pinned (OpenSpec.upto limbsOrderSpec)

/-- 'artesianlaw01.LimbsBack', WHERE WHAT IT READS IS OF BULK AT MOST 1048576: true; the input reads as it did. -/
def limbsBackUptoRow : OpenClaim := { program := "ytlnijohobnjlfaa", sum := "25dca690dcef5b7b37857e2c4a28d0042e9913e73ec8b6b9a385af71317c69b2", func := "artesian/artesianlaw01.LimbsBack", spec := "limbsBack", inPlace := ["math/bits.Sub64", "math/bits.Add64"], unfollowed := true, recurses := true, apart := false, narrowed := true }
def LimbsBackUptoSaid : Prop := limbsBackUptoRow.holds Try.pinned (OpenSpec.upto limbsBackSpec)

/-- 'artesianlaw01.LimbsKnown', WHERE WHAT IT READS IS OF BULK AT MOST 1048576: true; the input reads as it did. -/
def limbsKnownUptoRow : OpenClaim := { program := "ytlnijohobnjlfaa", sum := "25dca690dcef5b7b37857e2c4a28d0042e9913e73ec8b6b9a385af71317c69b2", func := "artesian/artesianlaw01.LimbsKnown", spec := "limbsKnown", inPlace := ["math/bits.Sub64", "math/bits.Add64"], unfollowed := true, recurses := true, apart := false, narrowed := true }
def LimbsKnownUptoSaid : Prop := limbsKnownUptoRow.holds Try.pinned (OpenSpec.upto limbsKnownSpec)

/-- 'artesianlaw01.LimbsSums', WHERE WHAT IT READS IS OF BULK AT MOST 1048576: true; the input reads as it did. -/
def limbsSumsUptoRow : OpenClaim := { program := "ytlnijohobnjlfaa", sum := "25dca690dcef5b7b37857e2c4a28d0042e9913e73ec8b6b9a385af71317c69b2", func := "artesian/artesianlaw01.LimbsSums", spec := "limbsSums", inPlace := ["math/bits.Sub64", "math/bits.Add64"], unfollowed := true, recurses := true, apart := false, narrowed := true }
def LimbsSumsUptoSaid : Prop := limbsSumsUptoRow.holds Try.pinned (OpenSpec.upto limbsSumsSpec)

/-- 'artesianlaw01.LimbsMoves', WHERE WHAT IT READS IS OF BULK AT MOST 1048576: true; the input reads as it did. -/
def limbsMovesUptoRow : OpenClaim := { program := "ytlnijohobnjlfaa", sum := "25dca690dcef5b7b37857e2c4a28d0042e9913e73ec8b6b9a385af71317c69b2", func := "artesian/artesianlaw01.LimbsMoves", spec := "limbsMoves", inPlace := ["math/bits.Sub64", "math/bits.Add64"], unfollowed := true, recurses := true, apart := false, narrowed := true }
def LimbsMovesUptoSaid : Prop := limbsMovesUptoRow.holds Try.pinned (OpenSpec.upto limbsMovesSpec)

end Rows
end Go.Proofs.Ytlnijohobnjlfaa
