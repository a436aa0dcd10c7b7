/-
  No cell of these rows narrows 'for every input' (looked for: loops, veiled, ifaces, maps, wideKeys, modest, calm, conditions, laid).
  DERIVED. THE GIVEN ROWS OF THIS SEAT. 12 by the template 'for every input the law returns true; each argument reads behind the call as it read before'; 0 by the template 'total and deterministic' (their statements: YtdjhgalaianifaaTotals.lean).
  GIVEN WITH THE SEED: the statements are not yours to turn. If you find one false, say at which input.
  Laid BY PROGRAM, IN A SANDBOX (cutbox-rows.mjs): the forced cells as the released guide's own fill.sh prints them over the translation 1ed3e80b40897dc8… (all of the seat's roots in one cut). By AI agents, Wed Nov 11 2026. No macro, syntax, notation, axiom, sorry.
-/
import Derived.Test.YtdjhgalaianifaaChecked
import GoSem.Claim
import GoSem.ClaimJoined
import GoSem.ClaimMapViews
import Derived.JoinedTies
import Derived.KernelRfl
namespace Go.Proofs.Ytdjhgalaianifaa
/- THE CELL 'sum', in the pinned program and in every row, IS THE sha256 OF THE DUMP (.gsa) THAT YtdjhgalaianifaaProg.lean LOADS. Nothing in Lean hashes anything: it is a label: what it is worth is what the hold of that sum in a sandbox is worth. -/
noncomputable def Try.pinned : Pinned := { name := "ytdjhgalaianifaa", sum := "1ed3e80b40897dc85a71d92ae29b02edb3316a51b353338f0cd8fd9c160d881e", checked := Try.checked }
namespace Rows
def none {H : Type} : Left H := { results := [], args := [] }

/-- 'artesianlaw03.QuotCommon': WHATEVER THE INPUT: true; the input reads as it did. -/
def quotCommonSpec : ChangeSpec := { name := "quotCommon", fn := fun _ => fun
  | [d1, d2] => { results := [.lit (.bool true)], args := [d1, d2] }
  | _ => none }
def quotCommonRow : OpenClaim := { program := "ytdjhgalaianifaa", sum := "1ed3e80b40897dc85a71d92ae29b02edb3316a51b353338f0cd8fd9c160d881e", func := "artesian/artesianlaw03.QuotCommon", spec := "quotCommon", inPlace := ["math/bits.Add64", "math/bits.Sub64"], unfollowed := true, recurses := true, named := ["math/bits.divideError", "math/bits.overflowError"], apart := false }
def QuotCommonSaid : Prop := quotCommonRow.holds Try.pinned (OpenSpec.ofChange quotCommonSpec)

/-- ITS FALSE NEIGHBOUR: 'it returns false'. Refute it at one input. -/
def quotCommonWrong : ChangeSpec := { name := "quotCommon", fn := fun _ => fun
  | [d1, d2] => { results := [.lit (.bool false)], args := [d1, d2] }
  | _ => none }
def QuotCommonWrongFalsely : Prop := quotCommonRow.holds Try.pinned (OpenSpec.ofChange quotCommonWrong)

/-- 'artesianlaw07.BinomCounts': WHATEVER THE INPUT: true; the input reads as it did. -/
def binomCountsSpec : ChangeSpec := { name := "binomCounts", fn := fun _ => fun
  | [d] => { results := [.lit (.bool true)], args := [d] }
  | _ => none }
def binomCountsRow : OpenClaim := { program := "ytdjhgalaianifaa", sum := "1ed3e80b40897dc85a71d92ae29b02edb3316a51b353338f0cd8fd9c160d881e", func := "artesian/artesianlaw07.BinomCounts", spec := "binomCounts", inPlace := ["math/bits.Add64", "math/bits.Sub64"], unfollowed := true, recurses := true, named := ["math/bits.divideError", "math/bits.overflowError"], apart := false }
def BinomCountsSaid : Prop := binomCountsRow.holds Try.pinned (OpenSpec.ofChange binomCountsSpec)

/-- ITS FALSE NEIGHBOUR: 'it returns false'. Refute it at one input. -/
def binomCountsWrong : ChangeSpec := { name := "binomCounts", fn := fun _ => fun
  | [d] => { results := [.lit (.bool false)], args := [d] }
  | _ => none }
def BinomCountsWrongFalsely : Prop := binomCountsRow.holds Try.pinned (OpenSpec.ofChange binomCountsWrong)

/-- 'artesianlaw03.QuotDivides': WHATEVER THE INPUT: true; the input reads as it did. -/
def quotDividesSpec : ChangeSpec := { name := "quotDivides", fn := fun _ => fun
  | [d1, d2, d3] => { results := [.lit (.bool true)], args := [d1, d2, d3] }
  | _ => none }
def quotDividesRow : OpenClaim := { program := "ytdjhgalaianifaa", sum := "1ed3e80b40897dc85a71d92ae29b02edb3316a51b353338f0cd8fd9c160d881e", func := "artesian/artesianlaw03.QuotDivides", spec := "quotDivides", inPlace := ["math/bits.Add64", "math/bits.Sub64"], unfollowed := true, recurses := true, named := ["math/bits.divideError", "math/bits.overflowError"], apart := false }
def QuotDividesSaid : Prop := quotDividesRow.holds Try.pinned (OpenSpec.ofChange quotDividesSpec)

/-- ITS FALSE NEIGHBOUR: 'it returns false'. Refute it at one input. -/
def quotDividesWrong : ChangeSpec := { name := "quotDivides", fn := fun _ => fun
  | [d1, d2, d3] => { results := [.lit (.bool false)], args := [d1, d2, d3] }
  | _ => none }
def QuotDividesWrongFalsely : Prop := quotDividesRow.holds Try.pinned (OpenSpec.ofChange quotDividesWrong)

/-- 'artesianlaw03.QuotKnown': WHATEVER THE INPUT: true; the input reads as it did. -/
def quotKnownSpec : ChangeSpec := { name := "quotKnown", fn := fun _ => fun
  | [] => { results := [.lit (.bool true)], args := [] }
  | _ => none }
def quotKnownRow : OpenClaim := { program := "ytdjhgalaianifaa", sum := "1ed3e80b40897dc85a71d92ae29b02edb3316a51b353338f0cd8fd9c160d881e", func := "artesian/artesianlaw03.QuotKnown", spec := "quotKnown", inPlace := ["math/bits.Add64", "math/bits.Sub64"], unfollowed := true, recurses := true, named := ["math/bits.divideError", "math/bits.overflowError"], apart := false }
def QuotKnownSaid : Prop := quotKnownRow.holds Try.pinned (OpenSpec.ofChange quotKnownSpec)

/-- ITS FALSE NEIGHBOUR: 'it returns false'. Refute it at one input. -/
def quotKnownWrong : ChangeSpec := { name := "quotKnown", fn := fun _ => fun
  | [] => { results := [.lit (.bool false)], args := [] }
  | _ => none }
def QuotKnownWrongFalsely : Prop := quotKnownRow.holds Try.pinned (OpenSpec.ofChange quotKnownWrong)

/-- 'artesianlaw03.QuotBack': WHATEVER THE INPUT: true; the input reads as it did. -/
def quotBackSpec : ChangeSpec := { name := "quotBack", fn := fun _ => fun
  | [d1, d2, d3] => { results := [.lit (.bool true)], args := [d1, d2, d3] }
  | _ => none }
def quotBackRow : OpenClaim := { program := "ytdjhgalaianifaa", sum := "1ed3e80b40897dc85a71d92ae29b02edb3316a51b353338f0cd8fd9c160d881e", func := "artesian/artesianlaw03.QuotBack", spec := "quotBack", inPlace := ["math/bits.Add64", "math/bits.Sub64"], unfollowed := true, recurses := true, named := ["math/bits.divideError", "math/bits.overflowError"], apart := false }
def QuotBackSaid : Prop := quotBackRow.holds Try.pinned (OpenSpec.ofChange quotBackSpec)

/-- ITS FALSE NEIGHBOUR: 'it returns false'. Refute it at one input. -/
def quotBackWrong : ChangeSpec := { name := "quotBack", fn := fun _ => fun
  | [d1, d2, d3] => { results := [.lit (.bool false)], args := [d1, d2, d3] }
  | _ => none }
def QuotBackWrongFalsely : Prop := quotBackRow.holds Try.pinned (OpenSpec.ofChange quotBackWrong)

/-- 'artesianlaw03.QuotWhole': WHATEVER THE INPUT: true; the input reads as it did. -/
def quotWholeSpec : ChangeSpec := { name := "quotWhole", fn := fun _ => fun
  | [d1, d2, d3] => { results := [.lit (.bool true)], args := [d1, d2, d3] }
  | _ => none }
def quotWholeRow : OpenClaim := { program := "ytdjhgalaianifaa", sum := "1ed3e80b40897dc85a71d92ae29b02edb3316a51b353338f0cd8fd9c160d881e", func := "artesian/artesianlaw03.QuotWhole", spec := "quotWhole", inPlace := ["math/bits.Add64", "math/bits.Sub64"], unfollowed := true, recurses := true, named := ["math/bits.divideError", "math/bits.overflowError"], apart := false }
def QuotWholeSaid : Prop := quotWholeRow.holds Try.pinned (OpenSpec.ofChange quotWholeSpec)

/-- ITS FALSE NEIGHBOUR: 'it returns false'. Refute it at one input. -/
def quotWholeWrong : ChangeSpec := { name := "quotWhole", fn := fun _ => fun
  | [d1, d2, d3] => { results := [.lit (.bool false)], args := [d1, d2, d3] }
  | _ => none }
def QuotWholeWrongFalsely : Prop := quotWholeRow.holds Try.pinned (OpenSpec.ofChange quotWholeWrong)

/-- 'artesianlaw03.QuotGreatest': WHATEVER THE INPUT: true; the input reads as it did. -/
def quotGreatestSpec : ChangeSpec := { name := "quotGreatest", fn := fun _ => fun
  | [d1, d2, d3] => { results := [.lit (.bool true)], args := [d1, d2, d3] }
  | _ => none }
def quotGreatestRow : OpenClaim := { program := "ytdjhgalaianifaa", sum := "1ed3e80b40897dc85a71d92ae29b02edb3316a51b353338f0cd8fd9c160d881e", func := "artesian/artesianlaw03.QuotGreatest", spec := "quotGreatest", inPlace := ["math/bits.Add64", "math/bits.Sub64"], unfollowed := true, recurses := true, named := ["math/bits.divideError", "math/bits.overflowError"], apart := false }
def QuotGreatestSaid : Prop := quotGreatestRow.holds Try.pinned (OpenSpec.ofChange quotGreatestSpec)

/-- ITS FALSE NEIGHBOUR: 'it returns false'. Refute it at one input. -/
def quotGreatestWrong : ChangeSpec := { name := "quotGreatest", fn := fun _ => fun
  | [d1, d2, d3] => { results := [.lit (.bool false)], args := [d1, d2, d3] }
  | _ => none }
def QuotGreatestWrongFalsely : Prop := quotGreatestRow.holds Try.pinned (OpenSpec.ofChange quotGreatestWrong)

/-- 'artesianlaw07.BinomTells': WHATEVER THE INPUT: true; the input reads as it did. -/
def binomTellsSpec : ChangeSpec := { name := "binomTells", fn := fun _ => fun
  | [d1, d2] => { results := [.lit (.bool true)], args := [d1, d2] }
  | _ => none }
def binomTellsRow : OpenClaim := { program := "ytdjhgalaianifaa", sum := "1ed3e80b40897dc85a71d92ae29b02edb3316a51b353338f0cd8fd9c160d881e", func := "artesian/artesianlaw07.BinomTells", spec := "binomTells", inPlace := ["math/bits.Add64", "math/bits.Sub64"], unfollowed := true, recurses := true, named := ["math/bits.divideError", "math/bits.overflowError"], apart := false }
def BinomTellsSaid : Prop := binomTellsRow.holds Try.pinned (OpenSpec.ofChange binomTellsSpec)

/-- ITS FALSE NEIGHBOUR: 'it returns false'. Refute it at one input. -/
def binomTellsWrong : ChangeSpec := { name := "binomTells", fn := fun _ => fun
  | [d1, d2] => { results := [.lit (.bool false)], args := [d1, d2] }
  | _ => none }
def BinomTellsWrongFalsely : Prop := binomTellsRow.holds Try.pinned (OpenSpec.ofChange binomTellsWrong)

/-- 'artesianlaw07.BinomKnown': WHATEVER THE INPUT: true; the input reads as it did. -/
def binomKnownSpec : ChangeSpec := { name := "binomKnown", fn := fun _ => fun
  | [] => { results := [.lit (.bool true)], args := [] }
  | _ => none }
def binomKnownRow : OpenClaim := { program := "ytdjhgalaianifaa", sum := "1ed3e80b40897dc85a71d92ae29b02edb3316a51b353338f0cd8fd9c160d881e", func := "artesian/artesianlaw07.BinomKnown", spec := "binomKnown", inPlace := ["math/bits.Add64", "math/bits.Sub64"], unfollowed := true, recurses := true, named := ["math/bits.divideError", "math/bits.overflowError"], apart := false }
def BinomKnownSaid : Prop := binomKnownRow.holds Try.pinned (OpenSpec.ofChange binomKnownSpec)

/-- ITS FALSE NEIGHBOUR: 'it returns false'. Refute it at one input. -/
def binomKnownWrong : ChangeSpec := { name := "binomKnown", fn := fun _ => fun
  | [] => { results := [.lit (.bool false)], args := [] }
  | _ => none }
def BinomKnownWrongFalsely : Prop := binomKnownRow.holds Try.pinned (OpenSpec.ofChange binomKnownWrong)

/-- 'artesianlaw07.BinomPascal': WHATEVER THE INPUT: true; the input reads as it did. -/
def binomPascalSpec : ChangeSpec := { name := "binomPascal", fn := fun _ => fun
  | [d1, d2] => { results := [.lit (.bool true)], args := [d1, d2] }
  | _ => none }
def binomPascalRow : OpenClaim := { program := "ytdjhgalaianifaa", sum := "1ed3e80b40897dc85a71d92ae29b02edb3316a51b353338f0cd8fd9c160d881e", func := "artesian/artesianlaw07.BinomPascal", spec := "binomPascal", inPlace := ["math/bits.Add64", "math/bits.Sub64"], unfollowed := true, recurses := true, named := ["math/bits.divideError", "math/bits.overflowError"], apart := false }
def BinomPascalSaid : Prop := binomPascalRow.holds Try.pinned (OpenSpec.ofChange binomPascalSpec)

/-- ITS FALSE NEIGHBOUR: 'it returns false'. Refute it at one input. -/
def binomPascalWrong : ChangeSpec := { name := "binomPascal", fn := fun _ => fun
  | [d1, d2] => { results := [.lit (.bool false)], args := [d1, d2] }
  | _ => none }
def BinomPascalWrongFalsely : Prop := binomPascalRow.holds Try.pinned (OpenSpec.ofChange binomPascalWrong)

/-- 'artesianlaw06.DigitsNumbers': WHATEVER THE INPUT: true; the input reads as it did. -/
def digitsNumbersSpec : ChangeSpec := { name := "digitsNumbers", fn := fun _ => fun
  | [d] => { results := [.lit (.bool true)], args := [d] }
  | _ => none }
def digitsNumbersRow : OpenClaim := { program := "ytdjhgalaianifaa", sum := "1ed3e80b40897dc85a71d92ae29b02edb3316a51b353338f0cd8fd9c160d881e", func := "artesian/artesianlaw06.DigitsNumbers", spec := "digitsNumbers", inPlace := ["internal/abi.NoEscape", "internal/bytealg.MakeNoZero", "math/bits.Add64"], unfollowed := true, recurses := true, named := ["math/bits.divideError", "math/bits.overflowError"], apart := false }
def DigitsNumbersSaid : Prop := digitsNumbersRow.holds Try.pinned (OpenSpec.ofChange digitsNumbersSpec)

/-- ITS FALSE NEIGHBOUR: 'it returns false'. Refute it at one input. -/
def digitsNumbersWrong : ChangeSpec := { name := "digitsNumbers", fn := fun _ => fun
  | [d] => { results := [.lit (.bool false)], args := [d] }
  | _ => none }
def DigitsNumbersWrongFalsely : Prop := digitsNumbersRow.holds Try.pinned (OpenSpec.ofChange digitsNumbersWrong)

/-- 'artesianlaw06.DigitsOrder': WHATEVER THE INPUT: true; the input reads as it did. -/
def digitsOrderSpec : ChangeSpec := { name := "digitsOrder", fn := fun _ => fun
  | [d1, d2, d3] => { results := [.lit (.bool true)], args := [d1, d2, d3] }
  | _ => none }
def digitsOrderRow : OpenClaim := { program := "ytdjhgalaianifaa", sum := "1ed3e80b40897dc85a71d92ae29b02edb3316a51b353338f0cd8fd9c160d881e", func := "artesian/artesianlaw06.DigitsOrder", spec := "digitsOrder", inPlace := ["internal/abi.NoEscape", "internal/bytealg.MakeNoZero", "math/bits.Add64"], unfollowed := true, recurses := true, named := ["math/bits.divideError", "math/bits.overflowError"], apart := false }
def DigitsOrderSaid : Prop := digitsOrderRow.holds Try.pinned (OpenSpec.ofChange digitsOrderSpec)

/-- ITS FALSE NEIGHBOUR: 'it returns false'. Refute it at one input. -/
def digitsOrderWrong : ChangeSpec := { name := "digitsOrder", fn := fun _ => fun
  | [d1, d2, d3] => { results := [.lit (.bool false)], args := [d1, d2, d3] }
  | _ => none }
def DigitsOrderWrongFalsely : Prop := digitsOrderRow.holds Try.pinned (OpenSpec.ofChange digitsOrderWrong)

/- THE SECOND FORM. 'bulk': how many values and letters a reading holds, each counted each time it is reached (what is shared counts as often as it is met; a slice's spare places count too). A statement '..UptoSaid' is the law's where the arguments, and the package variables that the reading takes, are together of bulk at most 1048576: NARROWER than '..Said'. Prove '..Said' where nothing that the law and all that it calls make is longer than what came in: it says more and counts as full. Else prove '..UptoSaid'. A law counts once. -/
mutual
def uptoBulk {H : Type} : DataW H → Nat
  | .lit (.string bytes) => bytes.length + 1
  | .lit _ => 1
  | .nil => 1
  | .ptr d => uptoBulk d + 1
  | .slice elems spare => uptoBulkAll elems + uptoBulkAll spare + 1
  | .agg parts => uptoBulkAll parts + 1
  | .iface _ d => uptoBulk d + 1
  | .map entries => uptoBulkEntries entries + 1
  | .held _ => 1
def uptoBulkAll {H : Type} : List (DataW H) → Nat
  | [] => 0
  | d :: r => uptoBulk d + uptoBulkAll r
def uptoBulkEntries {H : Type} : List (Lit × DataW H) → Nat
  | [] => 0
  | x :: r => uptoBulkEntry x + uptoBulkEntries r
def uptoBulkEntry {H : Type} : Lit × DataW H → Nat
  | (.string bytes, d) => bytes.length + uptoBulk d + 1
  | (_, d) => uptoBulk d + 1
 end
def uptoSmall : (H : Type) → List (DataW H) → Bool := fun _ ds => decide (uptoBulkAll ds ≤ 1048576)
def OpenSpec.upto (s : _root_.Go.ChangeSpec) : _root_.Go.OpenSpec := { _root_.Go.OpenSpec.ofChange s with cond := some uptoSmall }

/-- 'artesianlaw03.QuotCommon', WHERE WHAT IT READS IS OF BULK AT MOST 1048576: true; the input reads as it did. -/
def quotCommonUptoRow : OpenClaim := { program := "ytdjhgalaianifaa", sum := "1ed3e80b40897dc85a71d92ae29b02edb3316a51b353338f0cd8fd9c160d881e", func := "artesian/artesianlaw03.QuotCommon", spec := "quotCommon", inPlace := ["math/bits.Add64", "math/bits.Sub64"], unfollowed := true, recurses := true, named := ["math/bits.divideError", "math/bits.overflowError"], apart := false, narrowed := true }
def QuotCommonUptoSaid : Prop := quotCommonUptoRow.holds Try.pinned (OpenSpec.upto quotCommonSpec)

/-- 'artesianlaw07.BinomCounts', WHERE WHAT IT READS IS OF BULK AT MOST 1048576: true; the input reads as it did. -/
def binomCountsUptoRow : OpenClaim := { program := "ytdjhgalaianifaa", sum := "1ed3e80b40897dc85a71d92ae29b02edb3316a51b353338f0cd8fd9c160d881e", func := "artesian/artesianlaw07.BinomCounts", spec := "binomCounts", inPlace := ["math/bits.Add64", "math/bits.Sub64"], unfollowed := true, recurses := true, named := ["math/bits.divideError", "math/bits.overflowError"], apart := false, narrowed := true }
def BinomCountsUptoSaid : Prop := binomCountsUptoRow.holds Try.pinned (OpenSpec.upto binomCountsSpec)

/-- 'artesianlaw03.QuotDivides', WHERE WHAT IT READS IS OF BULK AT MOST 1048576: true; the input reads as it did. -/
def quotDividesUptoRow : OpenClaim := { program := "ytdjhgalaianifaa", sum := "1ed3e80b40897dc85a71d92ae29b02edb3316a51b353338f0cd8fd9c160d881e", func := "artesian/artesianlaw03.QuotDivides", spec := "quotDivides", inPlace := ["math/bits.Add64", "math/bits.Sub64"], unfollowed := true, recurses := true, named := ["math/bits.divideError", "math/bits.overflowError"], apart := false, narrowed := true }
def QuotDividesUptoSaid : Prop := quotDividesUptoRow.holds Try.pinned (OpenSpec.upto quotDividesSpec)

/-- 'artesianlaw03.QuotKnown', WHERE WHAT IT READS IS OF BULK AT MOST 1048576: true; the input reads as it did. -/
def quotKnownUptoRow : OpenClaim := { program := "ytdjhgalaianifaa", sum := "1ed3e80b40897dc85a71d92ae29b02edb3316a51b353338f0cd8fd9c160d881e", func := "artesian/artesianlaw03.QuotKnown", spec := "quotKnown", inPlace := ["math/bits.Add64", "math/bits.Sub64"], unfollowed := true, recurses := true, named := ["math/bits.divideError", "math/bits.overflowError"], apart := false, narrowed := true }
def QuotKnownUptoSaid : Prop := quotKnownUptoRow.holds Try.pinned (OpenSpec.upto quotKnownSpec)

/-- 'artesianlaw03.QuotBack', WHERE WHAT IT READS IS OF BULK AT MOST 1048576: true; the input reads as it did. -/
def quotBackUptoRow : OpenClaim := { program := "ytdjhgalaianifaa", sum := "1ed3e80b40897dc85a71d92ae29b02edb3316a51b353338f0cd8fd9c160d881e", func := "artesian/artesianlaw03.QuotBack", spec := "quotBack", inPlace := ["math/bits.Add64", "math/bits.Sub64"], unfollowed := true, recurses := true, named := ["math/bits.divideError", "math/bits.overflowError"], apart := false, narrowed := true }
def QuotBackUptoSaid : Prop := quotBackUptoRow.holds Try.pinned (OpenSpec.upto quotBackSpec)

/-- 'artesianlaw03.QuotWhole', WHERE WHAT IT READS IS OF BULK AT MOST 1048576: true; the input reads as it did. -/
def quotWholeUptoRow : OpenClaim := { program := "ytdjhgalaianifaa", sum := "1ed3e80b40897dc85a71d92ae29b02edb3316a51b353338f0cd8fd9c160d881e", func := "artesian/artesianlaw03.QuotWhole", spec := "quotWhole", inPlace := ["math/bits.Add64", "math/bits.Sub64"], unfollowed := true, recurses := true, named := ["math/bits.divideError", "math/bits.overflowError"], apart := false, narrowed := true }
def QuotWholeUptoSaid : Prop := quotWholeUptoRow.holds Try.pinned (OpenSpec.upto quotWholeSpec)

/-- 'artesianlaw03.QuotGreatest', WHERE WHAT IT READS IS OF BULK AT MOST 1048576: true; the input reads as it did. -/
def quotGreatestUptoRow : OpenClaim := { program := "ytdjhgalaianifaa", sum := "1ed3e80b40897dc85a71d92ae29b02edb3316a51b353338f0cd8fd9c160d881e", func := "artesian/artesianlaw03.QuotGreatest", spec := "quotGreatest", inPlace := ["math/bits.Add64", "math/bits.Sub64"], unfollowed := true, recurses := true, named := ["math/bits.divideError", "math/bits.overflowError"], apart := false, narrowed := true }
def QuotGreatestUptoSaid : Prop := quotGreatestUptoRow.holds Try.pinned (OpenSpec.upto quotGreatestSpec)

/-- 'artesianlaw07.BinomTells', WHERE WHAT IT READS IS OF BULK AT MOST 1048576: true; the input reads as it did. -/
def binomTellsUptoRow : OpenClaim := { program := "ytdjhgalaianifaa", sum := "1ed3e80b40897dc85a71d92ae29b02edb3316a51b353338f0cd8fd9c160d881e", func := "artesian/artesianlaw07.BinomTells", spec := "binomTells", inPlace := ["math/bits.Add64", "math/bits.Sub64"], unfollowed := true, recurses := true, named := ["math/bits.divideError", "math/bits.overflowError"], apart := false, narrowed := true }
def BinomTellsUptoSaid : Prop := binomTellsUptoRow.holds Try.pinned (OpenSpec.upto binomTellsSpec)

/-- 'artesianlaw07.BinomKnown', WHERE WHAT IT READS IS OF BULK AT MOST 1048576: true; the input reads as it did. -/
def binomKnownUptoRow : OpenClaim := { program := "ytdjhgalaianifaa", sum := "1ed3e80b40897dc85a71d92ae29b02edb3316a51b353338f0cd8fd9c160d881e", func := "artesian/artesianlaw07.BinomKnown", spec := "binomKnown", inPlace := ["math/bits.Add64", "math/bits.Sub64"], unfollowed := true, recurses := true, named := ["math/bits.divideError", "math/bits.overflowError"], apart := false, narrowed := true }
def BinomKnownUptoSaid : Prop := binomKnownUptoRow.holds Try.pinned (OpenSpec.upto binomKnownSpec)

/-- 'artesianlaw07.BinomPascal', WHERE WHAT IT READS IS OF BULK AT MOST 1048576: true; the input reads as it did. -/
def binomPascalUptoRow : OpenClaim := { program := "ytdjhgalaianifaa", sum := "1ed3e80b40897dc85a71d92ae29b02edb3316a51b353338f0cd8fd9c160d881e", func := "artesian/artesianlaw07.BinomPascal", spec := "binomPascal", inPlace := ["math/bits.Add64", "math/bits.Sub64"], unfollowed := true, recurses := true, named := ["math/bits.divideError", "math/bits.overflowError"], apart := false, narrowed := true }
def BinomPascalUptoSaid : Prop := binomPascalUptoRow.holds Try.pinned (OpenSpec.upto binomPascalSpec)

/-- 'artesianlaw06.DigitsNumbers', WHERE WHAT IT READS IS OF BULK AT MOST 1048576: true; the input reads as it did. -/
def digitsNumbersUptoRow : OpenClaim := { program := "ytdjhgalaianifaa", sum := "1ed3e80b40897dc85a71d92ae29b02edb3316a51b353338f0cd8fd9c160d881e", func := "artesian/artesianlaw06.DigitsNumbers", spec := "digitsNumbers", inPlace := ["internal/abi.NoEscape", "internal/bytealg.MakeNoZero", "math/bits.Add64"], unfollowed := true, recurses := true, named := ["math/bits.divideError", "math/bits.overflowError"], apart := false, narrowed := true }
def DigitsNumbersUptoSaid : Prop := digitsNumbersUptoRow.holds Try.pinned (OpenSpec.upto digitsNumbersSpec)

/-- 'artesianlaw06.DigitsOrder', WHERE WHAT IT READS IS OF BULK AT MOST 1048576: true; the input reads as it did. -/
def digitsOrderUptoRow : OpenClaim := { program := "ytdjhgalaianifaa", sum := "1ed3e80b40897dc85a71d92ae29b02edb3316a51b353338f0cd8fd9c160d881e", func := "artesian/artesianlaw06.DigitsOrder", spec := "digitsOrder", inPlace := ["internal/abi.NoEscape", "internal/bytealg.MakeNoZero", "math/bits.Add64"], unfollowed := true, recurses := true, named := ["math/bits.divideError", "math/bits.overflowError"], apart := false, narrowed := true }
def DigitsOrderUptoSaid : Prop := digitsOrderUptoRow.holds Try.pinned (OpenSpec.upto digitsOrderSpec)

end Rows
end Go.Proofs.Ytdjhgalaianifaa
