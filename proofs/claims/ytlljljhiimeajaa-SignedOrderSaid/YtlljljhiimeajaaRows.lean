/-
  No cell of these rows narrows 'for every input' (looked for: loops, veiled, ifaces, maps, wideKeys, modest, calm, conditions, laid).
  DERIVED. THE GIVEN ROWS OF THIS SEAT. 12 by the template 'for every input the law returns true; each argument reads behind the call as it read before'; 0 by the template 'total and deterministic' (their statements: YtlljljhiimeajaaTotals.lean).
  GIVEN WITH THE SEED: the statements are not yours to turn. If you find one false, say at which input.
  Laid BY PROGRAM, IN A SANDBOX (cutbox-rows.mjs): the forced cells as the released guide's own fill.sh prints them over the translation 6d20eba6d251ae08… (all of the seat's roots in one cut). By AI agents, Wed Nov 11 2026. No macro, syntax, notation, axiom, sorry.
-/
import Derived.Test.YtlljljhiimeajaaChecked
import GoSem.Claim
import GoSem.ClaimJoined
import GoSem.ClaimMapViews
import Derived.JoinedTies
import Derived.KernelRfl
namespace Go.Proofs.Ytlljljhiimeajaa
/- THE CELL 'sum', in the pinned program and in every row, IS THE sha256 OF THE DUMP (.gsa) THAT YtlljljhiimeajaaProg.lean LOADS. Nothing in Lean hashes anything: it is a label: what it is worth is what the hold of that sum in a sandbox is worth. -/
noncomputable def Try.pinned : Pinned := { name := "ytlljljhiimeajaa", sum := "6d20eba6d251ae086abfcc52b332fa37ea518855f6fede4bce4ea4b8948178dc", checked := Try.checked }
namespace Rows
def none {H : Type} : Left H := { results := [], args := [] }

/-- 'artesianlaw02.TimesProducts': WHATEVER THE INPUT: true; the input reads as it did. -/
def timesProductsSpec : ChangeSpec := { name := "timesProducts", fn := fun _ => fun
  | [d1, d2, d3, d4] => { results := [.lit (.bool true)], args := [d1, d2, d3, d4] }
  | _ => none }
def timesProductsRow : OpenClaim := { program := "ytlljljhiimeajaa", sum := "6d20eba6d251ae086abfcc52b332fa37ea518855f6fede4bce4ea4b8948178dc", func := "artesian/artesianlaw02.TimesProducts", spec := "timesProducts", inPlace := ["math/bits.Add64", "math/bits.Sub64"], unfollowed := true, recurses := true, apart := false }
def TimesProductsSaid : Prop := timesProductsRow.holds Try.pinned (OpenSpec.ofChange timesProductsSpec)

/-- ITS FALSE NEIGHBOUR: 'it returns false'. Refute it at one input. -/
def timesProductsWrong : ChangeSpec := { name := "timesProducts", fn := fun _ => fun
  | [d1, d2, d3, d4] => { results := [.lit (.bool false)], args := [d1, d2, d3, d4] }
  | _ => none }
def TimesProductsWrongFalsely : Prop := timesProductsRow.holds Try.pinned (OpenSpec.ofChange timesProductsWrong)

/-- 'artesianlaw02.TimesPowers': WHATEVER THE INPUT: true; the input reads as it did. -/
def timesPowersSpec : ChangeSpec := { name := "timesPowers", fn := fun _ => fun
  | [d1, d2] => { results := [.lit (.bool true)], args := [d1, d2] }
  | _ => none }
def timesPowersRow : OpenClaim := { program := "ytlljljhiimeajaa", sum := "6d20eba6d251ae086abfcc52b332fa37ea518855f6fede4bce4ea4b8948178dc", func := "artesian/artesianlaw02.TimesPowers", spec := "timesPowers", inPlace := ["math/bits.Add64", "math/bits.Sub64"], unfollowed := true, recurses := true, apart := false }
def TimesPowersSaid : Prop := timesPowersRow.holds Try.pinned (OpenSpec.ofChange timesPowersSpec)

/-- ITS FALSE NEIGHBOUR: 'it returns false'. Refute it at one input. -/
def timesPowersWrong : ChangeSpec := { name := "timesPowers", fn := fun _ => fun
  | [d1, d2] => { results := [.lit (.bool false)], args := [d1, d2] }
  | _ => none }
def TimesPowersWrongFalsely : Prop := timesPowersRow.holds Try.pinned (OpenSpec.ofChange timesPowersWrong)

/-- 'artesianlaw02.TimesSums': WHATEVER THE INPUT: true; the input reads as it did. -/
def timesSumsSpec : ChangeSpec := { name := "timesSums", fn := fun _ => fun
  | [d1, d2, d3] => { results := [.lit (.bool true)], args := [d1, d2, d3] }
  | _ => none }
def timesSumsRow : OpenClaim := { program := "ytlljljhiimeajaa", sum := "6d20eba6d251ae086abfcc52b332fa37ea518855f6fede4bce4ea4b8948178dc", func := "artesian/artesianlaw02.TimesSums", spec := "timesSums", inPlace := ["math/bits.Add64", "math/bits.Sub64"], unfollowed := true, recurses := true, apart := false }
def TimesSumsSaid : Prop := timesSumsRow.holds Try.pinned (OpenSpec.ofChange timesSumsSpec)

/-- ITS FALSE NEIGHBOUR: 'it returns false'. Refute it at one input. -/
def timesSumsWrong : ChangeSpec := { name := "timesSums", fn := fun _ => fun
  | [d1, d2, d3] => { results := [.lit (.bool false)], args := [d1, d2, d3] }
  | _ => none }
def TimesSumsWrongFalsely : Prop := timesSumsRow.holds Try.pinned (OpenSpec.ofChange timesSumsWrong)

/-- 'artesianlaw02.TimesKnown': WHATEVER THE INPUT: true; the input reads as it did. -/
def timesKnownSpec : ChangeSpec := { name := "timesKnown", fn := fun _ => fun
  | [] => { results := [.lit (.bool true)], args := [] }
  | _ => none }
def timesKnownRow : OpenClaim := { program := "ytlljljhiimeajaa", sum := "6d20eba6d251ae086abfcc52b332fa37ea518855f6fede4bce4ea4b8948178dc", func := "artesian/artesianlaw02.TimesKnown", spec := "timesKnown", inPlace := ["math/bits.Add64", "math/bits.Sub64"], unfollowed := true, recurses := true, apart := false }
def TimesKnownSaid : Prop := timesKnownRow.holds Try.pinned (OpenSpec.ofChange timesKnownSpec)

/-- ITS FALSE NEIGHBOUR: 'it returns false'. Refute it at one input. -/
def timesKnownWrong : ChangeSpec := { name := "timesKnown", fn := fun _ => fun
  | [] => { results := [.lit (.bool false)], args := [] }
  | _ => none }
def TimesKnownWrongFalsely : Prop := timesKnownRow.holds Try.pinned (OpenSpec.ofChange timesKnownWrong)

/-- 'artesianlaw02.TimesRing': WHATEVER THE INPUT: true; the input reads as it did. -/
def timesRingSpec : ChangeSpec := { name := "timesRing", fn := fun _ => fun
  | [d1, d2, d3, d4] => { results := [.lit (.bool true)], args := [d1, d2, d3, d4] }
  | _ => none }
def timesRingRow : OpenClaim := { program := "ytlljljhiimeajaa", sum := "6d20eba6d251ae086abfcc52b332fa37ea518855f6fede4bce4ea4b8948178dc", func := "artesian/artesianlaw02.TimesRing", spec := "timesRing", inPlace := ["math/bits.Add64", "math/bits.Sub64"], unfollowed := true, recurses := true, apart := false }
def TimesRingSaid : Prop := timesRingRow.holds Try.pinned (OpenSpec.ofChange timesRingSpec)

/-- ITS FALSE NEIGHBOUR: 'it returns false'. Refute it at one input. -/
def timesRingWrong : ChangeSpec := { name := "timesRing", fn := fun _ => fun
  | [d1, d2, d3, d4] => { results := [.lit (.bool false)], args := [d1, d2, d3, d4] }
  | _ => none }
def TimesRingWrongFalsely : Prop := timesRingRow.holds Try.pinned (OpenSpec.ofChange timesRingWrong)

/-- 'artesianlaw04.SignedForms': WHATEVER THE INPUT: true; the input reads as it did. -/
def signedFormsSpec : ChangeSpec := { name := "signedForms", fn := fun _ => fun
  | [d1, d2] => { results := [.lit (.bool true)], args := [d1, d2] }
  | _ => none }
def signedFormsRow : OpenClaim := { program := "ytlljljhiimeajaa", sum := "6d20eba6d251ae086abfcc52b332fa37ea518855f6fede4bce4ea4b8948178dc", func := "artesian/artesianlaw04.SignedForms", spec := "signedForms", inPlace := ["math/bits.Add64", "math/bits.Sub64"], unfollowed := true, recurses := true, apart := false }
def SignedFormsSaid : Prop := signedFormsRow.holds Try.pinned (OpenSpec.ofChange signedFormsSpec)

/-- ITS FALSE NEIGHBOUR: 'it returns false'. Refute it at one input. -/
def signedFormsWrong : ChangeSpec := { name := "signedForms", fn := fun _ => fun
  | [d1, d2] => { results := [.lit (.bool false)], args := [d1, d2] }
  | _ => none }
def SignedFormsWrongFalsely : Prop := signedFormsRow.holds Try.pinned (OpenSpec.ofChange signedFormsWrong)

/-- 'artesianlaw04.SignedReckons': WHATEVER THE INPUT: true; the input reads as it did. -/
def signedReckonsSpec : ChangeSpec := { name := "signedReckons", fn := fun _ => fun
  | [d1, d2] => { results := [.lit (.bool true)], args := [d1, d2] }
  | _ => none }
def signedReckonsRow : OpenClaim := { program := "ytlljljhiimeajaa", sum := "6d20eba6d251ae086abfcc52b332fa37ea518855f6fede4bce4ea4b8948178dc", func := "artesian/artesianlaw04.SignedReckons", spec := "signedReckons", inPlace := ["math/bits.Add64", "math/bits.Sub64"], unfollowed := true, recurses := true, apart := false }
def SignedReckonsSaid : Prop := signedReckonsRow.holds Try.pinned (OpenSpec.ofChange signedReckonsSpec)

/-- ITS FALSE NEIGHBOUR: 'it returns false'. Refute it at one input. -/
def signedReckonsWrong : ChangeSpec := { name := "signedReckons", fn := fun _ => fun
  | [d1, d2] => { results := [.lit (.bool false)], args := [d1, d2] }
  | _ => none }
def SignedReckonsWrongFalsely : Prop := signedReckonsRow.holds Try.pinned (OpenSpec.ofChange signedReckonsWrong)

/-- 'artesianlaw04.SignedKnown': WHATEVER THE INPUT: true; the input reads as it did. -/
def signedKnownSpec : ChangeSpec := { name := "signedKnown", fn := fun _ => fun
  | [] => { results := [.lit (.bool true)], args := [] }
  | _ => none }
def signedKnownRow : OpenClaim := { program := "ytlljljhiimeajaa", sum := "6d20eba6d251ae086abfcc52b332fa37ea518855f6fede4bce4ea4b8948178dc", func := "artesian/artesianlaw04.SignedKnown", spec := "signedKnown", inPlace := ["math/bits.Add64", "math/bits.Sub64"], unfollowed := true, recurses := true, apart := false }
def SignedKnownSaid : Prop := signedKnownRow.holds Try.pinned (OpenSpec.ofChange signedKnownSpec)

/-- ITS FALSE NEIGHBOUR: 'it returns false'. Refute it at one input. -/
def signedKnownWrong : ChangeSpec := { name := "signedKnown", fn := fun _ => fun
  | [] => { results := [.lit (.bool false)], args := [] }
  | _ => none }
def SignedKnownWrongFalsely : Prop := signedKnownRow.holds Try.pinned (OpenSpec.ofChange signedKnownWrong)

/-- 'artesianlaw04.SignedRing': WHATEVER THE INPUT: true; the input reads as it did. -/
def signedRingSpec : ChangeSpec := { name := "signedRing", fn := fun _ => fun
  | [d1, d2, d3] => { results := [.lit (.bool true)], args := [d1, d2, d3] }
  | _ => none }
def signedRingRow : OpenClaim := { program := "ytlljljhiimeajaa", sum := "6d20eba6d251ae086abfcc52b332fa37ea518855f6fede4bce4ea4b8948178dc", func := "artesian/artesianlaw04.SignedRing", spec := "signedRing", inPlace := ["math/bits.Add64", "math/bits.Sub64"], unfollowed := true, recurses := true, apart := false }
def SignedRingSaid : Prop := signedRingRow.holds Try.pinned (OpenSpec.ofChange signedRingSpec)

/-- ITS FALSE NEIGHBOUR: 'it returns false'. Refute it at one input. -/
def signedRingWrong : ChangeSpec := { name := "signedRing", fn := fun _ => fun
  | [d1, d2, d3] => { results := [.lit (.bool false)], args := [d1, d2, d3] }
  | _ => none }
def SignedRingWrongFalsely : Prop := signedRingRow.holds Try.pinned (OpenSpec.ofChange signedRingWrong)

/-- 'artesianlaw04.SignedOrder': WHATEVER THE INPUT: true; the input reads as it did. -/
def signedOrderSpec : ChangeSpec := { name := "signedOrder", fn := fun _ => fun
  | [d1, d2, d3] => { results := [.lit (.bool true)], args := [d1, d2, d3] }
  | _ => none }
def signedOrderRow : OpenClaim := { program := "ytlljljhiimeajaa", sum := "6d20eba6d251ae086abfcc52b332fa37ea518855f6fede4bce4ea4b8948178dc", func := "artesian/artesianlaw04.SignedOrder", spec := "signedOrder", inPlace := ["math/bits.Add64", "math/bits.Sub64"], unfollowed := true, recurses := true, apart := false }
def SignedOrderSaid : Prop := signedOrderRow.holds Try.pinned (OpenSpec.ofChange signedOrderSpec)

/-- ITS FALSE NEIGHBOUR: 'it returns false'. Refute it at one input. -/
def signedOrderWrong : ChangeSpec := { name := "signedOrder", fn := fun _ => fun
  | [d1, d2, d3] => { results := [.lit (.bool false)], args := [d1, d2, d3] }
  | _ => none }
def SignedOrderWrongFalsely : Prop := signedOrderRow.holds Try.pinned (OpenSpec.ofChange signedOrderWrong)

/-- 'artesianlaw04.SignedInts': WHATEVER THE INPUT: true; the input reads as it did. -/
def signedIntsSpec : ChangeSpec := { name := "signedInts", fn := fun _ => fun
  | [d1, d2] => { results := [.lit (.bool true)], args := [d1, d2] }
  | _ => none }
def signedIntsRow : OpenClaim := { program := "ytlljljhiimeajaa", sum := "6d20eba6d251ae086abfcc52b332fa37ea518855f6fede4bce4ea4b8948178dc", func := "artesian/artesianlaw04.SignedInts", spec := "signedInts", inPlace := ["math/bits.Add64", "math/bits.Sub64"], unfollowed := true, recurses := true, apart := false }
def SignedIntsSaid : Prop := signedIntsRow.holds Try.pinned (OpenSpec.ofChange signedIntsSpec)

/-- ITS FALSE NEIGHBOUR: 'it returns false'. Refute it at one input. -/
def signedIntsWrong : ChangeSpec := { name := "signedInts", fn := fun _ => fun
  | [d1, d2] => { results := [.lit (.bool false)], args := [d1, d2] }
  | _ => none }
def SignedIntsWrongFalsely : Prop := signedIntsRow.holds Try.pinned (OpenSpec.ofChange signedIntsWrong)

/-- 'artesianlaw02.TimesBits': WHATEVER THE INPUT: true; the input reads as it did. -/
def timesBitsSpec : ChangeSpec := { name := "timesBits", fn := fun _ => fun
  | [d1, d2, d3] => { results := [.lit (.bool true)], args := [d1, d2, d3] }
  | _ => none }
def timesBitsRow : OpenClaim := { program := "ytlljljhiimeajaa", sum := "6d20eba6d251ae086abfcc52b332fa37ea518855f6fede4bce4ea4b8948178dc", func := "artesian/artesianlaw02.TimesBits", spec := "timesBits", inPlace := ["math/bits.Add64", "math/bits.Sub64"], unfollowed := true, recurses := true, apart := false }
def TimesBitsSaid : Prop := timesBitsRow.holds Try.pinned (OpenSpec.ofChange timesBitsSpec)

/-- ITS FALSE NEIGHBOUR: 'it returns false'. Refute it at one input. -/
def timesBitsWrong : ChangeSpec := { name := "timesBits", fn := fun _ => fun
  | [d1, d2, d3] => { results := [.lit (.bool false)], args := [d1, d2, d3] }
  | _ => none }
def TimesBitsWrongFalsely : Prop := timesBitsRow.holds Try.pinned (OpenSpec.ofChange timesBitsWrong)

/- THE SECOND FORM. 'bulk': how many values and letters a reading holds, each counted each time it is reached (what is shared counts as often as it is met; a slice's spare places count too). A statement '..UptoSaid' is the law's where the arguments, and the package variables that the reading takes, are together of bulk at most 1048576: NARROWER than '..Said'. Prove '..Said' where nothing that the law and all that it calls make is longer than what came in: it says more and counts as full. Else prove '..UptoSaid'. A law counts once. -/
mutual
def uptoBulk {H : Type} : DataW H → Nat
  | .lit (.string bytes) => bytes.length + 1
  | .lit _ => 1
  | .nil => 1
  | .ptr d => uptoBulk d + 1
  | .slice elems spare => uptoBulkAll elems + uptoBulkAll spare + 1
  | .agg parts => uptoBulkAll parts + 1
  | .iface _ d => uptoBulk d + 1
  | .map entries => uptoBulkEntries entries + 1
  | .held _ => 1
def uptoBulkAll {H : Type} : List (DataW H) → Nat
  | [] => 0
  | d :: r => uptoBulk d + uptoBulkAll r
def uptoBulkEntries {H : Type} : List (Lit × DataW H) → Nat
  | [] => 0
  | x :: r => uptoBulkEntry x + uptoBulkEntries r
def uptoBulkEntry {H : Type} : Lit × DataW H → Nat
  | (.string bytes, d) => bytes.length + uptoBulk d + 1
  | (_, d) => uptoBulk d + 1
 end
def uptoSmall : (H : Type) → List (DataW H) → Bool := fun _ ds => decide (uptoBulkAll ds ≤ 1048576)
def OpenSpec.upto (s : _root_.Go.ChangeSpec) : _root_.Go.OpenSpec := { _root_.Go.OpenSpec.ofChange s with cond := some uptoSmall }

/-- 'artesianlaw02.TimesProducts', WHERE WHAT IT READS IS OF BULK AT MOST 1048576: true; the input reads as it did. -/
def timesProductsUptoRow : OpenClaim := { program := "ytlljljhiimeajaa", sum := "6d20eba6d251ae086abfcc52b332fa37ea518855f6fede4bce4ea4b8948178dc", func := "artesian/artesianlaw02.TimesProducts", spec := "timesProducts", inPlace := ["math/bits.Add64", "math/bits.Sub64"], unfollowed := true, recurses := true, apart := false, narrowed := true }
def TimesProductsUptoSaid : Prop := timesProductsUptoRow.holds Try.pinned (OpenSpec.upto timesProductsSpec)

/-- 'artesianlaw02.TimesPowers', WHERE WHAT IT READS IS OF BULK AT MOST 1048576: true; the input reads as it did. -/
def timesPowersUptoRow : OpenClaim := { program := "ytlljljhiimeajaa", sum := "6d20eba6d251ae086abfcc52b332fa37ea518855f6fede4bce4ea4b8948178dc", func := "artesian/artesianlaw02.TimesPowers", spec := "timesPowers", inPlace := ["math/bits.Add64", "math/bits.Sub64"], unfollowed := true, recurses := true, apart := false, narrowed := true }
def TimesPowersUptoSaid : Prop := timesPowersUptoRow.holds Try.pinned (OpenSpec.upto timesPowersSpec)

/-- 'artesianlaw02.TimesSums', WHERE WHAT IT READS IS OF BULK AT MOST 1048576: true; the input reads as it did. -/
def timesSumsUptoRow : OpenClaim := { program := "ytlljljhiimeajaa", sum := "6d20eba6d251ae086abfcc52b332fa37ea518855f6fede4bce4ea4b8948178dc", func := "artesian/artesianlaw02.TimesSums", spec := "timesSums", inPlace := ["math/bits.Add64", "math/bits.Sub64"], unfollowed := true, recurses := true, apart := false, narrowed := true }
def TimesSumsUptoSaid : Prop := timesSumsUptoRow.holds Try.pinned (OpenSpec.upto timesSumsSpec)

/-- 'artesianlaw02.TimesKnown', WHERE WHAT IT READS IS OF BULK AT MOST 1048576: true; the input reads as it did. -/
def timesKnownUptoRow : OpenClaim := { program := "ytlljljhiimeajaa", sum := "6d20eba6d251ae086abfcc52b332fa37ea518855f6fede4bce4ea4b8948178dc", func := "artesian/artesianlaw02.TimesKnown", spec := "timesKnown", inPlace := ["math/bits.Add64", "math/bits.Sub64"], unfollowed := true, recurses := true, apart := false, narrowed := true }
def TimesKnownUptoSaid : Prop := timesKnownUptoRow.holds Try.pinned (OpenSpec.upto timesKnownSpec)

/-- 'artesianlaw02.TimesRing', WHERE WHAT IT READS IS OF BULK AT MOST 1048576: true; the input reads as it did. -/
def timesRingUptoRow : OpenClaim := { program := "ytlljljhiimeajaa", sum := "6d20eba6d251ae086abfcc52b332fa37ea518855f6fede4bce4ea4b8948178dc", func := "artesian/artesianlaw02.TimesRing", spec := "timesRing", inPlace := ["math/bits.Add64", "math/bits.Sub64"], unfollowed := true, recurses := true, apart := false, narrowed := true }
def TimesRingUptoSaid : Prop := timesRingUptoRow.holds Try.pinned (OpenSpec.upto timesRingSpec)

/-- 'artesianlaw04.SignedForms', WHERE WHAT IT READS IS OF BULK AT MOST 1048576: true; the input reads as it did. -/
def signedFormsUptoRow : OpenClaim := { program := "ytlljljhiimeajaa", sum := "6d20eba6d251ae086abfcc52b332fa37ea518855f6fede4bce4ea4b8948178dc", func := "artesian/artesianlaw04.SignedForms", spec := "signedForms", inPlace := ["math/bits.Add64", "math/bits.Sub64"], unfollowed := true, recurses := true, apart := false, narrowed := true }
def SignedFormsUptoSaid : Prop := signedFormsUptoRow.holds Try.pinned (OpenSpec.upto signedFormsSpec)

/-- 'artesianlaw04.SignedReckons', WHERE WHAT IT READS IS OF BULK AT MOST 1048576: true; the input reads as it did. -/
def signedReckonsUptoRow : OpenClaim := { program := "ytlljljhiimeajaa", sum := "6d20eba6d251ae086abfcc52b332fa37ea518855f6fede4bce4ea4b8948178dc", func := "artesian/artesianlaw04.SignedReckons", spec := "signedReckons", inPlace := ["math/bits.Add64", "math/bits.Sub64"], unfollowed := true, recurses := true, apart := false, narrowed := true }
def SignedReckonsUptoSaid : Prop := signedReckonsUptoRow.holds Try.pinned (OpenSpec.upto signedReckonsSpec)

/-- 'artesianlaw04.SignedKnown', WHERE WHAT IT READS IS OF BULK AT MOST 1048576: true; the input reads as it did. -/
def signedKnownUptoRow : OpenClaim := { program := "ytlljljhiimeajaa", sum := "6d20eba6d251ae086abfcc52b332fa37ea518855f6fede4bce4ea4b8948178dc", func := "artesian/artesianlaw04.SignedKnown", spec := "signedKnown", inPlace := ["math/bits.Add64", "math/bits.Sub64"], unfollowed := true, recurses := true, apart := false, narrowed := true }
def SignedKnownUptoSaid : Prop := signedKnownUptoRow.holds Try.pinned (OpenSpec.upto signedKnownSpec)

/-- 'artesianlaw04.SignedRing', WHERE WHAT IT READS IS OF BULK AT MOST 1048576: true; the input reads as it did. -/
def signedRingUptoRow : OpenClaim := { program := "ytlljljhiimeajaa", sum := "6d20eba6d251ae086abfcc52b332fa37ea518855f6fede4bce4ea4b8948178dc", func := "artesian/artesianlaw04.SignedRing", spec := "signedRing", inPlace := ["math/bits.Add64", "math/bits.Sub64"], unfollowed := true, recurses := true, apart := false, narrowed := true }
def SignedRingUptoSaid : Prop := signedRingUptoRow.holds Try.pinned (OpenSpec.upto signedRingSpec)

/-- 'artesianlaw04.SignedOrder', WHERE WHAT IT READS IS OF BULK AT MOST 1048576: true; the input reads as it did. -/
def signedOrderUptoRow : OpenClaim := { program := "ytlljljhiimeajaa", sum := "6d20eba6d251ae086abfcc52b332fa37ea518855f6fede4bce4ea4b8948178dc", func := "artesian/artesianlaw04.SignedOrder", spec := "signedOrder", inPlace := ["math/bits.Add64", "math/bits.Sub64"], unfollowed := true, recurses := true, apart := false, narrowed := true }
def SignedOrderUptoSaid : Prop := signedOrderUptoRow.holds Try.pinned (OpenSpec.upto signedOrderSpec)

/-- 'artesianlaw04.SignedInts', WHERE WHAT IT READS IS OF BULK AT MOST 1048576: true; the input reads as it did. -/
def signedIntsUptoRow : OpenClaim := { program := "ytlljljhiimeajaa", sum := "6d20eba6d251ae086abfcc52b332fa37ea518855f6fede4bce4ea4b8948178dc", func := "artesian/artesianlaw04.SignedInts", spec := "signedInts", inPlace := ["math/bits.Add64", "math/bits.Sub64"], unfollowed := true, recurses := true, apart := false, narrowed := true }
def SignedIntsUptoSaid : Prop := signedIntsUptoRow.holds Try.pinned (OpenSpec.upto signedIntsSpec)

/-- 'artesianlaw02.TimesBits', WHERE WHAT IT READS IS OF BULK AT MOST 1048576: true; the input reads as it did. -/
def timesBitsUptoRow : OpenClaim := { program := "ytlljljhiimeajaa", sum := "6d20eba6d251ae086abfcc52b332fa37ea518855f6fede4bce4ea4b8948178dc", func := "artesian/artesianlaw02.TimesBits", spec := "timesBits", inPlace := ["math/bits.Add64", "math/bits.Sub64"], unfollowed := true, recurses := true, apart := false, narrowed := true }
def TimesBitsUptoSaid : Prop := timesBitsUptoRow.holds Try.pinned (OpenSpec.upto timesBitsSpec)

end Rows
end Go.Proofs.Ytlljljhiimeajaa
