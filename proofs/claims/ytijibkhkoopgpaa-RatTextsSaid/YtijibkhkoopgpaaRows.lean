/-
  No cell of these rows narrows 'for every input' (looked for: loops, veiled, ifaces, maps, wideKeys, modest, calm, conditions, laid).
  DERIVED. THE GIVEN ROWS OF THIS SEAT. 12 by the template 'for every input the law returns true; each argument reads behind the call as it read before'; 0 by the template 'total and deterministic' (their statements: YtijibkhkoopgpaaTotals.lean).
  GIVEN WITH THE SEED: the statements are not yours to turn. If you find one false, say at which input.
  Laid BY PROGRAM, IN A SANDBOX (cutbox-rows.mjs): the forced cells as the released guide's own fill.sh prints them over the translation 49fa54d5c07b092f… (all of the seat's roots in one cut). By AI agents, Wed Nov 11 2026. No macro, syntax, notation, axiom, sorry.
-/
import Derived.Test.YtijibkhkoopgpaaChecked
import GoSem.Claim
import GoSem.ClaimJoined
import GoSem.ClaimMapViews
import Derived.JoinedTies
import Derived.KernelRfl
namespace Go.Proofs.Ytijibkhkoopgpaa
/- THE CELL 'sum', in the pinned program and in every row, IS THE sha256 OF THE DUMP (.gsa) THAT YtijibkhkoopgpaaProg.lean LOADS. Nothing in Lean hashes anything: it is a label: what it is worth is what the hold of that sum in a sandbox is worth. -/
noncomputable def Try.pinned : Pinned := { name := "ytijibkhkoopgpaa", sum := "49fa54d5c07b092f74ddf240fdbf6d76d25fde3913d047c2c7abc97852c56128", checked := Try.checked }
namespace Rows
def none {H : Type} : Left H := { results := [], args := [] }

/-- 'glyphlaw02.RatMakes': WHATEVER THE INPUT: true; the input reads as it did. -/
def ratMakesSpec : ChangeSpec := { name := "ratMakes", fn := fun _ => fun
  | [d1, d2, d3] => { results := [.lit (.bool true)], args := [d1, d2, d3] }
  | _ => none }
def ratMakesRow : OpenClaim := { program := "ytijibkhkoopgpaa", sum := "49fa54d5c07b092f74ddf240fdbf6d76d25fde3913d047c2c7abc97852c56128", func := "glyph/glyphlaw02.RatMakes", spec := "ratMakes", unfollowed := true, recurses := true, named := ["math/bits.overflowError"], apart := false }
def RatMakesSaid : Prop := ratMakesRow.holds Try.pinned (OpenSpec.ofChange ratMakesSpec)

/-- ITS FALSE NEIGHBOUR: 'it returns false'. Refute it at one input. -/
def ratMakesWrong : ChangeSpec := { name := "ratMakes", fn := fun _ => fun
  | [d1, d2, d3] => { results := [.lit (.bool false)], args := [d1, d2, d3] }
  | _ => none }
def RatMakesWrongFalsely : Prop := ratMakesRow.holds Try.pinned (OpenSpec.ofChange ratMakesWrong)

/-- 'glyphlaw02.RatTexts': WHATEVER THE INPUT: true; the input reads as it did. -/
def ratTextsSpec : ChangeSpec := { name := "ratTexts", fn := fun _ => fun
  | [d1, d2] => { results := [.lit (.bool true)], args := [d1, d2] }
  | _ => none }
def ratTextsRow : OpenClaim := { program := "ytijibkhkoopgpaa", sum := "49fa54d5c07b092f74ddf240fdbf6d76d25fde3913d047c2c7abc97852c56128", func := "glyph/glyphlaw02.RatTexts", spec := "ratTexts", unfollowed := true, recurses := true, named := ["math/bits.overflowError"], apart := false }
def RatTextsSaid : Prop := ratTextsRow.holds Try.pinned (OpenSpec.ofChange ratTextsSpec)

/-- ITS FALSE NEIGHBOUR: 'it returns false'. Refute it at one input. -/
def ratTextsWrong : ChangeSpec := { name := "ratTexts", fn := fun _ => fun
  | [d1, d2] => { results := [.lit (.bool false)], args := [d1, d2] }
  | _ => none }
def RatTextsWrongFalsely : Prop := ratTextsRow.holds Try.pinned (OpenSpec.ofChange ratTextsWrong)

/-- 'glyphlaw02.RatInts': WHATEVER THE INPUT: true; the input reads as it did. -/
def ratIntsSpec : ChangeSpec := { name := "ratInts", fn := fun _ => fun
  | [d1, d2] => { results := [.lit (.bool true)], args := [d1, d2] }
  | _ => none }
def ratIntsRow : OpenClaim := { program := "ytijibkhkoopgpaa", sum := "49fa54d5c07b092f74ddf240fdbf6d76d25fde3913d047c2c7abc97852c56128", func := "glyph/glyphlaw02.RatInts", spec := "ratInts", unfollowed := true, recurses := true, named := ["math/bits.overflowError"], apart := false }
def RatIntsSaid : Prop := ratIntsRow.holds Try.pinned (OpenSpec.ofChange ratIntsSpec)

/-- ITS FALSE NEIGHBOUR: 'it returns false'. Refute it at one input. -/
def ratIntsWrong : ChangeSpec := { name := "ratInts", fn := fun _ => fun
  | [d1, d2] => { results := [.lit (.bool false)], args := [d1, d2] }
  | _ => none }
def RatIntsWrongFalsely : Prop := ratIntsRow.holds Try.pinned (OpenSpec.ofChange ratIntsWrong)

/-- 'glyphtop.TopField': WHATEVER THE INPUT: true; the input reads as it did. -/
def topFieldSpec : ChangeSpec := { name := "topField", fn := fun _ => fun
  | [d1, d2, d3] => { results := [.lit (.bool true)], args := [d1, d2, d3] }
  | _ => none }
def topFieldRow : OpenClaim := { program := "ytijibkhkoopgpaa", sum := "49fa54d5c07b092f74ddf240fdbf6d76d25fde3913d047c2c7abc97852c56128", func := "glyph/glyphtop.TopField", spec := "topField", unfollowed := true, recurses := true, named := ["math/bits.overflowError"], apart := false }
def TopFieldSaid : Prop := topFieldRow.holds Try.pinned (OpenSpec.ofChange topFieldSpec)

/-- ITS FALSE NEIGHBOUR: 'it returns false'. Refute it at one input. -/
def topFieldWrong : ChangeSpec := { name := "topField", fn := fun _ => fun
  | [d1, d2, d3] => { results := [.lit (.bool false)], args := [d1, d2, d3] }
  | _ => none }
def TopFieldWrongFalsely : Prop := topFieldRow.holds Try.pinned (OpenSpec.ofChange topFieldWrong)

/-- 'glyphlaw02.RatOrders': WHATEVER THE INPUT: true; the input reads as it did. -/
def ratOrdersSpec : ChangeSpec := { name := "ratOrders", fn := fun _ => fun
  | [d1, d2, d3] => { results := [.lit (.bool true)], args := [d1, d2, d3] }
  | _ => none }
def ratOrdersRow : OpenClaim := { program := "ytijibkhkoopgpaa", sum := "49fa54d5c07b092f74ddf240fdbf6d76d25fde3913d047c2c7abc97852c56128", func := "glyph/glyphlaw02.RatOrders", spec := "ratOrders", unfollowed := true, recurses := true, named := ["math/bits.overflowError"], apart := false }
def RatOrdersSaid : Prop := ratOrdersRow.holds Try.pinned (OpenSpec.ofChange ratOrdersSpec)

/-- ITS FALSE NEIGHBOUR: 'it returns false'. Refute it at one input. -/
def ratOrdersWrong : ChangeSpec := { name := "ratOrders", fn := fun _ => fun
  | [d1, d2, d3] => { results := [.lit (.bool false)], args := [d1, d2, d3] }
  | _ => none }
def RatOrdersWrongFalsely : Prop := ratOrdersRow.holds Try.pinned (OpenSpec.ofChange ratOrdersWrong)

/-- 'glyphlaw02.RatPowers': WHATEVER THE INPUT: true; the input reads as it did. -/
def ratPowersSpec : ChangeSpec := { name := "ratPowers", fn := fun _ => fun
  | [d1, d2] => { results := [.lit (.bool true)], args := [d1, d2] }
  | _ => none }
def ratPowersRow : OpenClaim := { program := "ytijibkhkoopgpaa", sum := "49fa54d5c07b092f74ddf240fdbf6d76d25fde3913d047c2c7abc97852c56128", func := "glyph/glyphlaw02.RatPowers", spec := "ratPowers", unfollowed := true, recurses := true, named := ["math/bits.overflowError"], apart := false }
def RatPowersSaid : Prop := ratPowersRow.holds Try.pinned (OpenSpec.ofChange ratPowersSpec)

/-- ITS FALSE NEIGHBOUR: 'it returns false'. Refute it at one input. -/
def ratPowersWrong : ChangeSpec := { name := "ratPowers", fn := fun _ => fun
  | [d1, d2] => { results := [.lit (.bool false)], args := [d1, d2] }
  | _ => none }
def RatPowersWrongFalsely : Prop := ratPowersRow.holds Try.pinned (OpenSpec.ofChange ratPowersWrong)

/-- 'glyphlaw02.RatReckons': WHATEVER THE INPUT: true; the input reads as it did. -/
def ratReckonsSpec : ChangeSpec := { name := "ratReckons", fn := fun _ => fun
  | [d1, d2, d3] => { results := [.lit (.bool true)], args := [d1, d2, d3] }
  | _ => none }
def ratReckonsRow : OpenClaim := { program := "ytijibkhkoopgpaa", sum := "49fa54d5c07b092f74ddf240fdbf6d76d25fde3913d047c2c7abc97852c56128", func := "glyph/glyphlaw02.RatReckons", spec := "ratReckons", unfollowed := true, recurses := true, named := ["math/bits.overflowError"], apart := false }
def RatReckonsSaid : Prop := ratReckonsRow.holds Try.pinned (OpenSpec.ofChange ratReckonsSpec)

/-- ITS FALSE NEIGHBOUR: 'it returns false'. Refute it at one input. -/
def ratReckonsWrong : ChangeSpec := { name := "ratReckons", fn := fun _ => fun
  | [d1, d2, d3] => { results := [.lit (.bool false)], args := [d1, d2, d3] }
  | _ => none }
def RatReckonsWrongFalsely : Prop := ratReckonsRow.holds Try.pinned (OpenSpec.ofChange ratReckonsWrong)

/-- 'glyphlaw02.RatPascal': WHATEVER THE INPUT: true; the input reads as it did. -/
def ratPascalSpec : ChangeSpec := { name := "ratPascal", fn := fun _ => fun
  | [d1, d2] => { results := [.lit (.bool true)], args := [d1, d2] }
  | _ => none }
def ratPascalRow : OpenClaim := { program := "ytijibkhkoopgpaa", sum := "49fa54d5c07b092f74ddf240fdbf6d76d25fde3913d047c2c7abc97852c56128", func := "glyph/glyphlaw02.RatPascal", spec := "ratPascal", unfollowed := true, recurses := true, named := ["math/bits.overflowError"], apart := false }
def RatPascalSaid : Prop := ratPascalRow.holds Try.pinned (OpenSpec.ofChange ratPascalSpec)

/-- ITS FALSE NEIGHBOUR: 'it returns false'. Refute it at one input. -/
def ratPascalWrong : ChangeSpec := { name := "ratPascal", fn := fun _ => fun
  | [d1, d2] => { results := [.lit (.bool false)], args := [d1, d2] }
  | _ => none }
def RatPascalWrongFalsely : Prop := ratPascalRow.holds Try.pinned (OpenSpec.ofChange ratPascalWrong)

/-- 'glyphlaw02.RatBack': WHATEVER THE INPUT: true; the input reads as it did. -/
def ratBackSpec : ChangeSpec := { name := "ratBack", fn := fun _ => fun
  | [d1, d2] => { results := [.lit (.bool true)], args := [d1, d2] }
  | _ => none }
def ratBackRow : OpenClaim := { program := "ytijibkhkoopgpaa", sum := "49fa54d5c07b092f74ddf240fdbf6d76d25fde3913d047c2c7abc97852c56128", func := "glyph/glyphlaw02.RatBack", spec := "ratBack", unfollowed := true, recurses := true, named := ["math/bits.overflowError"], apart := false }
def RatBackSaid : Prop := ratBackRow.holds Try.pinned (OpenSpec.ofChange ratBackSpec)

/-- ITS FALSE NEIGHBOUR: 'it returns false'. Refute it at one input. -/
def ratBackWrong : ChangeSpec := { name := "ratBack", fn := fun _ => fun
  | [d1, d2] => { results := [.lit (.bool false)], args := [d1, d2] }
  | _ => none }
def RatBackWrongFalsely : Prop := ratBackRow.holds Try.pinned (OpenSpec.ofChange ratBackWrong)

/-- 'glyphlaw02.RatCompares': WHATEVER THE INPUT: true; the input reads as it did. -/
def ratComparesSpec : ChangeSpec := { name := "ratCompares", fn := fun _ => fun
  | [d1, d2, d3] => { results := [.lit (.bool true)], args := [d1, d2, d3] }
  | _ => none }
def ratComparesRow : OpenClaim := { program := "ytijibkhkoopgpaa", sum := "49fa54d5c07b092f74ddf240fdbf6d76d25fde3913d047c2c7abc97852c56128", func := "glyph/glyphlaw02.RatCompares", spec := "ratCompares", unfollowed := true, recurses := true, named := ["math/bits.overflowError"], apart := false }
def RatComparesSaid : Prop := ratComparesRow.holds Try.pinned (OpenSpec.ofChange ratComparesSpec)

/-- ITS FALSE NEIGHBOUR: 'it returns false'. Refute it at one input. -/
def ratComparesWrong : ChangeSpec := { name := "ratCompares", fn := fun _ => fun
  | [d1, d2, d3] => { results := [.lit (.bool false)], args := [d1, d2, d3] }
  | _ => none }
def RatComparesWrongFalsely : Prop := ratComparesRow.holds Try.pinned (OpenSpec.ofChange ratComparesWrong)

/-- 'glyphlaw02.RatRounds': WHATEVER THE INPUT: true; the input reads as it did. -/
def ratRoundsSpec : ChangeSpec := { name := "ratRounds", fn := fun _ => fun
  | [d] => { results := [.lit (.bool true)], args := [d] }
  | _ => none }
def ratRoundsRow : OpenClaim := { program := "ytijibkhkoopgpaa", sum := "49fa54d5c07b092f74ddf240fdbf6d76d25fde3913d047c2c7abc97852c56128", func := "glyph/glyphlaw02.RatRounds", spec := "ratRounds", unfollowed := true, recurses := true, named := ["math/bits.overflowError"], apart := false }
def RatRoundsSaid : Prop := ratRoundsRow.holds Try.pinned (OpenSpec.ofChange ratRoundsSpec)

/-- ITS FALSE NEIGHBOUR: 'it returns false'. Refute it at one input. -/
def ratRoundsWrong : ChangeSpec := { name := "ratRounds", fn := fun _ => fun
  | [d] => { results := [.lit (.bool false)], args := [d] }
  | _ => none }
def RatRoundsWrongFalsely : Prop := ratRoundsRow.holds Try.pinned (OpenSpec.ofChange ratRoundsWrong)

/-- 'glyphlaw02.RatResidues': WHATEVER THE INPUT: true; the input reads as it did. -/
def ratResiduesSpec : ChangeSpec := { name := "ratResidues", fn := fun _ => fun
  | [d1, d2] => { results := [.lit (.bool true)], args := [d1, d2] }
  | _ => none }
def ratResiduesRow : OpenClaim := { program := "ytijibkhkoopgpaa", sum := "49fa54d5c07b092f74ddf240fdbf6d76d25fde3913d047c2c7abc97852c56128", func := "glyph/glyphlaw02.RatResidues", spec := "ratResidues", unfollowed := true, recurses := true, named := ["math/bits.overflowError"], apart := false }
def RatResiduesSaid : Prop := ratResiduesRow.holds Try.pinned (OpenSpec.ofChange ratResiduesSpec)

/-- ITS FALSE NEIGHBOUR: 'it returns false'. Refute it at one input. -/
def ratResiduesWrong : ChangeSpec := { name := "ratResidues", fn := fun _ => fun
  | [d1, d2] => { results := [.lit (.bool false)], args := [d1, d2] }
  | _ => none }
def RatResiduesWrongFalsely : Prop := ratResiduesRow.holds Try.pinned (OpenSpec.ofChange ratResiduesWrong)

/- THE SECOND FORM. 'bulk': how many values and letters a reading holds, each counted each time it is reached (what is shared counts as often as it is met; a slice's spare places count too). A statement '..UptoSaid' is the law's where the arguments, and the package variables that the reading takes, are together of bulk at most 1048576: NARROWER than '..Said'. Prove '..Said' where nothing that the law and all that it calls make is longer than what came in: it says more and counts as full. Else prove '..UptoSaid'. A law counts once. -/
mutual
def uptoBulk {H : Type} : DataW H → Nat
  | .lit (.string bytes) => bytes.length + 1
  | .lit _ => 1
  | .nil => 1
  | .ptr d => uptoBulk d + 1
  | .slice elems spare => uptoBulkAll elems + uptoBulkAll spare + 1
  | .agg parts => uptoBulkAll parts + 1
  | .iface _ d => uptoBulk d + 1
  | .map entries => uptoBulkEntries entries + 1
  | .held _ => 1
def uptoBulkAll {H : Type} : List (DataW H) → Nat
  | [] => 0
  | d :: r => uptoBulk d + uptoBulkAll r
def uptoBulkEntries {H : Type} : List (Lit × DataW H) → Nat
  | [] => 0
  | x :: r => uptoBulkEntry x + uptoBulkEntries r
def uptoBulkEntry {H : Type} : Lit × DataW H → Nat
  | (.string bytes, d) => bytes.length + uptoBulk d + 1
  | (_, d) => uptoBulk d + 1
 end
def uptoSmall : (H : Type) → List (DataW H) → Bool := fun _ ds => decide (uptoBulkAll ds ≤ 1048576)
def OpenSpec.upto (s : _root_.Go.ChangeSpec) : _root_.Go.OpenSpec := { _root_.Go.OpenSpec.ofChange s with cond := some uptoSmall }

/-- 'glyphlaw02.RatMakes', WHERE WHAT IT READS IS OF BULK AT MOST 1048576: true; the input reads as it did. -/
def ratMakesUptoRow : OpenClaim := { program := "ytijibkhkoopgpaa", sum := "49fa54d5c07b092f74ddf240fdbf6d76d25fde3913d047c2c7abc97852c56128", func := "glyph/glyphlaw02.RatMakes", spec := "ratMakes", unfollowed := true, recurses := true, named := ["math/bits.overflowError"], apart := false, narrowed := true }
def RatMakesUptoSaid : Prop := ratMakesUptoRow.holds Try.pinned (OpenSpec.upto ratMakesSpec)

/-- 'glyphlaw02.RatTexts', WHERE WHAT IT READS IS OF BULK AT MOST 1048576: true; the input reads as it did. -/
def ratTextsUptoRow : OpenClaim := { program := "ytijibkhkoopgpaa", sum := "49fa54d5c07b092f74ddf240fdbf6d76d25fde3913d047c2c7abc97852c56128", func := "glyph/glyphlaw02.RatTexts", spec := "ratTexts", unfollowed := true, recurses := true, named := ["math/bits.overflowError"], apart := false, narrowed := true }
def RatTextsUptoSaid : Prop := ratTextsUptoRow.holds Try.pinned (OpenSpec.upto ratTextsSpec)

/-- 'glyphlaw02.RatInts', WHERE WHAT IT READS IS OF BULK AT MOST 1048576: true; the input reads as it did. -/
def ratIntsUptoRow : OpenClaim := { program := "ytijibkhkoopgpaa", sum := "49fa54d5c07b092f74ddf240fdbf6d76d25fde3913d047c2c7abc97852c56128", func := "glyph/glyphlaw02.RatInts", spec := "ratInts", unfollowed := true, recurses := true, named := ["math/bits.overflowError"], apart := false, narrowed := true }
def RatIntsUptoSaid : Prop := ratIntsUptoRow.holds Try.pinned (OpenSpec.upto ratIntsSpec)

/-- 'glyphtop.TopField', WHERE WHAT IT READS IS OF BULK AT MOST 1048576: true; the input reads as it did. -/
def topFieldUptoRow : OpenClaim := { program := "ytijibkhkoopgpaa", sum := "49fa54d5c07b092f74ddf240fdbf6d76d25fde3913d047c2c7abc97852c56128", func := "glyph/glyphtop.TopField", spec := "topField", unfollowed := true, recurses := true, named := ["math/bits.overflowError"], apart := false, narrowed := true }
def TopFieldUptoSaid : Prop := topFieldUptoRow.holds Try.pinned (OpenSpec.upto topFieldSpec)

/-- 'glyphlaw02.RatOrders', WHERE WHAT IT READS IS OF BULK AT MOST 1048576: true; the input reads as it did. -/
def ratOrdersUptoRow : OpenClaim := { program := "ytijibkhkoopgpaa", sum := "49fa54d5c07b092f74ddf240fdbf6d76d25fde3913d047c2c7abc97852c56128", func := "glyph/glyphlaw02.RatOrders", spec := "ratOrders", unfollowed := true, recurses := true, named := ["math/bits.overflowError"], apart := false, narrowed := true }
def RatOrdersUptoSaid : Prop := ratOrdersUptoRow.holds Try.pinned (OpenSpec.upto ratOrdersSpec)

/-- 'glyphlaw02.RatPowers', WHERE WHAT IT READS IS OF BULK AT MOST 1048576: true; the input reads as it did. -/
def ratPowersUptoRow : OpenClaim := { program := "ytijibkhkoopgpaa", sum := "49fa54d5c07b092f74ddf240fdbf6d76d25fde3913d047c2c7abc97852c56128", func := "glyph/glyphlaw02.RatPowers", spec := "ratPowers", unfollowed := true, recurses := true, named := ["math/bits.overflowError"], apart := false, narrowed := true }
def RatPowersUptoSaid : Prop := ratPowersUptoRow.holds Try.pinned (OpenSpec.upto ratPowersSpec)

/-- 'glyphlaw02.RatReckons', WHERE WHAT IT READS IS OF BULK AT MOST 1048576: true; the input reads as it did. -/
def ratReckonsUptoRow : OpenClaim := { program := "ytijibkhkoopgpaa", sum := "49fa54d5c07b092f74ddf240fdbf6d76d25fde3913d047c2c7abc97852c56128", func := "glyph/glyphlaw02.RatReckons", spec := "ratReckons", unfollowed := true, recurses := true, named := ["math/bits.overflowError"], apart := false, narrowed := true }
def RatReckonsUptoSaid : Prop := ratReckonsUptoRow.holds Try.pinned (OpenSpec.upto ratReckonsSpec)

/-- 'glyphlaw02.RatPascal', WHERE WHAT IT READS IS OF BULK AT MOST 1048576: true; the input reads as it did. -/
def ratPascalUptoRow : OpenClaim := { program := "ytijibkhkoopgpaa", sum := "49fa54d5c07b092f74ddf240fdbf6d76d25fde3913d047c2c7abc97852c56128", func := "glyph/glyphlaw02.RatPascal", spec := "ratPascal", unfollowed := true, recurses := true, named := ["math/bits.overflowError"], apart := false, narrowed := true }
def RatPascalUptoSaid : Prop := ratPascalUptoRow.holds Try.pinned (OpenSpec.upto ratPascalSpec)

/-- 'glyphlaw02.RatBack', WHERE WHAT IT READS IS OF BULK AT MOST 1048576: true; the input reads as it did. -/
def ratBackUptoRow : OpenClaim := { program := "ytijibkhkoopgpaa", sum := "49fa54d5c07b092f74ddf240fdbf6d76d25fde3913d047c2c7abc97852c56128", func := "glyph/glyphlaw02.RatBack", spec := "ratBack", unfollowed := true, recurses := true, named := ["math/bits.overflowError"], apart := false, narrowed := true }
def RatBackUptoSaid : Prop := ratBackUptoRow.holds Try.pinned (OpenSpec.upto ratBackSpec)

/-- 'glyphlaw02.RatCompares', WHERE WHAT IT READS IS OF BULK AT MOST 1048576: true; the input reads as it did. -/
def ratComparesUptoRow : OpenClaim := { program := "ytijibkhkoopgpaa", sum := "49fa54d5c07b092f74ddf240fdbf6d76d25fde3913d047c2c7abc97852c56128", func := "glyph/glyphlaw02.RatCompares", spec := "ratCompares", unfollowed := true, recurses := true, named := ["math/bits.overflowError"], apart := false, narrowed := true }
def RatComparesUptoSaid : Prop := ratComparesUptoRow.holds Try.pinned (OpenSpec.upto ratComparesSpec)

/-- 'glyphlaw02.RatRounds', WHERE WHAT IT READS IS OF BULK AT MOST 1048576: true; the input reads as it did. -/
def ratRoundsUptoRow : OpenClaim := { program := "ytijibkhkoopgpaa", sum := "49fa54d5c07b092f74ddf240fdbf6d76d25fde3913d047c2c7abc97852c56128", func := "glyph/glyphlaw02.RatRounds", spec := "ratRounds", unfollowed := true, recurses := true, named := ["math/bits.overflowError"], apart := false, narrowed := true }
def RatRoundsUptoSaid : Prop := ratRoundsUptoRow.holds Try.pinned (OpenSpec.upto ratRoundsSpec)

/-- 'glyphlaw02.RatResidues', WHERE WHAT IT READS IS OF BULK AT MOST 1048576: true; the input reads as it did. -/
def ratResiduesUptoRow : OpenClaim := { program := "ytijibkhkoopgpaa", sum := "49fa54d5c07b092f74ddf240fdbf6d76d25fde3913d047c2c7abc97852c56128", func := "glyph/glyphlaw02.RatResidues", spec := "ratResidues", unfollowed := true, recurses := true, named := ["math/bits.overflowError"], apart := false, narrowed := true }
def RatResiduesUptoSaid : Prop := ratResiduesUptoRow.holds Try.pinned (OpenSpec.upto ratResiduesSpec)

end Rows
end Go.Proofs.Ytijibkhkoopgpaa
