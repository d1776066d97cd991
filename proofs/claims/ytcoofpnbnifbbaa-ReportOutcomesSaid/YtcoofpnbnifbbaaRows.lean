/-
  NARROWER THAN 'FOR EVERY INPUT', by the rows' own cells (each row's printed sentence says how): ArrayDeeper: loops · ArrayBack: loops.
  DERIVED. THE GIVEN ROWS OF THIS SEAT. 9 by the template 'for every input the law returns true; each argument reads behind the call as it read before'; 0 by the template 'total and deterministic' (their statements: YtcoofpnbnifbbaaTotals.lean).
  GIVEN WITH THE SEED: the statements are not yours to turn. If you find one false, say at which input.
  Laid BY PROGRAM, IN A SANDBOX (cutbox-rows.mjs): the forced cells as the released guide's own fill.sh prints them over the translation 759b81079a87a0f1… (all of the seat's roots in one cut). By AI agents, Wed Nov 11 2026. No macro, syntax, notation, axiom, sorry.
-/
import Derived.Test.YtcoofpnbnifbbaaChecked
import GoSem.Claim
import GoSem.ClaimJoined
import GoSem.ClaimMapViews
import Derived.JoinedTies
import Derived.KernelRfl
namespace Go.Proofs.Ytcoofpnbnifbbaa
/- THE CELL 'sum', in the pinned program and in every row, IS THE sha256 OF THE DUMP (.gsa) THAT YtcoofpnbnifbbaaProg.lean LOADS. Nothing in Lean hashes anything: it is a label: what it is worth is what the hold of that sum in a sandbox is worth. -/
noncomputable def Try.pinned : Pinned := { name := "ytcoofpnbnifbbaa", sum := "759b81079a87a0f1b53d5d5defcddb24f3259af05091c38028e4c7a3a286ea32", checked := Try.checked }
namespace Rows
def none {H : Type} : Left H := { results := [], args := [] }

/-- 'glyphlaw03.ArrayDeeper': WHATEVER THE INPUT: true; the input reads as it did. -/
def arrayDeeperSpec : ChangeSpec := { name := "arrayDeeper", fn := fun _ => fun
  | [d] => { results := [.lit (.bool true)], args := [d] }
  | _ => none }
def arrayDeeperRow : OpenClaim := { program := "ytcoofpnbnifbbaa", sum := "759b81079a87a0f1b53d5d5defcddb24f3259af05091c38028e4c7a3a286ea32", func := "glyph/glyphlaw03.ArrayDeeper", spec := "arrayDeeper", unfollowed := true, recurses := true, named := ["math/bits.overflowError"], loops := true, apart := false }
def ArrayDeeperSaid : Prop := arrayDeeperRow.holds Try.pinned (OpenSpec.ofChange arrayDeeperSpec)

/-- ITS FALSE NEIGHBOUR: 'it returns false'. Refute it at one input. -/
def arrayDeeperWrong : ChangeSpec := { name := "arrayDeeper", fn := fun _ => fun
  | [d] => { results := [.lit (.bool false)], args := [d] }
  | _ => none }
def ArrayDeeperWrongFalsely : Prop := arrayDeeperRow.holds Try.pinned (OpenSpec.ofChange arrayDeeperWrong)

/-- 'glyphlaw03.ArrayInts': WHATEVER THE INPUT: true; the input reads as it did. -/
def arrayIntsSpec : ChangeSpec := { name := "arrayInts", fn := fun _ => fun
  | [d] => { results := [.lit (.bool true)], args := [d] }
  | _ => none }
def arrayIntsRow : OpenClaim := { program := "ytcoofpnbnifbbaa", sum := "759b81079a87a0f1b53d5d5defcddb24f3259af05091c38028e4c7a3a286ea32", func := "glyph/glyphlaw03.ArrayInts", spec := "arrayInts", unfollowed := true, recurses := true, named := ["math/bits.overflowError"], apart := false }
def ArrayIntsSaid : Prop := arrayIntsRow.holds Try.pinned (OpenSpec.ofChange arrayIntsSpec)

/-- ITS FALSE NEIGHBOUR: 'it returns false'. Refute it at one input. -/
def arrayIntsWrong : ChangeSpec := { name := "arrayInts", fn := fun _ => fun
  | [d] => { results := [.lit (.bool false)], args := [d] }
  | _ => none }
def ArrayIntsWrongFalsely : Prop := arrayIntsRow.holds Try.pinned (OpenSpec.ofChange arrayIntsWrong)

/-- 'glyphlaw14.ReportLines': WHATEVER THE INPUT: true; the input reads as it did. -/
def reportLinesSpec : ChangeSpec := { name := "reportLines", fn := fun _ => fun
  | [d1, d2] => { results := [.lit (.bool true)], args := [d1, d2] }
  | _ => none }
def reportLinesRow : OpenClaim := { program := "ytcoofpnbnifbbaa", sum := "759b81079a87a0f1b53d5d5defcddb24f3259af05091c38028e4c7a3a286ea32", func := "glyph/glyphlaw14.ReportLines", spec := "reportLines", inPlace := ["internal/abi.NoEscape", "internal/bytealg.MakeNoZero"], unfollowed := true, recurses := true, named := ["math/bits.overflowError"], apart := false }
def ReportLinesSaid : Prop := reportLinesRow.holds Try.pinned (OpenSpec.ofChange reportLinesSpec)

/-- ITS FALSE NEIGHBOUR: 'it returns false'. Refute it at one input. -/
def reportLinesWrong : ChangeSpec := { name := "reportLines", fn := fun _ => fun
  | [d1, d2] => { results := [.lit (.bool false)], args := [d1, d2] }
  | _ => none }
def ReportLinesWrongFalsely : Prop := reportLinesRow.holds Try.pinned (OpenSpec.ofChange reportLinesWrong)

/-- 'glyphlaw14.ReportCarets': WHATEVER THE INPUT: true; the input reads as it did. -/
def reportCaretsSpec : ChangeSpec := { name := "reportCarets", fn := fun _ => fun
  | [d1, d2] => { results := [.lit (.bool true)], args := [d1, d2] }
  | _ => none }
def reportCaretsRow : OpenClaim := { program := "ytcoofpnbnifbbaa", sum := "759b81079a87a0f1b53d5d5defcddb24f3259af05091c38028e4c7a3a286ea32", func := "glyph/glyphlaw14.ReportCarets", spec := "reportCarets", inPlace := ["internal/abi.NoEscape", "internal/bytealg.MakeNoZero"], unfollowed := true, recurses := true, named := ["math/bits.overflowError"], apart := false }
def ReportCaretsSaid : Prop := reportCaretsRow.holds Try.pinned (OpenSpec.ofChange reportCaretsSpec)

/-- ITS FALSE NEIGHBOUR: 'it returns false'. Refute it at one input. -/
def reportCaretsWrong : ChangeSpec := { name := "reportCarets", fn := fun _ => fun
  | [d1, d2] => { results := [.lit (.bool false)], args := [d1, d2] }
  | _ => none }
def ReportCaretsWrongFalsely : Prop := reportCaretsRow.holds Try.pinned (OpenSpec.ofChange reportCaretsWrong)

/-- 'glyphlaw03.ArraySimple': WHATEVER THE INPUT: true; the input reads as it did. -/
def arraySimpleSpec : ChangeSpec := { name := "arraySimple", fn := fun _ => fun
  | [d1, d2, d3] => { results := [.lit (.bool true)], args := [d1, d2, d3] }
  | _ => none }
def arraySimpleRow : OpenClaim := { program := "ytcoofpnbnifbbaa", sum := "759b81079a87a0f1b53d5d5defcddb24f3259af05091c38028e4c7a3a286ea32", func := "glyph/glyphlaw03.ArraySimple", spec := "arraySimple", unfollowed := true, recurses := true, named := ["math/bits.overflowError"], apart := false }
def ArraySimpleSaid : Prop := arraySimpleRow.holds Try.pinned (OpenSpec.ofChange arraySimpleSpec)

/-- ITS FALSE NEIGHBOUR: 'it returns false'. Refute it at one input. -/
def arraySimpleWrong : ChangeSpec := { name := "arraySimple", fn := fun _ => fun
  | [d1, d2, d3] => { results := [.lit (.bool false)], args := [d1, d2, d3] }
  | _ => none }
def ArraySimpleWrongFalsely : Prop := arraySimpleRow.holds Try.pinned (OpenSpec.ofChange arraySimpleWrong)

/-- 'glyphlaw14.ReportTexts': WHATEVER THE INPUT: true; the input reads as it did. -/
def reportTextsSpec : ChangeSpec := { name := "reportTexts", fn := fun _ => fun
  | [d1, d2] => { results := [.lit (.bool true)], args := [d1, d2] }
  | _ => none }
def reportTextsRow : OpenClaim := { program := "ytcoofpnbnifbbaa", sum := "759b81079a87a0f1b53d5d5defcddb24f3259af05091c38028e4c7a3a286ea32", func := "glyph/glyphlaw14.ReportTexts", spec := "reportTexts", inPlace := ["internal/abi.NoEscape", "internal/bytealg.MakeNoZero"], unfollowed := true, recurses := true, named := ["math/bits.overflowError"], apart := false }
def ReportTextsSaid : Prop := reportTextsRow.holds Try.pinned (OpenSpec.ofChange reportTextsSpec)

/-- ITS FALSE NEIGHBOUR: 'it returns false'. Refute it at one input. -/
def reportTextsWrong : ChangeSpec := { name := "reportTexts", fn := fun _ => fun
  | [d1, d2] => { results := [.lit (.bool false)], args := [d1, d2] }
  | _ => none }
def ReportTextsWrongFalsely : Prop := reportTextsRow.holds Try.pinned (OpenSpec.ofChange reportTextsWrong)

/-- 'glyphlaw14.ReportBack': WHATEVER THE INPUT: true; the input reads as it did. -/
def reportBackSpec : ChangeSpec := { name := "reportBack", fn := fun _ => fun
  | [d] => { results := [.lit (.bool true)], args := [d] }
  | _ => none }
def reportBackRow : OpenClaim := { program := "ytcoofpnbnifbbaa", sum := "759b81079a87a0f1b53d5d5defcddb24f3259af05091c38028e4c7a3a286ea32", func := "glyph/glyphlaw14.ReportBack", spec := "reportBack", inPlace := ["internal/abi.NoEscape", "internal/bytealg.MakeNoZero"], unfollowed := true, recurses := true, named := ["math/bits.overflowError"], apart := false }
def ReportBackSaid : Prop := reportBackRow.holds Try.pinned (OpenSpec.ofChange reportBackSpec)

/-- ITS FALSE NEIGHBOUR: 'it returns false'. Refute it at one input. -/
def reportBackWrong : ChangeSpec := { name := "reportBack", fn := fun _ => fun
  | [d] => { results := [.lit (.bool false)], args := [d] }
  | _ => none }
def ReportBackWrongFalsely : Prop := reportBackRow.holds Try.pinned (OpenSpec.ofChange reportBackWrong)

/-- 'glyphlaw03.ArrayBack': WHATEVER THE INPUT: true; the input reads as it did. -/
def arrayBackSpec : ChangeSpec := { name := "arrayBack", fn := fun _ => fun
  | [d] => { results := [.lit (.bool true)], args := [d] }
  | _ => none }
def arrayBackRow : OpenClaim := { program := "ytcoofpnbnifbbaa", sum := "759b81079a87a0f1b53d5d5defcddb24f3259af05091c38028e4c7a3a286ea32", func := "glyph/glyphlaw03.ArrayBack", spec := "arrayBack", unfollowed := true, recurses := true, named := ["math/bits.overflowError"], loops := true, apart := false }
def ArrayBackSaid : Prop := arrayBackRow.holds Try.pinned (OpenSpec.ofChange arrayBackSpec)

/-- ITS FALSE NEIGHBOUR: 'it returns false'. Refute it at one input. -/
def arrayBackWrong : ChangeSpec := { name := "arrayBack", fn := fun _ => fun
  | [d] => { results := [.lit (.bool false)], args := [d] }
  | _ => none }
def ArrayBackWrongFalsely : Prop := arrayBackRow.holds Try.pinned (OpenSpec.ofChange arrayBackWrong)

/-- 'glyphlaw14.ReportOutcomes': WHATEVER THE INPUT: true; the input reads as it did. -/
def reportOutcomesSpec : ChangeSpec := { name := "reportOutcomes", fn := fun _ => fun
  | [d] => { results := [.lit (.bool true)], args := [d] }
  | _ => none }
def reportOutcomesRow : OpenClaim := { program := "ytcoofpnbnifbbaa", sum := "759b81079a87a0f1b53d5d5defcddb24f3259af05091c38028e4c7a3a286ea32", func := "glyph/glyphlaw14.ReportOutcomes", spec := "reportOutcomes", inPlace := ["internal/abi.NoEscape", "internal/bytealg.MakeNoZero"], unfollowed := true, recurses := true, named := ["math/bits.overflowError"], apart := false }
def ReportOutcomesSaid : Prop := reportOutcomesRow.holds Try.pinned (OpenSpec.ofChange reportOutcomesSpec)

/-- ITS FALSE NEIGHBOUR: 'it returns false'. Refute it at one input. -/
def reportOutcomesWrong : ChangeSpec := { name := "reportOutcomes", fn := fun _ => fun
  | [d] => { results := [.lit (.bool false)], args := [d] }
  | _ => none }
def ReportOutcomesWrongFalsely : Prop := reportOutcomesRow.holds Try.pinned (OpenSpec.ofChange reportOutcomesWrong)

/- THE SECOND FORM. 'bulk': how many values and letters a reading holds, each counted each time it is reached (what is shared counts as often as it is met; a slice's spare places count too). A statement '..UptoSaid' is the law's where the arguments, and the package variables that the reading takes, are together of bulk at most 1048576: NARROWER than '..Said'. Prove '..Said' where nothing that the law and all that it calls make is longer than what came in: it says more and counts as full. Else prove '..UptoSaid'. A law counts once. -/
mutual
def uptoBulk {H : Type} : DataW H → Nat
  | .lit (.string bytes) => bytes.length + 1
  | .lit _ => 1
  | .nil => 1
  | .ptr d => uptoBulk d + 1
  | .slice elems spare => uptoBulkAll elems + uptoBulkAll spare + 1
  | .agg parts => uptoBulkAll parts + 1
  | .iface _ d => uptoBulk d + 1
  | .map entries => uptoBulkEntries entries + 1
  | .held _ => 1
def uptoBulkAll {H : Type} : List (DataW H) → Nat
  | [] => 0
  | d :: r => uptoBulk d + uptoBulkAll r
def uptoBulkEntries {H : Type} : List (Lit × DataW H) → Nat
  | [] => 0
  | x :: r => uptoBulkEntry x + uptoBulkEntries r
def uptoBulkEntry {H : Type} : Lit × DataW H → Nat
  | (.string bytes, d) => bytes.length + uptoBulk d + 1
  | (_, d) => uptoBulk d + 1
 end
def uptoSmall : (H : Type) → List (DataW H) → Bool := fun _ ds => decide (uptoBulkAll ds ≤ 1048576)
def OpenSpec.upto (s : _root_.Go.ChangeSpec) : _root_.Go.OpenSpec := { _root_.Go.OpenSpec.ofChange s with cond := some uptoSmall }

/-- 'glyphlaw03.ArrayDeeper', WHERE WHAT IT READS IS OF BULK AT MOST 1048576: true; the input reads as it did. -/
def arrayDeeperUptoRow : OpenClaim := { program := "ytcoofpnbnifbbaa", sum := "759b81079a87a0f1b53d5d5defcddb24f3259af05091c38028e4c7a3a286ea32", func := "glyph/glyphlaw03.ArrayDeeper", spec := "arrayDeeper", unfollowed := true, recurses := true, named := ["math/bits.overflowError"], loops := true, apart := false, narrowed := true }
def ArrayDeeperUptoSaid : Prop := arrayDeeperUptoRow.holds Try.pinned (OpenSpec.upto arrayDeeperSpec)

/-- 'glyphlaw03.ArrayInts', WHERE WHAT IT READS IS OF BULK AT MOST 1048576: true; the input reads as it did. -/
def arrayIntsUptoRow : OpenClaim := { program := "ytcoofpnbnifbbaa", sum := "759b81079a87a0f1b53d5d5defcddb24f3259af05091c38028e4c7a3a286ea32", func := "glyph/glyphlaw03.ArrayInts", spec := "arrayInts", unfollowed := true, recurses := true, named := ["math/bits.overflowError"], apart := false, narrowed := true }
def ArrayIntsUptoSaid : Prop := arrayIntsUptoRow.holds Try.pinned (OpenSpec.upto arrayIntsSpec)

/-- 'glyphlaw14.ReportLines', WHERE WHAT IT READS IS OF BULK AT MOST 1048576: true; the input reads as it did. -/
def reportLinesUptoRow : OpenClaim := { program := "ytcoofpnbnifbbaa", sum := "759b81079a87a0f1b53d5d5defcddb24f3259af05091c38028e4c7a3a286ea32", func := "glyph/glyphlaw14.ReportLines", spec := "reportLines", inPlace := ["internal/abi.NoEscape", "internal/bytealg.MakeNoZero"], unfollowed := true, recurses := true, named := ["math/bits.overflowError"], apart := false, narrowed := true }
def ReportLinesUptoSaid : Prop := reportLinesUptoRow.holds Try.pinned (OpenSpec.upto reportLinesSpec)

/-- 'glyphlaw14.ReportCarets', WHERE WHAT IT READS IS OF BULK AT MOST 1048576: true; the input reads as it did. -/
def reportCaretsUptoRow : OpenClaim := { program := "ytcoofpnbnifbbaa", sum := "759b81079a87a0f1b53d5d5defcddb24f3259af05091c38028e4c7a3a286ea32", func := "glyph/glyphlaw14.ReportCarets", spec := "reportCarets", inPlace := ["internal/abi.NoEscape", "internal/bytealg.MakeNoZero"], unfollowed := true, recurses := true, named := ["math/bits.overflowError"], apart := false, narrowed := true }
def ReportCaretsUptoSaid : Prop := reportCaretsUptoRow.holds Try.pinned (OpenSpec.upto reportCaretsSpec)

/-- 'glyphlaw03.ArraySimple', WHERE WHAT IT READS IS OF BULK AT MOST 1048576: true; the input reads as it did. -/
def arraySimpleUptoRow : OpenClaim := { program := "ytcoofpnbnifbbaa", sum := "759b81079a87a0f1b53d5d5defcddb24f3259af05091c38028e4c7a3a286ea32", func := "glyph/glyphlaw03.ArraySimple", spec := "arraySimple", unfollowed := true, recurses := true, named := ["math/bits.overflowError"], apart := false, narrowed := true }
def ArraySimpleUptoSaid : Prop := arraySimpleUptoRow.holds Try.pinned (OpenSpec.upto arraySimpleSpec)

/-- 'glyphlaw14.ReportTexts', WHERE WHAT IT READS IS OF BULK AT MOST 1048576: true; the input reads as it did. -/
def reportTextsUptoRow : OpenClaim := { program := "ytcoofpnbnifbbaa", sum := "759b81079a87a0f1b53d5d5defcddb24f3259af05091c38028e4c7a3a286ea32", func := "glyph/glyphlaw14.ReportTexts", spec := "reportTexts", inPlace := ["internal/abi.NoEscape", "internal/bytealg.MakeNoZero"], unfollowed := true, recurses := true, named := ["math/bits.overflowError"], apart := false, narrowed := true }
def ReportTextsUptoSaid : Prop := reportTextsUptoRow.holds Try.pinned (OpenSpec.upto reportTextsSpec)

/-- 'glyphlaw14.ReportBack', WHERE WHAT IT READS IS OF BULK AT MOST 1048576: true; the input reads as it did. -/
def reportBackUptoRow : OpenClaim := { program := "ytcoofpnbnifbbaa", sum := "759b81079a87a0f1b53d5d5defcddb24f3259af05091c38028e4c7a3a286ea32", func := "glyph/glyphlaw14.ReportBack", spec := "reportBack", inPlace := ["internal/abi.NoEscape", "internal/bytealg.MakeNoZero"], unfollowed := true, recurses := true, named := ["math/bits.overflowError"], apart := false, narrowed := true }
def ReportBackUptoSaid : Prop := reportBackUptoRow.holds Try.pinned (OpenSpec.upto reportBackSpec)

/-- 'glyphlaw03.ArrayBack', WHERE WHAT IT READS IS OF BULK AT MOST 1048576: true; the input reads as it did. -/
def arrayBackUptoRow : OpenClaim := { program := "ytcoofpnbnifbbaa", sum := "759b81079a87a0f1b53d5d5defcddb24f3259af05091c38028e4c7a3a286ea32", func := "glyph/glyphlaw03.ArrayBack", spec := "arrayBack", unfollowed := true, recurses := true, named := ["math/bits.overflowError"], loops := true, apart := false, narrowed := true }
def ArrayBackUptoSaid : Prop := arrayBackUptoRow.holds Try.pinned (OpenSpec.upto arrayBackSpec)

/-- 'glyphlaw14.ReportOutcomes', WHERE WHAT IT READS IS OF BULK AT MOST 1048576: true; the input reads as it did. -/
def reportOutcomesUptoRow : OpenClaim := { program := "ytcoofpnbnifbbaa", sum := "759b81079a87a0f1b53d5d5defcddb24f3259af05091c38028e4c7a3a286ea32", func := "glyph/glyphlaw14.ReportOutcomes", spec := "reportOutcomes", inPlace := ["internal/abi.NoEscape", "internal/bytealg.MakeNoZero"], unfollowed := true, recurses := true, named := ["math/bits.overflowError"], apart := false, narrowed := true }
def ReportOutcomesUptoSaid : Prop := reportOutcomesUptoRow.holds Try.pinned (OpenSpec.upto reportOutcomesSpec)

end Rows
end Go.Proofs.Ytcoofpnbnifbbaa
