/-
  NARROWER THAN 'FOR EVERY INPUT', by the rows' own cells (each row's printed sentence says how): ShapeExpands: loops · ShapeJoins: loops · ShapeMonadic: loops · ShapeParts: loops · ShapeTurns: loops · ShapeDrops: loops.
  DERIVED. THE GIVEN ROWS OF THIS SEAT. 6 by the template 'for every input the law returns true; each argument reads behind the call as it read before'; 0 by the template 'total and deterministic' (their statements: YtipdmmpgepoggaaGreatTotals.lean).
  GIVEN WITH THE SEED: the statements are not yours to turn. If you find one false, say at which input.
  Laid BY PROGRAM, IN A SANDBOX (cutbox-rows.mjs): the forced cells as the released guide's own fill.sh prints them over the translation 4bbef0337fdbe635… (all of the seat's roots in one cut). By AI agents, Wed Nov 11 2026. No macro, syntax, notation, axiom, sorry.
-/
import Derived.Test.YtipdmmpgepoggaaGreatChecked
import GoSem.Claim
import GoSem.ClaimJoined
import GoSem.ClaimMapViews
import Derived.JoinedTies
import Derived.KernelRfl
namespace Go.Proofs.YtipdmmpgepoggaaGreat
/- THE CELL 'sum', in the pinned program and in every row, IS THE sha256 OF THE DUMP (.gsa) THAT YtipdmmpgepoggaaGreatProg.lean LOADS. Nothing in Lean hashes anything: it is a label: what it is worth is what the hold of that sum in a sandbox is worth. -/
noncomputable def Tryz.pinned : Pinned := { name := "ytipdmmpgepoggaagreat", sum := "4bbef0337fdbe6356c5f6ec5f34bf679aa4f7f7468cc62cce3a0c7092d3b8114", checked := Tryz.checked }
namespace Rows
def none {H : Type} : Left H := { results := [], args := [] }

/-- 'glyphlaw06.ShapeExpands': WHATEVER THE INPUT: true; the input reads as it did. -/
def shapeExpandsSpec : ChangeSpec := { name := "shapeExpands", fn := fun _ => fun
  | [d1, d2] => { results := [.lit (.bool true)], args := [d1, d2] }
  | _ => none }
def shapeExpandsRow : OpenClaim := { program := "ytipdmmpgepoggaagreat", sum := "4bbef0337fdbe6356c5f6ec5f34bf679aa4f7f7468cc62cce3a0c7092d3b8114", func := "glyph/glyphlaw06.ShapeExpands", spec := "shapeExpands", inPlace := ["internal/bytealg.IndexByteString", "internal/bytealg.IndexString", "slices.overlaps[int]"], unfollowed := true, recurses := true, named := ["math/bits.overflowError", "internal/bytealg.MaxLen"], loops := true, apart := false }
def ShapeExpandsSaid : Prop := shapeExpandsRow.holds Tryz.pinned (OpenSpec.ofChange shapeExpandsSpec)

/-- ITS FALSE NEIGHBOUR: 'it returns false'. Refute it at one input. -/
def shapeExpandsWrong : ChangeSpec := { name := "shapeExpands", fn := fun _ => fun
  | [d1, d2] => { results := [.lit (.bool false)], args := [d1, d2] }
  | _ => none }
def ShapeExpandsWrongFalsely : Prop := shapeExpandsRow.holds Tryz.pinned (OpenSpec.ofChange shapeExpandsWrong)

/-- 'glyphlaw06.ShapeJoins': WHATEVER THE INPUT: true; the input reads as it did. -/
def shapeJoinsSpec : ChangeSpec := { name := "shapeJoins", fn := fun _ => fun
  | [d1, d2, d3] => { results := [.lit (.bool true)], args := [d1, d2, d3] }
  | _ => none }
def shapeJoinsRow : OpenClaim := { program := "ytipdmmpgepoggaagreat", sum := "4bbef0337fdbe6356c5f6ec5f34bf679aa4f7f7468cc62cce3a0c7092d3b8114", func := "glyph/glyphlaw06.ShapeJoins", spec := "shapeJoins", inPlace := ["internal/bytealg.IndexByteString", "internal/bytealg.IndexString", "slices.overlaps[int]"], unfollowed := true, recurses := true, named := ["math/bits.overflowError", "internal/bytealg.MaxLen"], loops := true, apart := false }
def ShapeJoinsSaid : Prop := shapeJoinsRow.holds Tryz.pinned (OpenSpec.ofChange shapeJoinsSpec)

/-- ITS FALSE NEIGHBOUR: 'it returns false'. Refute it at one input. -/
def shapeJoinsWrong : ChangeSpec := { name := "shapeJoins", fn := fun _ => fun
  | [d1, d2, d3] => { results := [.lit (.bool false)], args := [d1, d2, d3] }
  | _ => none }
def ShapeJoinsWrongFalsely : Prop := shapeJoinsRow.holds Tryz.pinned (OpenSpec.ofChange shapeJoinsWrong)

/-- 'glyphlaw06.ShapeMonadic': WHATEVER THE INPUT: true; the input reads as it did. -/
def shapeMonadicSpec : ChangeSpec := { name := "shapeMonadic", fn := fun _ => fun
  | [d1, d2, d3] => { results := [.lit (.bool true)], args := [d1, d2, d3] }
  | _ => none }
def shapeMonadicRow : OpenClaim := { program := "ytipdmmpgepoggaagreat", sum := "4bbef0337fdbe6356c5f6ec5f34bf679aa4f7f7468cc62cce3a0c7092d3b8114", func := "glyph/glyphlaw06.ShapeMonadic", spec := "shapeMonadic", inPlace := ["internal/bytealg.IndexByteString", "internal/bytealg.IndexString", "slices.overlaps[int]"], unfollowed := true, recurses := true, named := ["math/bits.overflowError", "internal/bytealg.MaxLen"], loops := true, apart := false }
def ShapeMonadicSaid : Prop := shapeMonadicRow.holds Tryz.pinned (OpenSpec.ofChange shapeMonadicSpec)

/-- ITS FALSE NEIGHBOUR: 'it returns false'. Refute it at one input. -/
def shapeMonadicWrong : ChangeSpec := { name := "shapeMonadic", fn := fun _ => fun
  | [d1, d2, d3] => { results := [.lit (.bool false)], args := [d1, d2, d3] }
  | _ => none }
def ShapeMonadicWrongFalsely : Prop := shapeMonadicRow.holds Tryz.pinned (OpenSpec.ofChange shapeMonadicWrong)

/-- 'glyphlaw06.ShapeParts': WHATEVER THE INPUT: true; the input reads as it did. -/
def shapePartsSpec : ChangeSpec := { name := "shapeParts", fn := fun _ => fun
  | [d1, d2] => { results := [.lit (.bool true)], args := [d1, d2] }
  | _ => none }
def shapePartsRow : OpenClaim := { program := "ytipdmmpgepoggaagreat", sum := "4bbef0337fdbe6356c5f6ec5f34bf679aa4f7f7468cc62cce3a0c7092d3b8114", func := "glyph/glyphlaw06.ShapeParts", spec := "shapeParts", inPlace := ["internal/bytealg.IndexByteString", "internal/bytealg.IndexString", "slices.overlaps[int]"], unfollowed := true, recurses := true, named := ["math/bits.overflowError", "internal/bytealg.MaxLen"], loops := true, apart := false }
def ShapePartsSaid : Prop := shapePartsRow.holds Tryz.pinned (OpenSpec.ofChange shapePartsSpec)

/-- ITS FALSE NEIGHBOUR: 'it returns false'. Refute it at one input. -/
def shapePartsWrong : ChangeSpec := { name := "shapeParts", fn := fun _ => fun
  | [d1, d2] => { results := [.lit (.bool false)], args := [d1, d2] }
  | _ => none }
def ShapePartsWrongFalsely : Prop := shapePartsRow.holds Tryz.pinned (OpenSpec.ofChange shapePartsWrong)

/-- 'glyphlaw06.ShapeTurns': WHATEVER THE INPUT: true; the input reads as it did. -/
def shapeTurnsSpec : ChangeSpec := { name := "shapeTurns", fn := fun _ => fun
  | [d1, d2, d3] => { results := [.lit (.bool true)], args := [d1, d2, d3] }
  | _ => none }
def shapeTurnsRow : OpenClaim := { program := "ytipdmmpgepoggaagreat", sum := "4bbef0337fdbe6356c5f6ec5f34bf679aa4f7f7468cc62cce3a0c7092d3b8114", func := "glyph/glyphlaw06.ShapeTurns", spec := "shapeTurns", inPlace := ["internal/bytealg.IndexByteString", "internal/bytealg.IndexString", "slices.overlaps[int]"], unfollowed := true, recurses := true, named := ["math/bits.overflowError", "internal/bytealg.MaxLen"], loops := true, apart := false }
def ShapeTurnsSaid : Prop := shapeTurnsRow.holds Tryz.pinned (OpenSpec.ofChange shapeTurnsSpec)

/-- ITS FALSE NEIGHBOUR: 'it returns false'. Refute it at one input. -/
def shapeTurnsWrong : ChangeSpec := { name := "shapeTurns", fn := fun _ => fun
  | [d1, d2, d3] => { results := [.lit (.bool false)], args := [d1, d2, d3] }
  | _ => none }
def ShapeTurnsWrongFalsely : Prop := shapeTurnsRow.holds Tryz.pinned (OpenSpec.ofChange shapeTurnsWrong)

/-- 'glyphlaw06.ShapeDrops': WHATEVER THE INPUT: true; the input reads as it did. -/
def shapeDropsSpec : ChangeSpec := { name := "shapeDrops", fn := fun _ => fun
  | [d1, d2, d3] => { results := [.lit (.bool true)], args := [d1, d2, d3] }
  | _ => none }
def shapeDropsRow : OpenClaim := { program := "ytipdmmpgepoggaagreat", sum := "4bbef0337fdbe6356c5f6ec5f34bf679aa4f7f7468cc62cce3a0c7092d3b8114", func := "glyph/glyphlaw06.ShapeDrops", spec := "shapeDrops", inPlace := ["internal/bytealg.IndexByteString", "internal/bytealg.IndexString", "slices.overlaps[int]"], unfollowed := true, recurses := true, named := ["math/bits.overflowError", "internal/bytealg.MaxLen"], loops := true, apart := false }
def ShapeDropsSaid : Prop := shapeDropsRow.holds Tryz.pinned (OpenSpec.ofChange shapeDropsSpec)

/-- ITS FALSE NEIGHBOUR: 'it returns false'. Refute it at one input. -/
def shapeDropsWrong : ChangeSpec := { name := "shapeDrops", fn := fun _ => fun
  | [d1, d2, d3] => { results := [.lit (.bool false)], args := [d1, d2, d3] }
  | _ => none }
def ShapeDropsWrongFalsely : Prop := shapeDropsRow.holds Tryz.pinned (OpenSpec.ofChange shapeDropsWrong)

/- THE SECOND FORM. 'bulk': how many values and letters a reading holds, each counted each time it is reached (what is shared counts as often as it is met; a slice's spare places count too). A statement '..UptoSaid' is the law's where the arguments, and the package variables that the reading takes, are together of bulk at most 1048576: NARROWER than '..Said'. Prove '..Said' where nothing that the law and all that it calls make is longer than what came in: it says more and counts as full. Else prove '..UptoSaid'. A law counts once. -/
mutual
def uptoBulk {H : Type} : DataW H → Nat
  | .lit (.string bytes) => bytes.length + 1
  | .lit _ => 1
  | .nil => 1
  | .ptr d => uptoBulk d + 1
  | .slice elems spare => uptoBulkAll elems + uptoBulkAll spare + 1
  | .agg parts => uptoBulkAll parts + 1
  | .iface _ d => uptoBulk d + 1
  | .map entries => uptoBulkEntries entries + 1
  | .held _ => 1
def uptoBulkAll {H : Type} : List (DataW H) → Nat
  | [] => 0
  | d :: r => uptoBulk d + uptoBulkAll r
def uptoBulkEntries {H : Type} : List (Lit × DataW H) → Nat
  | [] => 0
  | x :: r => uptoBulkEntry x + uptoBulkEntries r
def uptoBulkEntry {H : Type} : Lit × DataW H → Nat
  | (.string bytes, d) => bytes.length + uptoBulk d + 1
  | (_, d) => uptoBulk d + 1
 end
def uptoSmall : (H : Type) → List (DataW H) → Bool := fun _ ds => decide (uptoBulkAll ds ≤ 1048576)
def OpenSpec.upto (s : _root_.Go.ChangeSpec) : _root_.Go.OpenSpec := { _root_.Go.OpenSpec.ofChange s with cond := some uptoSmall }

/-- 'glyphlaw06.ShapeExpands', WHERE WHAT IT READS IS OF BULK AT MOST 1048576: true; the input reads as it did. -/
def shapeExpandsUptoRow : OpenClaim := { program := "ytipdmmpgepoggaagreat", sum := "4bbef0337fdbe6356c5f6ec5f34bf679aa4f7f7468cc62cce3a0c7092d3b8114", func := "glyph/glyphlaw06.ShapeExpands", spec := "shapeExpands", inPlace := ["internal/bytealg.IndexByteString", "internal/bytealg.IndexString", "slices.overlaps[int]"], unfollowed := true, recurses := true, named := ["math/bits.overflowError", "internal/bytealg.MaxLen"], loops := true, apart := false, narrowed := true }
def ShapeExpandsUptoSaid : Prop := shapeExpandsUptoRow.holds Tryz.pinned (OpenSpec.upto shapeExpandsSpec)

/-- 'glyphlaw06.ShapeJoins', WHERE WHAT IT READS IS OF BULK AT MOST 1048576: true; the input reads as it did. -/
def shapeJoinsUptoRow : OpenClaim := { program := "ytipdmmpgepoggaagreat", sum := "4bbef0337fdbe6356c5f6ec5f34bf679aa4f7f7468cc62cce3a0c7092d3b8114", func := "glyph/glyphlaw06.ShapeJoins", spec := "shapeJoins", inPlace := ["internal/bytealg.IndexByteString", "internal/bytealg.IndexString", "slices.overlaps[int]"], unfollowed := true, recurses := true, named := ["math/bits.overflowError", "internal/bytealg.MaxLen"], loops := true, apart := false, narrowed := true }
def ShapeJoinsUptoSaid : Prop := shapeJoinsUptoRow.holds Tryz.pinned (OpenSpec.upto shapeJoinsSpec)

/-- 'glyphlaw06.ShapeMonadic', WHERE WHAT IT READS IS OF BULK AT MOST 1048576: true; the input reads as it did. -/
def shapeMonadicUptoRow : OpenClaim := { program := "ytipdmmpgepoggaagreat", sum := "4bbef0337fdbe6356c5f6ec5f34bf679aa4f7f7468cc62cce3a0c7092d3b8114", func := "glyph/glyphlaw06.ShapeMonadic", spec := "shapeMonadic", inPlace := ["internal/bytealg.IndexByteString", "internal/bytealg.IndexString", "slices.overlaps[int]"], unfollowed := true, recurses := true, named := ["math/bits.overflowError", "internal/bytealg.MaxLen"], loops := true, apart := false, narrowed := true }
def ShapeMonadicUptoSaid : Prop := shapeMonadicUptoRow.holds Tryz.pinned (OpenSpec.upto shapeMonadicSpec)

/-- 'glyphlaw06.ShapeParts', WHERE WHAT IT READS IS OF BULK AT MOST 1048576: true; the input reads as it did. -/
def shapePartsUptoRow : OpenClaim := { program := "ytipdmmpgepoggaagreat", sum := "4bbef0337fdbe6356c5f6ec5f34bf679aa4f7f7468cc62cce3a0c7092d3b8114", func := "glyph/glyphlaw06.ShapeParts", spec := "shapeParts", inPlace := ["internal/bytealg.IndexByteString", "internal/bytealg.IndexString", "slices.overlaps[int]"], unfollowed := true, recurses := true, named := ["math/bits.overflowError", "internal/bytealg.MaxLen"], loops := true, apart := false, narrowed := true }
def ShapePartsUptoSaid : Prop := shapePartsUptoRow.holds Tryz.pinned (OpenSpec.upto shapePartsSpec)

/-- 'glyphlaw06.ShapeTurns', WHERE WHAT IT READS IS OF BULK AT MOST 1048576: true; the input reads as it did. -/
def shapeTurnsUptoRow : OpenClaim := { program := "ytipdmmpgepoggaagreat", sum := "4bbef0337fdbe6356c5f6ec5f34bf679aa4f7f7468cc62cce3a0c7092d3b8114", func := "glyph/glyphlaw06.ShapeTurns", spec := "shapeTurns", inPlace := ["internal/bytealg.IndexByteString", "internal/bytealg.IndexString", "slices.overlaps[int]"], unfollowed := true, recurses := true, named := ["math/bits.overflowError", "internal/bytealg.MaxLen"], loops := true, apart := false, narrowed := true }
def ShapeTurnsUptoSaid : Prop := shapeTurnsUptoRow.holds Tryz.pinned (OpenSpec.upto shapeTurnsSpec)

/-- 'glyphlaw06.ShapeDrops', WHERE WHAT IT READS IS OF BULK AT MOST 1048576: true; the input reads as it did. -/
def shapeDropsUptoRow : OpenClaim := { program := "ytipdmmpgepoggaagreat", sum := "4bbef0337fdbe6356c5f6ec5f34bf679aa4f7f7468cc62cce3a0c7092d3b8114", func := "glyph/glyphlaw06.ShapeDrops", spec := "shapeDrops", inPlace := ["internal/bytealg.IndexByteString", "internal/bytealg.IndexString", "slices.overlaps[int]"], unfollowed := true, recurses := true, named := ["math/bits.overflowError", "internal/bytealg.MaxLen"], loops := true, apart := false, narrowed := true }
def ShapeDropsUptoSaid : Prop := shapeDropsUptoRow.holds Tryz.pinned (OpenSpec.upto shapeDropsSpec)

end Rows
end Go.Proofs.YtipdmmpgepoggaaGreat
