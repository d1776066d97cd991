/-
  NARROWER THAN 'FOR EVERY INPUT', by the rows' own cells (each row's printed sentence says how): PickAll: loops · PickUnique: loops · PickFinds: loops · PickRows: loops · PickOrders: loops · PickSorts: loops · PickRanks: loops · PickPuts: loops.
  DERIVED. THE GIVEN ROWS OF THIS SEAT. 9 by the template 'for every input the law returns true; each argument reads behind the call as it read before'; 0 by the template 'total and deterministic' (their statements: YtjmalfcinmmekaaGreatTotals.lean).
  GIVEN WITH THE SEED: the statements are not yours to turn. If you find one false, say at which input.
  Laid BY PROGRAM, IN A SANDBOX (cutbox-rows.mjs): the forced cells as the released guide's own fill.sh prints them over the translation 2c282f1103f138c8… (all of the seat's roots in one cut). By AI agents, Wed Nov 11 2026. No macro, syntax, notation, axiom, sorry.
-/
import Derived.Test.YtjmalfcinmmekaaGreatChecked
import GoSem.Claim
import GoSem.ClaimJoined
import GoSem.ClaimMapViews
import Derived.JoinedTies
import Derived.KernelRfl
namespace Go.Proofs.YtjmalfcinmmekaaGreat
/- THE CELL 'sum', in the pinned program and in every row, IS THE sha256 OF THE DUMP (.gsa) THAT YtjmalfcinmmekaaGreatProg.lean LOADS. Nothing in Lean hashes anything: it is a label: what it is worth is what the hold of that sum in a sandbox is worth. -/
noncomputable def Tryz.pinned : Pinned := { name := "ytjmalfcinmmekaagreat", sum := "2c282f1103f138c880da76abba00b0f487aab764f93c57238647dc1fbf2d1624", checked := Tryz.checked }
namespace Rows
def none {H : Type} : Left H := { results := [], args := [] }

/-- 'glyphlaw07.PickDigits': WHATEVER THE INPUT: true; the input reads as it did. -/
def pickDigitsSpec : ChangeSpec := { name := "pickDigits", fn := fun _ => fun
  | [d1, d2] => { results := [.lit (.bool true)], args := [d1, d2] }
  | _ => none }
def pickDigitsRow : OpenClaim := { program := "ytjmalfcinmmekaagreat", sum := "2c282f1103f138c880da76abba00b0f487aab764f93c57238647dc1fbf2d1624", func := "glyph/glyphlaw07.PickDigits", spec := "pickDigits", inPlace := ["internal/bytealg.IndexByteString", "internal/bytealg.IndexString", "slices.overlaps[int]"], unfollowed := true, recurses := true, named := ["math/bits.overflowError", "internal/bytealg.MaxLen"], apart := false }
def PickDigitsSaid : Prop := pickDigitsRow.holds Tryz.pinned (OpenSpec.ofChange pickDigitsSpec)

/-- ITS FALSE NEIGHBOUR: 'it returns false'. Refute it at one input. -/
def pickDigitsWrong : ChangeSpec := { name := "pickDigits", fn := fun _ => fun
  | [d1, d2] => { results := [.lit (.bool false)], args := [d1, d2] }
  | _ => none }
def PickDigitsWrongFalsely : Prop := pickDigitsRow.holds Tryz.pinned (OpenSpec.ofChange pickDigitsWrong)

/-- 'glyphlaw07.PickAll': WHATEVER THE INPUT: true; the input reads as it did. -/
def pickAllSpec : ChangeSpec := { name := "pickAll", fn := fun _ => fun
  | [d] => { results := [.lit (.bool true)], args := [d] }
  | _ => none }
def pickAllRow : OpenClaim := { program := "ytjmalfcinmmekaagreat", sum := "2c282f1103f138c880da76abba00b0f487aab764f93c57238647dc1fbf2d1624", func := "glyph/glyphlaw07.PickAll", spec := "pickAll", inPlace := ["internal/bytealg.IndexByteString", "internal/bytealg.IndexString", "slices.overlaps[int]"], unfollowed := true, recurses := true, named := ["math/bits.overflowError", "internal/bytealg.MaxLen"], loops := true, apart := false }
def PickAllSaid : Prop := pickAllRow.holds Tryz.pinned (OpenSpec.ofChange pickAllSpec)

/-- ITS FALSE NEIGHBOUR: 'it returns false'. Refute it at one input. -/
def pickAllWrong : ChangeSpec := { name := "pickAll", fn := fun _ => fun
  | [d] => { results := [.lit (.bool false)], args := [d] }
  | _ => none }
def PickAllWrongFalsely : Prop := pickAllRow.holds Tryz.pinned (OpenSpec.ofChange pickAllWrong)

/-- 'glyphlaw07.PickUnique': WHATEVER THE INPUT: true; the input reads as it did. -/
def pickUniqueSpec : ChangeSpec := { name := "pickUnique", fn := fun _ => fun
  | [d] => { results := [.lit (.bool true)], args := [d] }
  | _ => none }
def pickUniqueRow : OpenClaim := { program := "ytjmalfcinmmekaagreat", sum := "2c282f1103f138c880da76abba00b0f487aab764f93c57238647dc1fbf2d1624", func := "glyph/glyphlaw07.PickUnique", spec := "pickUnique", inPlace := ["internal/bytealg.IndexByteString", "internal/bytealg.IndexString", "slices.overlaps[int]"], unfollowed := true, recurses := true, named := ["math/bits.overflowError", "internal/bytealg.MaxLen"], loops := true, apart := false }
def PickUniqueSaid : Prop := pickUniqueRow.holds Tryz.pinned (OpenSpec.ofChange pickUniqueSpec)

/-- ITS FALSE NEIGHBOUR: 'it returns false'. Refute it at one input. -/
def pickUniqueWrong : ChangeSpec := { name := "pickUnique", fn := fun _ => fun
  | [d] => { results := [.lit (.bool false)], args := [d] }
  | _ => none }
def PickUniqueWrongFalsely : Prop := pickUniqueRow.holds Tryz.pinned (OpenSpec.ofChange pickUniqueWrong)

/-- 'glyphlaw07.PickFinds': WHATEVER THE INPUT: true; the input reads as it did. -/
def pickFindsSpec : ChangeSpec := { name := "pickFinds", fn := fun _ => fun
  | [d1, d2] => { results := [.lit (.bool true)], args := [d1, d2] }
  | _ => none }
def pickFindsRow : OpenClaim := { program := "ytjmalfcinmmekaagreat", sum := "2c282f1103f138c880da76abba00b0f487aab764f93c57238647dc1fbf2d1624", func := "glyph/glyphlaw07.PickFinds", spec := "pickFinds", inPlace := ["internal/bytealg.IndexByteString", "internal/bytealg.IndexString", "slices.overlaps[int]"], unfollowed := true, recurses := true, named := ["math/bits.overflowError", "internal/bytealg.MaxLen"], loops := true, apart := false }
def PickFindsSaid : Prop := pickFindsRow.holds Tryz.pinned (OpenSpec.ofChange pickFindsSpec)

/-- ITS FALSE NEIGHBOUR: 'it returns false'. Refute it at one input. -/
def pickFindsWrong : ChangeSpec := { name := "pickFinds", fn := fun _ => fun
  | [d1, d2] => { results := [.lit (.bool false)], args := [d1, d2] }
  | _ => none }
def PickFindsWrongFalsely : Prop := pickFindsRow.holds Tryz.pinned (OpenSpec.ofChange pickFindsWrong)

/-- 'glyphlaw07.PickRows': WHATEVER THE INPUT: true; the input reads as it did. -/
def pickRowsSpec : ChangeSpec := { name := "pickRows", fn := fun _ => fun
  | [d1, d2] => { results := [.lit (.bool true)], args := [d1, d2] }
  | _ => none }
def pickRowsRow : OpenClaim := { program := "ytjmalfcinmmekaagreat", sum := "2c282f1103f138c880da76abba00b0f487aab764f93c57238647dc1fbf2d1624", func := "glyph/glyphlaw07.PickRows", spec := "pickRows", inPlace := ["internal/bytealg.IndexByteString", "internal/bytealg.IndexString", "slices.overlaps[int]"], unfollowed := true, recurses := true, named := ["math/bits.overflowError", "internal/bytealg.MaxLen"], loops := true, apart := false }
def PickRowsSaid : Prop := pickRowsRow.holds Tryz.pinned (OpenSpec.ofChange pickRowsSpec)

/-- ITS FALSE NEIGHBOUR: 'it returns false'. Refute it at one input. -/
def pickRowsWrong : ChangeSpec := { name := "pickRows", fn := fun _ => fun
  | [d1, d2] => { results := [.lit (.bool false)], args := [d1, d2] }
  | _ => none }
def PickRowsWrongFalsely : Prop := pickRowsRow.holds Tryz.pinned (OpenSpec.ofChange pickRowsWrong)

/-- 'glyphlaw07.PickOrders': WHATEVER THE INPUT: true; the input reads as it did. -/
def pickOrdersSpec : ChangeSpec := { name := "pickOrders", fn := fun _ => fun
  | [d1, d2, d3] => { results := [.lit (.bool true)], args := [d1, d2, d3] }
  | _ => none }
def pickOrdersRow : OpenClaim := { program := "ytjmalfcinmmekaagreat", sum := "2c282f1103f138c880da76abba00b0f487aab764f93c57238647dc1fbf2d1624", func := "glyph/glyphlaw07.PickOrders", spec := "pickOrders", inPlace := ["internal/bytealg.IndexByteString", "internal/bytealg.IndexString", "slices.overlaps[int]"], unfollowed := true, recurses := true, named := ["math/bits.overflowError", "internal/bytealg.MaxLen"], loops := true, apart := false }
def PickOrdersSaid : Prop := pickOrdersRow.holds Tryz.pinned (OpenSpec.ofChange pickOrdersSpec)

/-- ITS FALSE NEIGHBOUR: 'it returns false'. Refute it at one input. -/
def pickOrdersWrong : ChangeSpec := { name := "pickOrders", fn := fun _ => fun
  | [d1, d2, d3] => { results := [.lit (.bool false)], args := [d1, d2, d3] }
  | _ => none }
def PickOrdersWrongFalsely : Prop := pickOrdersRow.holds Tryz.pinned (OpenSpec.ofChange pickOrdersWrong)

/-- 'glyphlaw07.PickSorts': WHATEVER THE INPUT: true; the input reads as it did. -/
def pickSortsSpec : ChangeSpec := { name := "pickSorts", fn := fun _ => fun
  | [d] => { results := [.lit (.bool true)], args := [d] }
  | _ => none }
def pickSortsRow : OpenClaim := { program := "ytjmalfcinmmekaagreat", sum := "2c282f1103f138c880da76abba00b0f487aab764f93c57238647dc1fbf2d1624", func := "glyph/glyphlaw07.PickSorts", spec := "pickSorts", inPlace := ["internal/bytealg.IndexByteString", "internal/bytealg.IndexString", "slices.overlaps[int]"], unfollowed := true, recurses := true, named := ["math/bits.overflowError", "internal/bytealg.MaxLen"], loops := true, apart := false }
def PickSortsSaid : Prop := pickSortsRow.holds Tryz.pinned (OpenSpec.ofChange pickSortsSpec)

/-- ITS FALSE NEIGHBOUR: 'it returns false'. Refute it at one input. -/
def pickSortsWrong : ChangeSpec := { name := "pickSorts", fn := fun _ => fun
  | [d] => { results := [.lit (.bool false)], args := [d] }
  | _ => none }
def PickSortsWrongFalsely : Prop := pickSortsRow.holds Tryz.pinned (OpenSpec.ofChange pickSortsWrong)

/-- 'glyphlaw07.PickRanks': WHATEVER THE INPUT: true; the input reads as it did. -/
def pickRanksSpec : ChangeSpec := { name := "pickRanks", fn := fun _ => fun
  | [d] => { results := [.lit (.bool true)], args := [d] }
  | _ => none }
def pickRanksRow : OpenClaim := { program := "ytjmalfcinmmekaagreat", sum := "2c282f1103f138c880da76abba00b0f487aab764f93c57238647dc1fbf2d1624", func := "glyph/glyphlaw07.PickRanks", spec := "pickRanks", inPlace := ["internal/bytealg.IndexByteString", "internal/bytealg.IndexString", "slices.overlaps[int]"], unfollowed := true, recurses := true, named := ["math/bits.overflowError", "internal/bytealg.MaxLen"], loops := true, apart := false }
def PickRanksSaid : Prop := pickRanksRow.holds Tryz.pinned (OpenSpec.ofChange pickRanksSpec)

/-- ITS FALSE NEIGHBOUR: 'it returns false'. Refute it at one input. -/
def pickRanksWrong : ChangeSpec := { name := "pickRanks", fn := fun _ => fun
  | [d] => { results := [.lit (.bool false)], args := [d] }
  | _ => none }
def PickRanksWrongFalsely : Prop := pickRanksRow.holds Tryz.pinned (OpenSpec.ofChange pickRanksWrong)

/-- 'glyphlaw07.PickPuts': WHATEVER THE INPUT: true; the input reads as it did. -/
def pickPutsSpec : ChangeSpec := { name := "pickPuts", fn := fun _ => fun
  | [d1, d2, d3] => { results := [.lit (.bool true)], args := [d1, d2, d3] }
  | _ => none }
def pickPutsRow : OpenClaim := { program := "ytjmalfcinmmekaagreat", sum := "2c282f1103f138c880da76abba00b0f487aab764f93c57238647dc1fbf2d1624", func := "glyph/glyphlaw07.PickPuts", spec := "pickPuts", inPlace := ["internal/bytealg.IndexByteString", "internal/bytealg.IndexString", "slices.overlaps[int]"], unfollowed := true, recurses := true, named := ["math/bits.overflowError", "internal/bytealg.MaxLen"], loops := true, apart := false }
def PickPutsSaid : Prop := pickPutsRow.holds Tryz.pinned (OpenSpec.ofChange pickPutsSpec)

/-- ITS FALSE NEIGHBOUR: 'it returns false'. Refute it at one input. -/
def pickPutsWrong : ChangeSpec := { name := "pickPuts", fn := fun _ => fun
  | [d1, d2, d3] => { results := [.lit (.bool false)], args := [d1, d2, d3] }
  | _ => none }
def PickPutsWrongFalsely : Prop := pickPutsRow.holds Tryz.pinned (OpenSpec.ofChange pickPutsWrong)

/- THE SECOND FORM. 'bulk': how many values and letters a reading holds, each counted each time it is reached (what is shared counts as often as it is met; a slice's spare places count too). A statement '..UptoSaid' is the law's where the arguments, and the package variables that the reading takes, are together of bulk at most 1048576: NARROWER than '..Said'. Prove '..Said' where nothing that the law and all that it calls make is longer than what came in: it says more and counts as full. Else prove '..UptoSaid'. A law counts once. -/
mutual
def uptoBulk {H : Type} : DataW H → Nat
  | .lit (.string bytes) => bytes.length + 1
  | .lit _ => 1
  | .nil => 1
  | .ptr d => uptoBulk d + 1
  | .slice elems spare => uptoBulkAll elems + uptoBulkAll spare + 1
  | .agg parts => uptoBulkAll parts + 1
  | .iface _ d => uptoBulk d + 1
  | .map entries => uptoBulkEntries entries + 1
  | .held _ => 1
def uptoBulkAll {H : Type} : List (DataW H) → Nat
  | [] => 0
  | d :: r => uptoBulk d + uptoBulkAll r
def uptoBulkEntries {H : Type} : List (Lit × DataW H) → Nat
  | [] => 0
  | x :: r => uptoBulkEntry x + uptoBulkEntries r
def uptoBulkEntry {H : Type} : Lit × DataW H → Nat
  | (.string bytes, d) => bytes.length + uptoBulk d + 1
  | (_, d) => uptoBulk d + 1
 end
def uptoSmall : (H : Type) → List (DataW H) → Bool := fun _ ds => decide (uptoBulkAll ds ≤ 1048576)
def OpenSpec.upto (s : _root_.Go.ChangeSpec) : _root_.Go.OpenSpec := { _root_.Go.OpenSpec.ofChange s with cond := some uptoSmall }

/-- 'glyphlaw07.PickDigits', WHERE WHAT IT READS IS OF BULK AT MOST 1048576: true; the input reads as it did. -/
def pickDigitsUptoRow : OpenClaim := { program := "ytjmalfcinmmekaagreat", sum := "2c282f1103f138c880da76abba00b0f487aab764f93c57238647dc1fbf2d1624", func := "glyph/glyphlaw07.PickDigits", spec := "pickDigits", inPlace := ["internal/bytealg.IndexByteString", "internal/bytealg.IndexString", "slices.overlaps[int]"], unfollowed := true, recurses := true, named := ["math/bits.overflowError", "internal/bytealg.MaxLen"], apart := false, narrowed := true }
def PickDigitsUptoSaid : Prop := pickDigitsUptoRow.holds Tryz.pinned (OpenSpec.upto pickDigitsSpec)

/-- 'glyphlaw07.PickAll', WHERE WHAT IT READS IS OF BULK AT MOST 1048576: true; the input reads as it did. -/
def pickAllUptoRow : OpenClaim := { program := "ytjmalfcinmmekaagreat", sum := "2c282f1103f138c880da76abba00b0f487aab764f93c57238647dc1fbf2d1624", func := "glyph/glyphlaw07.PickAll", spec := "pickAll", inPlace := ["internal/bytealg.IndexByteString", "internal/bytealg.IndexString", "slices.overlaps[int]"], unfollowed := true, recurses := true, named := ["math/bits.overflowError", "internal/bytealg.MaxLen"], loops := true, apart := false, narrowed := true }
def PickAllUptoSaid : Prop := pickAllUptoRow.holds Tryz.pinned (OpenSpec.upto pickAllSpec)

/-- 'glyphlaw07.PickUnique', WHERE WHAT IT READS IS OF BULK AT MOST 1048576: true; the input reads as it did. -/
def pickUniqueUptoRow : OpenClaim := { program := "ytjmalfcinmmekaagreat", sum := "2c282f1103f138c880da76abba00b0f487aab764f93c57238647dc1fbf2d1624", func := "glyph/glyphlaw07.PickUnique", spec := "pickUnique", inPlace := ["internal/bytealg.IndexByteString", "internal/bytealg.IndexString", "slices.overlaps[int]"], unfollowed := true, recurses := true, named := ["math/bits.overflowError", "internal/bytealg.MaxLen"], loops := true, apart := false, narrowed := true }
def PickUniqueUptoSaid : Prop := pickUniqueUptoRow.holds Tryz.pinned (OpenSpec.upto pickUniqueSpec)

/-- 'glyphlaw07.PickFinds', WHERE WHAT IT READS IS OF BULK AT MOST 1048576: true; the input reads as it did. -/
def pickFindsUptoRow : OpenClaim := { program := "ytjmalfcinmmekaagreat", sum := "2c282f1103f138c880da76abba00b0f487aab764f93c57238647dc1fbf2d1624", func := "glyph/glyphlaw07.PickFinds", spec := "pickFinds", inPlace := ["internal/bytealg.IndexByteString", "internal/bytealg.IndexString", "slices.overlaps[int]"], unfollowed := true, recurses := true, named := ["math/bits.overflowError", "internal/bytealg.MaxLen"], loops := true, apart := false, narrowed := true }
def PickFindsUptoSaid : Prop := pickFindsUptoRow.holds Tryz.pinned (OpenSpec.upto pickFindsSpec)

/-- 'glyphlaw07.PickRows', WHERE WHAT IT READS IS OF BULK AT MOST 1048576: true; the input reads as it did. -/
def pickRowsUptoRow : OpenClaim := { program := "ytjmalfcinmmekaagreat", sum := "2c282f1103f138c880da76abba00b0f487aab764f93c57238647dc1fbf2d1624", func := "glyph/glyphlaw07.PickRows", spec := "pickRows", inPlace := ["internal/bytealg.IndexByteString", "internal/bytealg.IndexString", "slices.overlaps[int]"], unfollowed := true, recurses := true, named := ["math/bits.overflowError", "internal/bytealg.MaxLen"], loops := true, apart := false, narrowed := true }
def PickRowsUptoSaid : Prop := pickRowsUptoRow.holds Tryz.pinned (OpenSpec.upto pickRowsSpec)

/-- 'glyphlaw07.PickOrders', WHERE WHAT IT READS IS OF BULK AT MOST 1048576: true; the input reads as it did. -/
def pickOrdersUptoRow : OpenClaim := { program := "ytjmalfcinmmekaagreat", sum := "2c282f1103f138c880da76abba00b0f487aab764f93c57238647dc1fbf2d1624", func := "glyph/glyphlaw07.PickOrders", spec := "pickOrders", inPlace := ["internal/bytealg.IndexByteString", "internal/bytealg.IndexString", "slices.overlaps[int]"], unfollowed := true, recurses := true, named := ["math/bits.overflowError", "internal/bytealg.MaxLen"], loops := true, apart := false, narrowed := true }
def PickOrdersUptoSaid : Prop := pickOrdersUptoRow.holds Tryz.pinned (OpenSpec.upto pickOrdersSpec)

/-- 'glyphlaw07.PickSorts', WHERE WHAT IT READS IS OF BULK AT MOST 1048576: true; the input reads as it did. -/
def pickSortsUptoRow : OpenClaim := { program := "ytjmalfcinmmekaagreat", sum := "2c282f1103f138c880da76abba00b0f487aab764f93c57238647dc1fbf2d1624", func := "glyph/glyphlaw07.PickSorts", spec := "pickSorts", inPlace := ["internal/bytealg.IndexByteString", "internal/bytealg.IndexString", "slices.overlaps[int]"], unfollowed := true, recurses := true, named := ["math/bits.overflowError", "internal/bytealg.MaxLen"], loops := true, apart := false, narrowed := true }
def PickSortsUptoSaid : Prop := pickSortsUptoRow.holds Tryz.pinned (OpenSpec.upto pickSortsSpec)

/-- 'glyphlaw07.PickRanks', WHERE WHAT IT READS IS OF BULK AT MOST 1048576: true; the input reads as it did. -/
def pickRanksUptoRow : OpenClaim := { program := "ytjmalfcinmmekaagreat", sum := "2c282f1103f138c880da76abba00b0f487aab764f93c57238647dc1fbf2d1624", func := "glyph/glyphlaw07.PickRanks", spec := "pickRanks", inPlace := ["internal/bytealg.IndexByteString", "internal/bytealg.IndexString", "slices.overlaps[int]"], unfollowed := true, recurses := true, named := ["math/bits.overflowError", "internal/bytealg.MaxLen"], loops := true, apart := false, narrowed := true }
def PickRanksUptoSaid : Prop := pickRanksUptoRow.holds Tryz.pinned (OpenSpec.upto pickRanksSpec)

/-- 'glyphlaw07.PickPuts', WHERE WHAT IT READS IS OF BULK AT MOST 1048576: true; the input reads as it did. -/
def pickPutsUptoRow : OpenClaim := { program := "ytjmalfcinmmekaagreat", sum := "2c282f1103f138c880da76abba00b0f487aab764f93c57238647dc1fbf2d1624", func := "glyph/glyphlaw07.PickPuts", spec := "pickPuts", inPlace := ["internal/bytealg.IndexByteString", "internal/bytealg.IndexString", "slices.overlaps[int]"], unfollowed := true, recurses := true, named := ["math/bits.overflowError", "internal/bytealg.MaxLen"], loops := true, apart := false, narrowed := true }
def PickPutsUptoSaid : Prop := pickPutsUptoRow.holds Tryz.pinned (OpenSpec.upto pickPutsSpec)

end Rows
end Go.Proofs.YtjmalfcinmmekaaGreat
