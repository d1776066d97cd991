/-
  NARROWER THAN 'FOR EVERY INPUT', by the rows' own cells (each row's printed sentence says how): TopMoves: loops · ScalarTurns: loops · ScalarZero: loops · ScalarIdentity: loops.
  DERIVED. THE GIVEN ROWS OF THIS SEAT. 7 by the template 'for every input the law returns true; each argument reads behind the call as it read before'; 0 by the template 'total and deterministic' (their statements: YtbeekjoeaigngaaGreatTotals.lean).
  GIVEN WITH THE SEED: the statements are not yours to turn. If you find one false, say at which input.
  Laid BY PROGRAM, IN A SANDBOX (cutbox-rows.mjs): the forced cells as the released guide's own fill.sh prints them over the translation 50b998f45e47d493… (all of the seat's roots in one cut). By AI agents, Wed Nov 11 2026. No macro, syntax, notation, axiom, sorry.
-/
import Derived.Test.YtbeekjoeaigngaaGreatChecked
import GoSem.Claim
import GoSem.ClaimJoined
import GoSem.ClaimMapViews
import Derived.JoinedTies
import Derived.KernelRfl
namespace Go.Proofs.YtbeekjoeaigngaaGreat
/- THE CELL 'sum', in the pinned program and in every row, IS THE sha256 OF THE DUMP (.gsa) THAT YtbeekjoeaigngaaGreatProg.lean LOADS. Nothing in Lean hashes anything: it is a label: what it is worth is what the hold of that sum in a sandbox is worth. -/
noncomputable def Tryz.pinned : Pinned := { name := "ytbeekjoeaigngaagreat", sum := "50b998f45e47d493a9556b34ce1448c923e0f5025ef8c2301cdd1a8ae80891aa", checked := Tryz.checked }
namespace Rows
def none {H : Type} : Left H := { results := [], args := [] }

/-- 'glyphtop.TopMoves': WHATEVER THE INPUT: true; the input reads as it did. -/
def topMovesSpec : ChangeSpec := { name := "topMoves", fn := fun _ => fun
  | [d1, d2] => { results := [.lit (.bool true)], args := [d1, d2] }
  | _ => none }
def topMovesRow : OpenClaim := { program := "ytbeekjoeaigngaagreat", sum := "50b998f45e47d493a9556b34ce1448c923e0f5025ef8c2301cdd1a8ae80891aa", func := "glyph/glyphtop.TopMoves", spec := "topMoves", unfollowed := true, recurses := true, named := ["math/bits.overflowError"], loops := true, apart := false }
def TopMovesSaid : Prop := topMovesRow.holds Tryz.pinned (OpenSpec.ofChange topMovesSpec)

/-- ITS FALSE NEIGHBOUR: 'it returns false'. Refute it at one input. -/
def topMovesWrong : ChangeSpec := { name := "topMoves", fn := fun _ => fun
  | [d1, d2] => { results := [.lit (.bool false)], args := [d1, d2] }
  | _ => none }
def TopMovesWrongFalsely : Prop := topMovesRow.holds Tryz.pinned (OpenSpec.ofChange topMovesWrong)

/-- 'glyphlaw05.ScalarTurns': WHATEVER THE INPUT: true; the input reads as it did. -/
def scalarTurnsSpec : ChangeSpec := { name := "scalarTurns", fn := fun _ => fun
  | [d1, d2] => { results := [.lit (.bool true)], args := [d1, d2] }
  | _ => none }
def scalarTurnsRow : OpenClaim := { program := "ytbeekjoeaigngaagreat", sum := "50b998f45e47d493a9556b34ce1448c923e0f5025ef8c2301cdd1a8ae80891aa", func := "glyph/glyphlaw05.ScalarTurns", spec := "scalarTurns", unfollowed := true, recurses := true, named := ["math/bits.overflowError"], loops := true, apart := false }
def ScalarTurnsSaid : Prop := scalarTurnsRow.holds Tryz.pinned (OpenSpec.ofChange scalarTurnsSpec)

/-- ITS FALSE NEIGHBOUR: 'it returns false'. Refute it at one input. -/
def scalarTurnsWrong : ChangeSpec := { name := "scalarTurns", fn := fun _ => fun
  | [d1, d2] => { results := [.lit (.bool false)], args := [d1, d2] }
  | _ => none }
def ScalarTurnsWrongFalsely : Prop := scalarTurnsRow.holds Tryz.pinned (OpenSpec.ofChange scalarTurnsWrong)

/-- 'glyphlaw05.ScalarOne': WHATEVER THE INPUT: true; the input reads as it did. -/
def scalarOneSpec : ChangeSpec := { name := "scalarOne", fn := fun _ => fun
  | [d1, d2] => { results := [.lit (.bool true)], args := [d1, d2] }
  | _ => none }
def scalarOneRow : OpenClaim := { program := "ytbeekjoeaigngaagreat", sum := "50b998f45e47d493a9556b34ce1448c923e0f5025ef8c2301cdd1a8ae80891aa", func := "glyph/glyphlaw05.ScalarOne", spec := "scalarOne", unfollowed := true, recurses := true, named := ["math/bits.overflowError"], apart := false }
def ScalarOneSaid : Prop := scalarOneRow.holds Tryz.pinned (OpenSpec.ofChange scalarOneSpec)

/-- ITS FALSE NEIGHBOUR: 'it returns false'. Refute it at one input. -/
def scalarOneWrong : ChangeSpec := { name := "scalarOne", fn := fun _ => fun
  | [d1, d2] => { results := [.lit (.bool false)], args := [d1, d2] }
  | _ => none }
def ScalarOneWrongFalsely : Prop := scalarOneRow.holds Tryz.pinned (OpenSpec.ofChange scalarOneWrong)

/-- 'glyphlaw05.ScalarNumbers': WHATEVER THE INPUT: true; the input reads as it did. -/
def scalarNumbersSpec : ChangeSpec := { name := "scalarNumbers", fn := fun _ => fun
  | [d1, d2, d3] => { results := [.lit (.bool true)], args := [d1, d2, d3] }
  | _ => none }
def scalarNumbersRow : OpenClaim := { program := "ytbeekjoeaigngaagreat", sum := "50b998f45e47d493a9556b34ce1448c923e0f5025ef8c2301cdd1a8ae80891aa", func := "glyph/glyphlaw05.ScalarNumbers", spec := "scalarNumbers", unfollowed := true, recurses := true, named := ["math/bits.overflowError"], apart := false }
def ScalarNumbersSaid : Prop := scalarNumbersRow.holds Tryz.pinned (OpenSpec.ofChange scalarNumbersSpec)

/-- ITS FALSE NEIGHBOUR: 'it returns false'. Refute it at one input. -/
def scalarNumbersWrong : ChangeSpec := { name := "scalarNumbers", fn := fun _ => fun
  | [d1, d2, d3] => { results := [.lit (.bool false)], args := [d1, d2, d3] }
  | _ => none }
def ScalarNumbersWrongFalsely : Prop := scalarNumbersRow.holds Tryz.pinned (OpenSpec.ofChange scalarNumbersWrong)

/-- 'glyphlaw05.ScalarZero': WHATEVER THE INPUT: true; the input reads as it did. -/
def scalarZeroSpec : ChangeSpec := { name := "scalarZero", fn := fun _ => fun
  | [d] => { results := [.lit (.bool true)], args := [d] }
  | _ => none }
def scalarZeroRow : OpenClaim := { program := "ytbeekjoeaigngaagreat", sum := "50b998f45e47d493a9556b34ce1448c923e0f5025ef8c2301cdd1a8ae80891aa", func := "glyph/glyphlaw05.ScalarZero", spec := "scalarZero", unfollowed := true, recurses := true, named := ["math/bits.overflowError"], loops := true, apart := false }
def ScalarZeroSaid : Prop := scalarZeroRow.holds Tryz.pinned (OpenSpec.ofChange scalarZeroSpec)

/-- ITS FALSE NEIGHBOUR: 'it returns false'. Refute it at one input. -/
def scalarZeroWrong : ChangeSpec := { name := "scalarZero", fn := fun _ => fun
  | [d] => { results := [.lit (.bool false)], args := [d] }
  | _ => none }
def ScalarZeroWrongFalsely : Prop := scalarZeroRow.holds Tryz.pinned (OpenSpec.ofChange scalarZeroWrong)

/-- 'glyphlaw05.ScalarIdentity': WHATEVER THE INPUT: true; the input reads as it did. -/
def scalarIdentitySpec : ChangeSpec := { name := "scalarIdentity", fn := fun _ => fun
  | [d] => { results := [.lit (.bool true)], args := [d] }
  | _ => none }
def scalarIdentityRow : OpenClaim := { program := "ytbeekjoeaigngaagreat", sum := "50b998f45e47d493a9556b34ce1448c923e0f5025ef8c2301cdd1a8ae80891aa", func := "glyph/glyphlaw05.ScalarIdentity", spec := "scalarIdentity", unfollowed := true, recurses := true, named := ["math/bits.overflowError"], loops := true, apart := false }
def ScalarIdentitySaid : Prop := scalarIdentityRow.holds Tryz.pinned (OpenSpec.ofChange scalarIdentitySpec)

/-- ITS FALSE NEIGHBOUR: 'it returns false'. Refute it at one input. -/
def scalarIdentityWrong : ChangeSpec := { name := "scalarIdentity", fn := fun _ => fun
  | [d] => { results := [.lit (.bool false)], args := [d] }
  | _ => none }
def ScalarIdentityWrongFalsely : Prop := scalarIdentityRow.holds Tryz.pinned (OpenSpec.ofChange scalarIdentityWrong)

/-- 'glyphlaw05.ScalarLogic': WHATEVER THE INPUT: true; the input reads as it did. -/
def scalarLogicSpec : ChangeSpec := { name := "scalarLogic", fn := fun _ => fun
  | [d1, d2] => { results := [.lit (.bool true)], args := [d1, d2] }
  | _ => none }
def scalarLogicRow : OpenClaim := { program := "ytbeekjoeaigngaagreat", sum := "50b998f45e47d493a9556b34ce1448c923e0f5025ef8c2301cdd1a8ae80891aa", func := "glyph/glyphlaw05.ScalarLogic", spec := "scalarLogic", unfollowed := true, recurses := true, named := ["math/bits.overflowError"], apart := false }
def ScalarLogicSaid : Prop := scalarLogicRow.holds Tryz.pinned (OpenSpec.ofChange scalarLogicSpec)

/-- ITS FALSE NEIGHBOUR: 'it returns false'. Refute it at one input. -/
def scalarLogicWrong : ChangeSpec := { name := "scalarLogic", fn := fun _ => fun
  | [d1, d2] => { results := [.lit (.bool false)], args := [d1, d2] }
  | _ => none }
def ScalarLogicWrongFalsely : Prop := scalarLogicRow.holds Tryz.pinned (OpenSpec.ofChange scalarLogicWrong)

/- THE SECOND FORM. 'bulk': how many values and letters a reading holds, each counted each time it is reached (what is shared counts as often as it is met; a slice's spare places count too). A statement '..UptoSaid' is the law's where the arguments, and the package variables that the reading takes, are together of bulk at most 1048576: NARROWER than '..Said'. Prove '..Said' where nothing that the law and all that it calls make is longer than what came in: it says more and counts as full. Else prove '..UptoSaid'. A law counts once. -/
mutual
def uptoBulk {H : Type} : DataW H → Nat
  | .lit (.string bytes) => bytes.length + 1
  | .lit _ => 1
  | .nil => 1
  | .ptr d => uptoBulk d + 1
  | .slice elems spare => uptoBulkAll elems + uptoBulkAll spare + 1
  | .agg parts => uptoBulkAll parts + 1
  | .iface _ d => uptoBulk d + 1
  | .map entries => uptoBulkEntries entries + 1
  | .held _ => 1
def uptoBulkAll {H : Type} : List (DataW H) → Nat
  | [] => 0
  | d :: r => uptoBulk d + uptoBulkAll r
def uptoBulkEntries {H : Type} : List (Lit × DataW H) → Nat
  | [] => 0
  | x :: r => uptoBulkEntry x + uptoBulkEntries r
def uptoBulkEntry {H : Type} : Lit × DataW H → Nat
  | (.string bytes, d) => bytes.length + uptoBulk d + 1
  | (_, d) => uptoBulk d + 1
 end
def uptoSmall : (H : Type) → List (DataW H) → Bool := fun _ ds => decide (uptoBulkAll ds ≤ 1048576)
def OpenSpec.upto (s : _root_.Go.ChangeSpec) : _root_.Go.OpenSpec := { _root_.Go.OpenSpec.ofChange s with cond := some uptoSmall }

/-- 'glyphtop.TopMoves', WHERE WHAT IT READS IS OF BULK AT MOST 1048576: true; the input reads as it did. -/
def topMovesUptoRow : OpenClaim := { program := "ytbeekjoeaigngaagreat", sum := "50b998f45e47d493a9556b34ce1448c923e0f5025ef8c2301cdd1a8ae80891aa", func := "glyph/glyphtop.TopMoves", spec := "topMoves", unfollowed := true, recurses := true, named := ["math/bits.overflowError"], loops := true, apart := false, narrowed := true }
def TopMovesUptoSaid : Prop := topMovesUptoRow.holds Tryz.pinned (OpenSpec.upto topMovesSpec)

/-- 'glyphlaw05.ScalarTurns', WHERE WHAT IT READS IS OF BULK AT MOST 1048576: true; the input reads as it did. -/
def scalarTurnsUptoRow : OpenClaim := { program := "ytbeekjoeaigngaagreat", sum := "50b998f45e47d493a9556b34ce1448c923e0f5025ef8c2301cdd1a8ae80891aa", func := "glyph/glyphlaw05.ScalarTurns", spec := "scalarTurns", unfollowed := true, recurses := true, named := ["math/bits.overflowError"], loops := true, apart := false, narrowed := true }
def ScalarTurnsUptoSaid : Prop := scalarTurnsUptoRow.holds Tryz.pinned (OpenSpec.upto scalarTurnsSpec)

/-- 'glyphlaw05.ScalarOne', WHERE WHAT IT READS IS OF BULK AT MOST 1048576: true; the input reads as it did. -/
def scalarOneUptoRow : OpenClaim := { program := "ytbeekjoeaigngaagreat", sum := "50b998f45e47d493a9556b34ce1448c923e0f5025ef8c2301cdd1a8ae80891aa", func := "glyph/glyphlaw05.ScalarOne", spec := "scalarOne", unfollowed := true, recurses := true, named := ["math/bits.overflowError"], apart := false, narrowed := true }
def ScalarOneUptoSaid : Prop := scalarOneUptoRow.holds Tryz.pinned (OpenSpec.upto scalarOneSpec)

/-- 'glyphlaw05.ScalarNumbers', WHERE WHAT IT READS IS OF BULK AT MOST 1048576: true; the input reads as it did. -/
def scalarNumbersUptoRow : OpenClaim := { program := "ytbeekjoeaigngaagreat", sum := "50b998f45e47d493a9556b34ce1448c923e0f5025ef8c2301cdd1a8ae80891aa", func := "glyph/glyphlaw05.ScalarNumbers", spec := "scalarNumbers", unfollowed := true, recurses := true, named := ["math/bits.overflowError"], apart := false, narrowed := true }
def ScalarNumbersUptoSaid : Prop := scalarNumbersUptoRow.holds Tryz.pinned (OpenSpec.upto scalarNumbersSpec)

/-- 'glyphlaw05.ScalarZero', WHERE WHAT IT READS IS OF BULK AT MOST 1048576: true; the input reads as it did. -/
def scalarZeroUptoRow : OpenClaim := { program := "ytbeekjoeaigngaagreat", sum := "50b998f45e47d493a9556b34ce1448c923e0f5025ef8c2301cdd1a8ae80891aa", func := "glyph/glyphlaw05.ScalarZero", spec := "scalarZero", unfollowed := true, recurses := true, named := ["math/bits.overflowError"], loops := true, apart := false, narrowed := true }
def ScalarZeroUptoSaid : Prop := scalarZeroUptoRow.holds Tryz.pinned (OpenSpec.upto scalarZeroSpec)

/-- 'glyphlaw05.ScalarIdentity', WHERE WHAT IT READS IS OF BULK AT MOST 1048576: true; the input reads as it did. -/
def scalarIdentityUptoRow : OpenClaim := { program := "ytbeekjoeaigngaagreat", sum := "50b998f45e47d493a9556b34ce1448c923e0f5025ef8c2301cdd1a8ae80891aa", func := "glyph/glyphlaw05.ScalarIdentity", spec := "scalarIdentity", unfollowed := true, recurses := true, named := ["math/bits.overflowError"], loops := true, apart := false, narrowed := true }
def ScalarIdentityUptoSaid : Prop := scalarIdentityUptoRow.holds Tryz.pinned (OpenSpec.upto scalarIdentitySpec)

/-- 'glyphlaw05.ScalarLogic', WHERE WHAT IT READS IS OF BULK AT MOST 1048576: true; the input reads as it did. -/
def scalarLogicUptoRow : OpenClaim := { program := "ytbeekjoeaigngaagreat", sum := "50b998f45e47d493a9556b34ce1448c923e0f5025ef8c2301cdd1a8ae80891aa", func := "glyph/glyphlaw05.ScalarLogic", spec := "scalarLogic", unfollowed := true, recurses := true, named := ["math/bits.overflowError"], apart := false, narrowed := true }
def ScalarLogicUptoSaid : Prop := scalarLogicUptoRow.holds Tryz.pinned (OpenSpec.upto scalarLogicSpec)

end Rows
end Go.Proofs.YtbeekjoeaigngaaGreat
