/-
  No cell of these rows narrows 'for every input' (looked for: loops, veiled, ifaces, maps, wideKeys, modest, calm, conditions, laid).
  DERIVED. THE GIVEN ROWS OF THIS SEAT. 4 by the template 'for every input the law returns true; each argument reads behind the call as it read before'; 0 by the template 'total and deterministic' (their statements: YtppnndhekikagaaTotals.lean).
  GIVEN WITH THE SEED: the statements are not yours to turn. If you find one false, say at which input.
  Laid BY PROGRAM, IN A SANDBOX (cutbox-rows.mjs): the forced cells as the released guide's own fill.sh prints them over the translation ec352f76801ba8dc… (all of the seat's roots in one cut). By AI agents, Wed Nov 11 2026. No macro, syntax, notation, axiom, sorry.
-/
import Derived.Test.YtppnndhekikagaaChecked
import GoSem.Claim
import GoSem.ClaimJoined
import GoSem.ClaimMapViews
import Derived.JoinedTies
import Derived.KernelRfl
namespace Go.Proofs.Ytppnndhekikagaa
/- THE CELL 'sum', in the pinned program and in every row, IS THE sha256 OF THE DUMP (.gsa) THAT YtppnndhekikagaaProg.lean LOADS. Nothing in Lean hashes anything: it is a label: what it is worth is what the hold of that sum in a sandbox is worth. -/
noncomputable def Try.pinned : Pinned := { name := "ytppnndhekikagaa", sum := "ec352f76801ba8dc27b44dd039ba9a953e16cddd8f8410e29ab7cbd3a18f5b99", checked := Try.checked }
namespace Rows
def none {H : Type} : Left H := { results := [], args := [] }

/-- 'highroadlaw36.GenDice': WHATEVER THE INPUT: true; the input reads as it did. -/
def genDiceSpec : ChangeSpec := { name := "genDice", fn := fun _ => fun
  | [d1, d2] => { results := [.lit (.bool true)], args := [d1, d2] }
  | _ => none }
def genDiceRow : OpenClaim := { program := "ytppnndhekikagaa", sum := "ec352f76801ba8dc27b44dd039ba9a953e16cddd8f8410e29ab7cbd3a18f5b99", func := "highroad/highroadlaw36.GenDice", spec := "genDice", apart := false }
def GenDiceSaid : Prop := genDiceRow.holds Try.pinned (OpenSpec.ofChange genDiceSpec)

/-- ITS FALSE NEIGHBOUR: 'it returns false'. Refute it at one input. -/
def genDiceWrong : ChangeSpec := { name := "genDice", fn := fun _ => fun
  | [d1, d2] => { results := [.lit (.bool false)], args := [d1, d2] }
  | _ => none }
def GenDiceWrongFalsely : Prop := genDiceRow.holds Try.pinned (OpenSpec.ofChange genDiceWrong)

/-- 'highroadlaw36.GenGrids': WHATEVER THE INPUT: true; the input reads as it did. -/
def genGridsSpec : ChangeSpec := { name := "genGrids", fn := fun _ => fun
  | [d1, d2, d3, d4] => { results := [.lit (.bool true)], args := [d1, d2, d3, d4] }
  | _ => none }
def genGridsRow : OpenClaim := { program := "ytppnndhekikagaa", sum := "ec352f76801ba8dc27b44dd039ba9a953e16cddd8f8410e29ab7cbd3a18f5b99", func := "highroad/highroadlaw36.GenGrids", spec := "genGrids", unfollowed := true, recurses := true, apart := false }
def GenGridsSaid : Prop := genGridsRow.holds Try.pinned (OpenSpec.ofChange genGridsSpec)

/-- ITS FALSE NEIGHBOUR: 'it returns false'. Refute it at one input. -/
def genGridsWrong : ChangeSpec := { name := "genGrids", fn := fun _ => fun
  | [d1, d2, d3, d4] => { results := [.lit (.bool false)], args := [d1, d2, d3, d4] }
  | _ => none }
def GenGridsWrongFalsely : Prop := genGridsRow.holds Try.pinned (OpenSpec.ofChange genGridsWrong)

/-- 'highroadlaw36.GenMakes': WHATEVER THE INPUT: true; the input reads as it did. -/
def genMakesSpec : ChangeSpec := { name := "genMakes", fn := fun _ => fun
  | [d1, d2, d3, d4, d5] => { results := [.lit (.bool true)], args := [d1, d2, d3, d4, d5] }
  | _ => none }
def genMakesRow : OpenClaim := { program := "ytppnndhekikagaa", sum := "ec352f76801ba8dc27b44dd039ba9a953e16cddd8f8410e29ab7cbd3a18f5b99", func := "highroad/highroadlaw36.GenMakes", spec := "genMakes", unfollowed := true, recurses := true, apart := false }
def GenMakesSaid : Prop := genMakesRow.holds Try.pinned (OpenSpec.ofChange genMakesSpec)

/-- ITS FALSE NEIGHBOUR: 'it returns false'. Refute it at one input. -/
def genMakesWrong : ChangeSpec := { name := "genMakes", fn := fun _ => fun
  | [d1, d2, d3, d4, d5] => { results := [.lit (.bool false)], args := [d1, d2, d3, d4, d5] }
  | _ => none }
def GenMakesWrongFalsely : Prop := genMakesRow.holds Try.pinned (OpenSpec.ofChange genMakesWrong)

/-- 'highroadlaw36.GenRight': WHATEVER THE INPUT: true; the input reads as it did. -/
def genRightSpec : ChangeSpec := { name := "genRight", fn := fun _ => fun
  | [d1, d2, d3, d4] => { results := [.lit (.bool true)], args := [d1, d2, d3, d4] }
  | _ => none }
def genRightRow : OpenClaim := { program := "ytppnndhekikagaa", sum := "ec352f76801ba8dc27b44dd039ba9a953e16cddd8f8410e29ab7cbd3a18f5b99", func := "highroad/highroadlaw36.GenRight", spec := "genRight", unfollowed := true, recurses := true, apart := false }
def GenRightSaid : Prop := genRightRow.holds Try.pinned (OpenSpec.ofChange genRightSpec)

/-- ITS FALSE NEIGHBOUR: 'it returns false'. Refute it at one input. -/
def genRightWrong : ChangeSpec := { name := "genRight", fn := fun _ => fun
  | [d1, d2, d3, d4] => { results := [.lit (.bool false)], args := [d1, d2, d3, d4] }
  | _ => none }
def GenRightWrongFalsely : Prop := genRightRow.holds Try.pinned (OpenSpec.ofChange genRightWrong)

/- THE SECOND FORM. 'bulk': how many values and letters a reading holds, each counted each time it is reached (what is shared counts as often as it is met; a slice's spare places count too). A statement '..UptoSaid' is the law's where the arguments, and the package variables that the reading takes, are together of bulk at most 1048576: NARROWER than '..Said'. Prove '..Said' where nothing that the law and all that it calls make is longer than what came in: it says more and counts as full. Else prove '..UptoSaid'. A law counts once. -/
mutual
def uptoBulk {H : Type} : DataW H → Nat
  | .lit (.string bytes) => bytes.length + 1
  | .lit _ => 1
  | .nil => 1
  | .ptr d => uptoBulk d + 1
  | .slice elems spare => uptoBulkAll elems + uptoBulkAll spare + 1
  | .agg parts => uptoBulkAll parts + 1
  | .iface _ d => uptoBulk d + 1
  | .map entries => uptoBulkEntries entries + 1
  | .held _ => 1
def uptoBulkAll {H : Type} : List (DataW H) → Nat
  | [] => 0
  | d :: r => uptoBulk d + uptoBulkAll r
def uptoBulkEntries {H : Type} : List (Lit × DataW H) → Nat
  | [] => 0
  | x :: r => uptoBulkEntry x + uptoBulkEntries r
def uptoBulkEntry {H : Type} : Lit × DataW H → Nat
  | (.string bytes, d) => bytes.length + uptoBulk d + 1
  | (_, d) => uptoBulk d + 1
 end
def uptoSmall : (H : Type) → List (DataW H) → Bool := fun _ ds => decide (uptoBulkAll ds ≤ 1048576)
def OpenSpec.upto (s : _root_.Go.ChangeSpec) : _root_.Go.OpenSpec := { _root_.Go.OpenSpec.ofChange s with cond := some uptoSmall }

/-- 'highroadlaw36.GenDice', WHERE WHAT IT READS IS OF BULK AT MOST 1048576: true; the input reads as it did. -/
def genDiceUptoRow : OpenClaim := { program := "ytppnndhekikagaa", sum := "ec352f76801ba8dc27b44dd039ba9a953e16cddd8f8410e29ab7cbd3a18f5b99", func := "highroad/highroadlaw36.GenDice", spec := "genDice", apart := false, narrowed := true }
def GenDiceUptoSaid : Prop := genDiceUptoRow.holds Try.pinned (OpenSpec.upto genDiceSpec)

/-- 'highroadlaw36.GenGrids', WHERE WHAT IT READS IS OF BULK AT MOST 1048576: true; the input reads as it did. -/
def genGridsUptoRow : OpenClaim := { program := "ytppnndhekikagaa", sum := "ec352f76801ba8dc27b44dd039ba9a953e16cddd8f8410e29ab7cbd3a18f5b99", func := "highroad/highroadlaw36.GenGrids", spec := "genGrids", unfollowed := true, recurses := true, apart := false, narrowed := true }
def GenGridsUptoSaid : Prop := genGridsUptoRow.holds Try.pinned (OpenSpec.upto genGridsSpec)

/-- 'highroadlaw36.GenMakes', WHERE WHAT IT READS IS OF BULK AT MOST 1048576: true; the input reads as it did. -/
def genMakesUptoRow : OpenClaim := { program := "ytppnndhekikagaa", sum := "ec352f76801ba8dc27b44dd039ba9a953e16cddd8f8410e29ab7cbd3a18f5b99", func := "highroad/highroadlaw36.GenMakes", spec := "genMakes", unfollowed := true, recurses := true, apart := false, narrowed := true }
def GenMakesUptoSaid : Prop := genMakesUptoRow.holds Try.pinned (OpenSpec.upto genMakesSpec)

/-- 'highroadlaw36.GenRight', WHERE WHAT IT READS IS OF BULK AT MOST 1048576: true; the input reads as it did. -/
def genRightUptoRow : OpenClaim := { program := "ytppnndhekikagaa", sum := "ec352f76801ba8dc27b44dd039ba9a953e16cddd8f8410e29ab7cbd3a18f5b99", func := "highroad/highroadlaw36.GenRight", spec := "genRight", unfollowed := true, recurses := true, apart := false, narrowed := true }
def GenRightUptoSaid : Prop := genRightUptoRow.holds Try.pinned (OpenSpec.upto genRightSpec)

end Rows
end Go.Proofs.Ytppnndhekikagaa
