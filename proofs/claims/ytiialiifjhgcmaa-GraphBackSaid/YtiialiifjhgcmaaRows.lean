/-
  No cell of these rows narrows 'for every input' (looked for: loops, veiled, ifaces, maps, wideKeys, modest, calm, conditions, laid).
  DERIVED. THE GIVEN ROWS OF THIS SEAT. 4 by the template 'for every input the law returns true; each argument reads behind the call as it read before'; 0 by the template 'total and deterministic' (their statements: YtiialiifjhgcmaaTotals.lean).
  GIVEN WITH THE SEED: the statements are not yours to turn. If you find one false, say at which input.
  Laid BY PROGRAM, IN A SANDBOX (cutbox-rows.mjs): the forced cells as the released guide's own fill.sh prints them over the translation 9133a1a68f2fcc38… (all of the seat's roots in one cut). By AI agents, Wed Nov 11 2026. No macro, syntax, notation, axiom, sorry.
-/
import Derived.Test.YtiialiifjhgcmaaChecked
import GoSem.Claim
import GoSem.ClaimJoined
import GoSem.ClaimMapViews
import Derived.JoinedTies
import Derived.KernelRfl
namespace Go.Proofs.Ytiialiifjhgcmaa
/- THE CELL 'sum', in the pinned program and in every row, IS THE sha256 OF THE DUMP (.gsa) THAT YtiialiifjhgcmaaProg.lean LOADS. Nothing in Lean hashes anything: it is a label: what it is worth is what the hold of that sum in a sandbox is worth. -/
noncomputable def Try.pinned : Pinned := { name := "ytiialiifjhgcmaa", sum := "9133a1a68f2fcc38cfc58e1ceb8064ffcf46da148e674faf5bfecde1fdf49294", checked := Try.checked }
namespace Rows
def none {H : Type} : Left H := { results := [], args := [] }

/-- 'highroadlaw05.GraphLooks': WHATEVER THE INPUT: true; the input reads as it did. -/
def graphLooksSpec : ChangeSpec := { name := "graphLooks", fn := fun _ => fun
  | [d1, d2, d3, d4] => { results := [.lit (.bool true)], args := [d1, d2, d3, d4] }
  | _ => none }
def graphLooksRow : OpenClaim := { program := "ytiialiifjhgcmaa", sum := "9133a1a68f2fcc38cfc58e1ceb8064ffcf46da148e674faf5bfecde1fdf49294", func := "highroad/highroadlaw05.GraphLooks", spec := "graphLooks", unfollowed := true, recurses := true, apart := false }
def GraphLooksSaid : Prop := graphLooksRow.holds Try.pinned (OpenSpec.ofChange graphLooksSpec)

/-- ITS FALSE NEIGHBOUR: 'it returns false'. Refute it at one input. -/
def graphLooksWrong : ChangeSpec := { name := "graphLooks", fn := fun _ => fun
  | [d1, d2, d3, d4] => { results := [.lit (.bool false)], args := [d1, d2, d3, d4] }
  | _ => none }
def GraphLooksWrongFalsely : Prop := graphLooksRow.holds Try.pinned (OpenSpec.ofChange graphLooksWrong)

/-- 'highroadlaw05.GraphTurns': WHATEVER THE INPUT: true; the input reads as it did. -/
def graphTurnsSpec : ChangeSpec := { name := "graphTurns", fn := fun _ => fun
  | [d] => { results := [.lit (.bool true)], args := [d] }
  | _ => none }
def graphTurnsRow : OpenClaim := { program := "ytiialiifjhgcmaa", sum := "9133a1a68f2fcc38cfc58e1ceb8064ffcf46da148e674faf5bfecde1fdf49294", func := "highroad/highroadlaw05.GraphTurns", spec := "graphTurns", unfollowed := true, recurses := true, apart := false }
def GraphTurnsSaid : Prop := graphTurnsRow.holds Try.pinned (OpenSpec.ofChange graphTurnsSpec)

/-- ITS FALSE NEIGHBOUR: 'it returns false'. Refute it at one input. -/
def graphTurnsWrong : ChangeSpec := { name := "graphTurns", fn := fun _ => fun
  | [d] => { results := [.lit (.bool false)], args := [d] }
  | _ => none }
def GraphTurnsWrongFalsely : Prop := graphTurnsRow.holds Try.pinned (OpenSpec.ofChange graphTurnsWrong)

/-- 'highroadlaw05.GraphChanges': WHATEVER THE INPUT: true; the input reads as it did. -/
def graphChangesSpec : ChangeSpec := { name := "graphChanges", fn := fun _ => fun
  | [d1, d2, d3, d4] => { results := [.lit (.bool true)], args := [d1, d2, d3, d4] }
  | _ => none }
def graphChangesRow : OpenClaim := { program := "ytiialiifjhgcmaa", sum := "9133a1a68f2fcc38cfc58e1ceb8064ffcf46da148e674faf5bfecde1fdf49294", func := "highroad/highroadlaw05.GraphChanges", spec := "graphChanges", unfollowed := true, recurses := true, apart := false }
def GraphChangesSaid : Prop := graphChangesRow.holds Try.pinned (OpenSpec.ofChange graphChangesSpec)

/-- ITS FALSE NEIGHBOUR: 'it returns false'. Refute it at one input. -/
def graphChangesWrong : ChangeSpec := { name := "graphChanges", fn := fun _ => fun
  | [d1, d2, d3, d4] => { results := [.lit (.bool false)], args := [d1, d2, d3, d4] }
  | _ => none }
def GraphChangesWrongFalsely : Prop := graphChangesRow.holds Try.pinned (OpenSpec.ofChange graphChangesWrong)

/-- 'highroadlaw05.GraphBack': WHATEVER THE INPUT: true; the input reads as it did. -/
def graphBackSpec : ChangeSpec := { name := "graphBack", fn := fun _ => fun
  | [d1, d2, d3] => { results := [.lit (.bool true)], args := [d1, d2, d3] }
  | _ => none }
def graphBackRow : OpenClaim := { program := "ytiialiifjhgcmaa", sum := "9133a1a68f2fcc38cfc58e1ceb8064ffcf46da148e674faf5bfecde1fdf49294", func := "highroad/highroadlaw05.GraphBack", spec := "graphBack", unfollowed := true, recurses := true, apart := false }
def GraphBackSaid : Prop := graphBackRow.holds Try.pinned (OpenSpec.ofChange graphBackSpec)

/-- ITS FALSE NEIGHBOUR: 'it returns false'. Refute it at one input. -/
def graphBackWrong : ChangeSpec := { name := "graphBack", fn := fun _ => fun
  | [d1, d2, d3] => { results := [.lit (.bool false)], args := [d1, d2, d3] }
  | _ => none }
def GraphBackWrongFalsely : Prop := graphBackRow.holds Try.pinned (OpenSpec.ofChange graphBackWrong)

/- THE SECOND FORM. 'bulk': how many values and letters a reading holds, each counted each time it is reached (what is shared counts as often as it is met; a slice's spare places count too). A statement '..UptoSaid' is the law's where the arguments, and the package variables that the reading takes, are together of bulk at most 1048576: NARROWER than '..Said'. Prove '..Said' where nothing that the law and all that it calls make is longer than what came in: it says more and counts as full. Else prove '..UptoSaid'. A law counts once. -/
mutual
def uptoBulk {H : Type} : DataW H → Nat
  | .lit (.string bytes) => bytes.length + 1
  | .lit _ => 1
  | .nil => 1
  | .ptr d => uptoBulk d + 1
  | .slice elems spare => uptoBulkAll elems + uptoBulkAll spare + 1
  | .agg parts => uptoBulkAll parts + 1
  | .iface _ d => uptoBulk d + 1
  | .map entries => uptoBulkEntries entries + 1
  | .held _ => 1
def uptoBulkAll {H : Type} : List (DataW H) → Nat
  | [] => 0
  | d :: r => uptoBulk d + uptoBulkAll r
def uptoBulkEntries {H : Type} : List (Lit × DataW H) → Nat
  | [] => 0
  | x :: r => uptoBulkEntry x + uptoBulkEntries r
def uptoBulkEntry {H : Type} : Lit × DataW H → Nat
  | (.string bytes, d) => bytes.length + uptoBulk d + 1
  | (_, d) => uptoBulk d + 1
 end
def uptoSmall : (H : Type) → List (DataW H) → Bool := fun _ ds => decide (uptoBulkAll ds ≤ 1048576)
def OpenSpec.upto (s : _root_.Go.ChangeSpec) : _root_.Go.OpenSpec := { _root_.Go.OpenSpec.ofChange s with cond := some uptoSmall }

/-- 'highroadlaw05.GraphLooks', WHERE WHAT IT READS IS OF BULK AT MOST 1048576: true; the input reads as it did. -/
def graphLooksUptoRow : OpenClaim := { program := "ytiialiifjhgcmaa", sum := "9133a1a68f2fcc38cfc58e1ceb8064ffcf46da148e674faf5bfecde1fdf49294", func := "highroad/highroadlaw05.GraphLooks", spec := "graphLooks", unfollowed := true, recurses := true, apart := false, narrowed := true }
def GraphLooksUptoSaid : Prop := graphLooksUptoRow.holds Try.pinned (OpenSpec.upto graphLooksSpec)

/-- 'highroadlaw05.GraphTurns', WHERE WHAT IT READS IS OF BULK AT MOST 1048576: true; the input reads as it did. -/
def graphTurnsUptoRow : OpenClaim := { program := "ytiialiifjhgcmaa", sum := "9133a1a68f2fcc38cfc58e1ceb8064ffcf46da148e674faf5bfecde1fdf49294", func := "highroad/highroadlaw05.GraphTurns", spec := "graphTurns", unfollowed := true, recurses := true, apart := false, narrowed := true }
def GraphTurnsUptoSaid : Prop := graphTurnsUptoRow.holds Try.pinned (OpenSpec.upto graphTurnsSpec)

/-- 'highroadlaw05.GraphChanges', WHERE WHAT IT READS IS OF BULK AT MOST 1048576: true; the input reads as it did. -/
def graphChangesUptoRow : OpenClaim := { program := "ytiialiifjhgcmaa", sum := "9133a1a68f2fcc38cfc58e1ceb8064ffcf46da148e674faf5bfecde1fdf49294", func := "highroad/highroadlaw05.GraphChanges", spec := "graphChanges", unfollowed := true, recurses := true, apart := false, narrowed := true }
def GraphChangesUptoSaid : Prop := graphChangesUptoRow.holds Try.pinned (OpenSpec.upto graphChangesSpec)

/-- 'highroadlaw05.GraphBack', WHERE WHAT IT READS IS OF BULK AT MOST 1048576: true; the input reads as it did. -/
def graphBackUptoRow : OpenClaim := { program := "ytiialiifjhgcmaa", sum := "9133a1a68f2fcc38cfc58e1ceb8064ffcf46da148e674faf5bfecde1fdf49294", func := "highroad/highroadlaw05.GraphBack", spec := "graphBack", unfollowed := true, recurses := true, apart := false, narrowed := true }
def GraphBackUptoSaid : Prop := graphBackUptoRow.holds Try.pinned (OpenSpec.upto graphBackSpec)

end Rows
end Go.Proofs.Ytiialiifjhgcmaa
