/-
  NARROWER THAN 'FOR EVERY INPUT', by the rows' own cells (each row's printed sentence says how): CodesErrors: laid · CodesWords: laid · CodesSame: laid.
  DERIVED. THE GIVEN ROWS OF THIS SEAT. 3 by the template 'for every input the law returns true; each argument reads behind the call as it read before'; 0 by the template 'total and deterministic' (their statements: YtpoccibneoankaaDoorTotals.lean).
  GIVEN WITH THE SEED: the statements are not yours to turn. If you find one false, say at which input.
  Laid BY PROGRAM, IN A SANDBOX (cutbox-rows.mjs): the forced cells as the released guide's own fill.sh prints them over the translation 2de7279e922aad48… (all of the seat's roots in one cut). By AI agents, Wed Nov 11 2026. No macro, syntax, notation, axiom, sorry.
-/
import Derived.Test.YtpoccibneoankaaDoorChecked
import GoSem.Claim
import GoSem.ClaimJoined
import GoSem.ClaimMapViews
import Derived.JoinedTies
import Derived.KernelRfl
namespace Go.Proofs.YtpoccibneoankaaDoor
/- THE CELL 'sum', in the pinned program and in every row, IS THE sha256 OF THE DUMP (.gsa) THAT YtpoccibneoankaaDoorProg.lean LOADS. Nothing in Lean hashes anything: it is a label: what it is worth is what the hold of that sum in a sandbox is worth. -/
noncomputable def Tryd.pinned : Pinned := { name := "ytpoccibneoankaadoor", sum := "2de7279e922aad483bac324e239129f9da1811ea3164cfbfebc625e74dd10b19", checked := Tryd.checked }
namespace Rows
def none {H : Type} : Left H := { results := [], args := [] }

/- WHAT THE LISTED PACKAGE-LEVEL VARIABLES READ AS WHEN THE CALL BEGINS. Each datum BY PROGRAM (the guide's laid-datum.mjs) off the statement by which the dump's own 'gosem.cut.vars' lays the variable. In a bare row this is a premise. The card (YtpoccibneoankaaDoorCards.lean) ties it to the program's text. -/
def laid_errors_errorType {H : Type} : DataW H := .iface "internal/reflectlite.rtype" (.agg [.ptr (.lit (.string [101, 114, 114, 111, 114]))])

/-- 'highroadlaw04.CodesErrors': WHATEVER THE INPUT: true; the input reads as it did. -/
def codesErrorsSpec : ChangeSpec := { name := "codesErrors", fn := fun _ => fun
  | [d1, d2, d3] => { results := [.lit (.bool true)], args := [d1, d2, d3] }
  | _ => none }
def codesErrorsRow : OpenClaim := { program := "ytpoccibneoankaadoor", sum := "2de7279e922aad483bac324e239129f9da1811ea3164cfbfebc625e74dd10b19", func := "highroad/highroadlaw04.CodesErrors", spec := "codesErrors", inPlace := ["internal/reflectlite.ValueOf", "(internal/reflectlite.Value).Type", "(internal/reflectlite.Value).IsNil", "internal/reflectlite.TypeOf", "(internal/reflectlite.Value).Elem", "(internal/reflectlite.Value).Set"], unfollowed := true, recurses := true, named := ["errors.errorType"], apart := false, laid := [("errors.errorType", laid_errors_errorType)] }
def CodesErrorsSaid : Prop := codesErrorsRow.holds Tryd.pinned (OpenSpec.ofChange codesErrorsSpec)

/-- ITS FALSE NEIGHBOUR: 'it returns false'. Refute it at one input. -/
def codesErrorsWrong : ChangeSpec := { name := "codesErrors", fn := fun _ => fun
  | [d1, d2, d3] => { results := [.lit (.bool false)], args := [d1, d2, d3] }
  | _ => none }
def CodesErrorsWrongFalsely : Prop := codesErrorsRow.holds Tryd.pinned (OpenSpec.ofChange codesErrorsWrong)

/-- 'highroadlaw04.CodesWords': WHATEVER THE INPUT: true; the input reads as it did. -/
def codesWordsSpec : ChangeSpec := { name := "codesWords", fn := fun _ => fun
  | [d1, d2] => { results := [.lit (.bool true)], args := [d1, d2] }
  | _ => none }
def codesWordsRow : OpenClaim := { program := "ytpoccibneoankaadoor", sum := "2de7279e922aad483bac324e239129f9da1811ea3164cfbfebc625e74dd10b19", func := "highroad/highroadlaw04.CodesWords", spec := "codesWords", inPlace := ["internal/reflectlite.ValueOf", "(internal/reflectlite.Value).Type", "(internal/reflectlite.Value).IsNil", "internal/reflectlite.TypeOf", "(internal/reflectlite.Value).Elem", "(internal/reflectlite.Value).Set"], unfollowed := true, recurses := true, named := ["errors.errorType"], apart := false, laid := [("errors.errorType", laid_errors_errorType)] }
def CodesWordsSaid : Prop := codesWordsRow.holds Tryd.pinned (OpenSpec.ofChange codesWordsSpec)

/-- ITS FALSE NEIGHBOUR: 'it returns false'. Refute it at one input. -/
def codesWordsWrong : ChangeSpec := { name := "codesWords", fn := fun _ => fun
  | [d1, d2] => { results := [.lit (.bool false)], args := [d1, d2] }
  | _ => none }
def CodesWordsWrongFalsely : Prop := codesWordsRow.holds Tryd.pinned (OpenSpec.ofChange codesWordsWrong)

/-- 'highroadlaw04.CodesSame': WHATEVER THE INPUT: true; the input reads as it did. -/
def codesSameSpec : ChangeSpec := { name := "codesSame", fn := fun _ => fun
  | [d1, d2, d3] => { results := [.lit (.bool true)], args := [d1, d2, d3] }
  | _ => none }
def codesSameRow : OpenClaim := { program := "ytpoccibneoankaadoor", sum := "2de7279e922aad483bac324e239129f9da1811ea3164cfbfebc625e74dd10b19", func := "highroad/highroadlaw04.CodesSame", spec := "codesSame", inPlace := ["internal/reflectlite.ValueOf", "(internal/reflectlite.Value).Type", "(internal/reflectlite.Value).IsNil", "internal/reflectlite.TypeOf", "(internal/reflectlite.Value).Elem", "(internal/reflectlite.Value).Set"], unfollowed := true, recurses := true, named := ["errors.errorType"], apart := false, laid := [("errors.errorType", laid_errors_errorType)] }
def CodesSameSaid : Prop := codesSameRow.holds Tryd.pinned (OpenSpec.ofChange codesSameSpec)

/-- ITS FALSE NEIGHBOUR: 'it returns false'. Refute it at one input. -/
def codesSameWrong : ChangeSpec := { name := "codesSame", fn := fun _ => fun
  | [d1, d2, d3] => { results := [.lit (.bool false)], args := [d1, d2, d3] }
  | _ => none }
def CodesSameWrongFalsely : Prop := codesSameRow.holds Tryd.pinned (OpenSpec.ofChange codesSameWrong)

/- THE SECOND FORM. 'bulk': how many values and letters a reading holds, each counted each time it is reached (what is shared counts as often as it is met; a slice's spare places count too). A statement '..UptoSaid' is the law's where the arguments, and the package variables that the reading takes, are together of bulk at most 1048576: NARROWER than '..Said'. Prove '..Said' where nothing that the law and all that it calls make is longer than what came in: it says more and counts as full. Else prove '..UptoSaid'. A law counts once. -/
mutual
def uptoBulk {H : Type} : DataW H → Nat
  | .lit (.string bytes) => bytes.length + 1
  | .lit _ => 1
  | .nil => 1
  | .ptr d => uptoBulk d + 1
  | .slice elems spare => uptoBulkAll elems + uptoBulkAll spare + 1
  | .agg parts => uptoBulkAll parts + 1
  | .iface _ d => uptoBulk d + 1
  | .map entries => uptoBulkEntries entries + 1
  | .held _ => 1
def uptoBulkAll {H : Type} : List (DataW H) → Nat
  | [] => 0
  | d :: r => uptoBulk d + uptoBulkAll r
def uptoBulkEntries {H : Type} : List (Lit × DataW H) → Nat
  | [] => 0
  | x :: r => uptoBulkEntry x + uptoBulkEntries r
def uptoBulkEntry {H : Type} : Lit × DataW H → Nat
  | (.string bytes, d) => bytes.length + uptoBulk d + 1
  | (_, d) => uptoBulk d + 1
 end
def uptoSmall : (H : Type) → List (DataW H) → Bool := fun _ ds => decide (uptoBulkAll ds ≤ 1048576)
def OpenSpec.upto (s : _root_.Go.ChangeSpec) : _root_.Go.OpenSpec := { _root_.Go.OpenSpec.ofChange s with cond := some uptoSmall }

/-- 'highroadlaw04.CodesErrors', WHERE WHAT IT READS IS OF BULK AT MOST 1048576: true; the input reads as it did. -/
def codesErrorsUptoRow : OpenClaim := { program := "ytpoccibneoankaadoor", sum := "2de7279e922aad483bac324e239129f9da1811ea3164cfbfebc625e74dd10b19", func := "highroad/highroadlaw04.CodesErrors", spec := "codesErrors", inPlace := ["internal/reflectlite.ValueOf", "(internal/reflectlite.Value).Type", "(internal/reflectlite.Value).IsNil", "internal/reflectlite.TypeOf", "(internal/reflectlite.Value).Elem", "(internal/reflectlite.Value).Set"], unfollowed := true, recurses := true, named := ["errors.errorType"], apart := false, laid := [("errors.errorType", laid_errors_errorType)], narrowed := true }
def CodesErrorsUptoSaid : Prop := codesErrorsUptoRow.holds Tryd.pinned (OpenSpec.upto codesErrorsSpec)

/-- 'highroadlaw04.CodesWords', WHERE WHAT IT READS IS OF BULK AT MOST 1048576: true; the input reads as it did. -/
def codesWordsUptoRow : OpenClaim := { program := "ytpoccibneoankaadoor", sum := "2de7279e922aad483bac324e239129f9da1811ea3164cfbfebc625e74dd10b19", func := "highroad/highroadlaw04.CodesWords", spec := "codesWords", inPlace := ["internal/reflectlite.ValueOf", "(internal/reflectlite.Value).Type", "(internal/reflectlite.Value).IsNil", "internal/reflectlite.TypeOf", "(internal/reflectlite.Value).Elem", "(internal/reflectlite.Value).Set"], unfollowed := true, recurses := true, named := ["errors.errorType"], apart := false, laid := [("errors.errorType", laid_errors_errorType)], narrowed := true }
def CodesWordsUptoSaid : Prop := codesWordsUptoRow.holds Tryd.pinned (OpenSpec.upto codesWordsSpec)

/-- 'highroadlaw04.CodesSame', WHERE WHAT IT READS IS OF BULK AT MOST 1048576: true; the input reads as it did. -/
def codesSameUptoRow : OpenClaim := { program := "ytpoccibneoankaadoor", sum := "2de7279e922aad483bac324e239129f9da1811ea3164cfbfebc625e74dd10b19", func := "highroad/highroadlaw04.CodesSame", spec := "codesSame", inPlace := ["internal/reflectlite.ValueOf", "(internal/reflectlite.Value).Type", "(internal/reflectlite.Value).IsNil", "internal/reflectlite.TypeOf", "(internal/reflectlite.Value).Elem", "(internal/reflectlite.Value).Set"], unfollowed := true, recurses := true, named := ["errors.errorType"], apart := false, laid := [("errors.errorType", laid_errors_errorType)], narrowed := true }
def CodesSameUptoSaid : Prop := codesSameUptoRow.holds Tryd.pinned (OpenSpec.upto codesSameSpec)

end Rows
end Go.Proofs.YtpoccibneoankaaDoor
