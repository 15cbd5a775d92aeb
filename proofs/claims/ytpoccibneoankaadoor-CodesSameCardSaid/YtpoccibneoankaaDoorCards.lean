/-
  DERIVED. GIVEN WITH THE SEED: THE CARDS: each row of YtpoccibneoankaaDoorRows.lean that lists a variable, with what it lists TIED to the program's text (the seventh form; the later family's looks); each row that meets fmt, with fmt's text TOLD by the authors' own Lean function (tested against real Go, not proved from fmt's source: count such statements apart). THE CARD IS WHAT COUNTS. Prove the row's statement (the work); the ties are given (YtpoccibneoankaaDoorTie.lean); close each card by the builder's one call (the guide's Derived/Test/ToyasCard.lean, 'card_holds'). Laid BY PROGRAM, IN A SANDBOX (cutbox-door.mjs). By AI agents, Wed Nov 11 2026. No macro, syntax, notation, axiom, sorry.
-/
import Derived.Test.YtpoccibneoankaaDoorRows
import GoSem.ClaimSeven
namespace Go.Proofs.YtpoccibneoankaaDoor
namespace Rows

/-- THE TIED CARD OF 'highroadlaw04.CodesErrors'. -/
def codesErrorsCard : Claim7 := { stood := { row := codesErrorsRow, standIns := [], harness := (true, "91b450298721152d1a8e75dfe046cf0d54bf82fe6ac2d0cc0bb71d05bb8d520f"), looks := true }, kinds := [], alts := [], laidByText := true, laidKinds := [.handle], laidTests := true, laidLooks := .later }
def CodesErrorsCardSaid : Prop := Claim7.holds Tryd.pinned (.plain (OpenSpec.ofChange codesErrorsSpec)) codesErrorsCard

/-- THE TIED CARD OF 'highroadlaw04.CodesWords'. -/
def codesWordsCard : Claim7 := { stood := { row := codesWordsRow, standIns := [], harness := (true, "91b450298721152d1a8e75dfe046cf0d54bf82fe6ac2d0cc0bb71d05bb8d520f"), looks := true }, kinds := [], alts := [], laidByText := true, laidKinds := [.handle], laidTests := true, laidLooks := .later }
def CodesWordsCardSaid : Prop := Claim7.holds Tryd.pinned (.plain (OpenSpec.ofChange codesWordsSpec)) codesWordsCard

/-- THE TIED CARD OF 'highroadlaw04.CodesSame'. -/
def codesSameCard : Claim7 := { stood := { row := codesSameRow, standIns := [], harness := (true, "91b450298721152d1a8e75dfe046cf0d54bf82fe6ac2d0cc0bb71d05bb8d520f"), looks := true }, kinds := [], alts := [], laidByText := true, laidKinds := [.handle], laidTests := true, laidLooks := .later }
def CodesSameCardSaid : Prop := Claim7.holds Tryd.pinned (.plain (OpenSpec.ofChange codesSameSpec)) codesSameCard

/-- THE SECOND FORM's CARD OF 'highroadlaw04.CodesErrors'. -/
def codesErrorsUptoCard : Claim7 := { stood := { row := codesErrorsUptoRow, standIns := [], harness := (true, "91b450298721152d1a8e75dfe046cf0d54bf82fe6ac2d0cc0bb71d05bb8d520f"), looks := true }, kinds := [], alts := [], laidByText := true, laidKinds := [.handle], laidTests := true, laidLooks := .later }
def CodesErrorsUptoCardSaid : Prop := Claim7.holds Tryd.pinned (.plain (OpenSpec.upto codesErrorsSpec)) codesErrorsUptoCard

/-- THE SECOND FORM's CARD OF 'highroadlaw04.CodesWords'. -/
def codesWordsUptoCard : Claim7 := { stood := { row := codesWordsUptoRow, standIns := [], harness := (true, "91b450298721152d1a8e75dfe046cf0d54bf82fe6ac2d0cc0bb71d05bb8d520f"), looks := true }, kinds := [], alts := [], laidByText := true, laidKinds := [.handle], laidTests := true, laidLooks := .later }
def CodesWordsUptoCardSaid : Prop := Claim7.holds Tryd.pinned (.plain (OpenSpec.upto codesWordsSpec)) codesWordsUptoCard

/-- THE SECOND FORM's CARD OF 'highroadlaw04.CodesSame'. -/
def codesSameUptoCard : Claim7 := { stood := { row := codesSameUptoRow, standIns := [], harness := (true, "91b450298721152d1a8e75dfe046cf0d54bf82fe6ac2d0cc0bb71d05bb8d520f"), looks := true }, kinds := [], alts := [], laidByText := true, laidKinds := [.handle], laidTests := true, laidLooks := .later }
def CodesSameUptoCardSaid : Prop := Claim7.holds Tryd.pinned (.plain (OpenSpec.upto codesSameSpec)) codesSameUptoCard
end Rows
end Go.Proofs.YtpoccibneoankaaDoor
