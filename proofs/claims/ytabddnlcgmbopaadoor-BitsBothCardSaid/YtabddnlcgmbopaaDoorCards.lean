/-
  DERIVED. GIVEN WITH THE SEED: THE CARDS: each row of YtabddnlcgmbopaaDoorRows.lean that lists a variable, with what it lists TIED to the program's text (the seventh form; the later family's looks); each row that meets fmt, with fmt's text TOLD by the authors' own Lean function (tested against real Go, not proved from fmt's source: count such statements apart). THE CARD IS WHAT COUNTS. Prove the row's statement (the work); the ties are given (YtabddnlcgmbopaaDoorTie.lean); close each card by the builder's one call (the guide's Derived/Test/ToyasCard.lean, 'card_holds'). Laid BY PROGRAM, IN A SANDBOX (cutbox-door.mjs). By AI agents, Wed Nov 11 2026. No macro, syntax, notation, axiom, sorry.
-/
import Derived.Test.YtabddnlcgmbopaaDoorRows
import GoSem.ClaimSeven
namespace Go.Proofs.YtabddnlcgmbopaaDoor
namespace Rows

/-- THE TIED CARD OF 'highroadlaw13.BitsPlays'. -/
def bitsPlaysCard : Claim7 := { stood := { row := bitsPlaysRow, standIns := [], harness := (true, "822b5010322493410dd2085e0ed6d220a85f9b9a870e89acd5f8e4c713fc736c"), looks := false }, kinds := [], alts := [], laidByText := true, laidKinds := [.data], laidTests := true, laidLooks := .later }
def BitsPlaysCardSaid : Prop := Claim7.holds Tryd.pinned (.plain (OpenSpec.ofChange bitsPlaysSpec)) bitsPlaysCard

/-- THE TIED CARD OF 'highroadlaw13.BitsBoth'. -/
def bitsBothCard : Claim7 := { stood := { row := bitsBothRow, standIns := [], harness := (true, "822b5010322493410dd2085e0ed6d220a85f9b9a870e89acd5f8e4c713fc736c"), looks := false }, kinds := [], alts := [], laidByText := true, laidKinds := [.data], laidTests := true, laidLooks := .later }
def BitsBothCardSaid : Prop := Claim7.holds Tryd.pinned (.plain (OpenSpec.ofChange bitsBothSpec)) bitsBothCard

/-- THE TIED CARD OF 'highroadlaw13.BitsSums'. -/
def bitsSumsCard : Claim7 := { stood := { row := bitsSumsRow, standIns := [], harness := (true, "822b5010322493410dd2085e0ed6d220a85f9b9a870e89acd5f8e4c713fc736c"), looks := false }, kinds := [], alts := [], laidByText := true, laidKinds := [.data], laidTests := true, laidLooks := .later }
def BitsSumsCardSaid : Prop := Claim7.holds Tryd.pinned (.plain (OpenSpec.ofChange bitsSumsSpec)) bitsSumsCard

/-- THE SECOND FORM's CARD OF 'highroadlaw13.BitsPlays'. -/
def bitsPlaysUptoCard : Claim7 := { stood := { row := bitsPlaysUptoRow, standIns := [], harness := (true, "822b5010322493410dd2085e0ed6d220a85f9b9a870e89acd5f8e4c713fc736c"), looks := false }, kinds := [], alts := [], laidByText := true, laidKinds := [.data], laidTests := true, laidLooks := .later }
def BitsPlaysUptoCardSaid : Prop := Claim7.holds Tryd.pinned (.plain (OpenSpec.upto bitsPlaysSpec)) bitsPlaysUptoCard

/-- THE SECOND FORM's CARD OF 'highroadlaw13.BitsBoth'. -/
def bitsBothUptoCard : Claim7 := { stood := { row := bitsBothUptoRow, standIns := [], harness := (true, "822b5010322493410dd2085e0ed6d220a85f9b9a870e89acd5f8e4c713fc736c"), looks := false }, kinds := [], alts := [], laidByText := true, laidKinds := [.data], laidTests := true, laidLooks := .later }
def BitsBothUptoCardSaid : Prop := Claim7.holds Tryd.pinned (.plain (OpenSpec.upto bitsBothSpec)) bitsBothUptoCard

/-- THE SECOND FORM's CARD OF 'highroadlaw13.BitsSums'. -/
def bitsSumsUptoCard : Claim7 := { stood := { row := bitsSumsUptoRow, standIns := [], harness := (true, "822b5010322493410dd2085e0ed6d220a85f9b9a870e89acd5f8e4c713fc736c"), looks := false }, kinds := [], alts := [], laidByText := true, laidKinds := [.data], laidTests := true, laidLooks := .later }
def BitsSumsUptoCardSaid : Prop := Claim7.holds Tryd.pinned (.plain (OpenSpec.upto bitsSumsSpec)) bitsSumsUptoCard
end Rows
end Go.Proofs.YtabddnlcgmbopaaDoor
