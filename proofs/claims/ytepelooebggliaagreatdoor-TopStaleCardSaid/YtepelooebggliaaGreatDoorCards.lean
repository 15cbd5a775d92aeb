/-
  DERIVED. GIVEN WITH THE SEED: THE CARDS: each row of YtepelooebggliaaGreatDoorRows.lean that lists a variable, with what it lists TIED to the program's text (the seventh form; the later family's looks); each row that meets fmt, with fmt's text TOLD by the authors' own Lean function (tested against real Go, not proved from fmt's source: count such statements apart). THE CARD IS WHAT COUNTS. Prove the row's statement (the work); the ties are given (YtepelooebggliaaGreatDoorTie.lean); close each card by the builder's one call (the guide's Derived/Test/ToyasCard.lean, 'card_holds'). Laid BY PROGRAM, IN A SANDBOX (cutbox-door.mjs). By AI agents, Wed Nov 11 2026. No macro, syntax, notation, axiom, sorry.
-/
import Derived.Test.YtepelooebggliaaGreatDoorRows
import GoSem.ClaimSeven
namespace Go.Proofs.YtepelooebggliaaGreatDoor
namespace Rows

/-- THE TIED CARD OF 'highroadtop.TopStale'. -/
def topStaleCard : Claim7 := { stood := { row := topStaleRow, standIns := [], harness := (true, "d0eff2b0a8c091366d4180fd4c764b24bddd78caf2026a663e97edc2c48f0868"), looks := false }, kinds := [], alts := [], laidByText := true, laidKinds := [.data, .data, .data, .data, .pinned], laidTests := true, laidLooks := .later }
def TopStaleCardSaid : Prop := Claim7.holds Tryz.pinned (.plain (OpenSpec.ofChange topStaleSpec)) topStaleCard

/-- THE TIED CARD OF 'highroadtop.TopOver'. -/
def topOverCard : Claim7 := { stood := { row := topOverRow, standIns := [], harness := (true, "d0eff2b0a8c091366d4180fd4c764b24bddd78caf2026a663e97edc2c48f0868"), looks := false }, kinds := [], alts := [], laidByText := true, laidKinds := [.data, .data, .data, .data, .pinned], laidTests := true, laidLooks := .later }
def TopOverCardSaid : Prop := Claim7.holds Tryz.pinned (.plain (OpenSpec.ofChange topOverSpec)) topOverCard

/-- THE SECOND FORM's CARD OF 'highroadtop.TopStale'. -/
def topStaleUptoCard : Claim7 := { stood := { row := topStaleUptoRow, standIns := [], harness := (true, "d0eff2b0a8c091366d4180fd4c764b24bddd78caf2026a663e97edc2c48f0868"), looks := false }, kinds := [], alts := [], laidByText := true, laidKinds := [.data, .data, .data, .data, .pinned], laidTests := true, laidLooks := .later }
def TopStaleUptoCardSaid : Prop := Claim7.holds Tryz.pinned (.plain (OpenSpec.upto topStaleSpec)) topStaleUptoCard

/-- THE SECOND FORM's CARD OF 'highroadtop.TopOver'. -/
def topOverUptoCard : Claim7 := { stood := { row := topOverUptoRow, standIns := [], harness := (true, "d0eff2b0a8c091366d4180fd4c764b24bddd78caf2026a663e97edc2c48f0868"), looks := false }, kinds := [], alts := [], laidByText := true, laidKinds := [.data, .data, .data, .data, .pinned], laidTests := true, laidLooks := .later }
def TopOverUptoCardSaid : Prop := Claim7.holds Tryz.pinned (.plain (OpenSpec.upto topOverSpec)) topOverUptoCard
end Rows
end Go.Proofs.YtepelooebggliaaGreatDoor
