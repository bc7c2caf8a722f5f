/-
  DERIVED. GIVEN WITH THE SEED: THE CARDS: each row of YteohaebhnenabaaGreatDoorRows.lean that lists a variable, with what it lists TIED to the program's text (the seventh form; the later family's looks); each row that meets fmt, with fmt's text TOLD by the authors' own Lean function (tested against real Go, not proved from fmt's source: count such statements apart). THE CARD IS WHAT COUNTS. Prove the row's statement (the work); the ties are given (YteohaebhnenabaaGreatDoorTie.lean); close each card by the builder's one call (the guide's Derived/Test/ToyasCard.lean, 'card_holds'). Laid BY PROGRAM, IN A SANDBOX (cutbox-door.mjs). By AI agents, Wed Nov 11 2026. No macro, syntax, notation, axiom, sorry.
-/
import Derived.Test.YteohaebhnenabaaGreatDoorRows
import GoSem.ClaimSeven
namespace Go.Proofs.YteohaebhnenabaaGreatDoor
namespace Rows

/-- THE TIED CARD OF 'cofferlaw10.KeyringNil'. -/
def keyringNilCard : Claim7 := { stood := { row := keyringNilRow, standIns := [], harness := (true, "b5c48d2ff1bc4082eb8dbbd11c3fd0e6cca2a3e80ec73179ded265375aebe4ec"), looks := false }, kinds := [], alts := [], laidByText := true, laidKinds := [.data, .data], laidTests := true, laidLooks := .later }
def KeyringNilCardSaid : Prop := Claim7.holds Tryz.pinned (.plain (OpenSpec.ofChange keyringNilSpec)) keyringNilCard

/-- THE SECOND FORM's CARD OF 'cofferlaw10.KeyringNil'. -/
def keyringNilUptoCard : Claim7 := { stood := { row := keyringNilUptoRow, standIns := [], harness := (true, "b5c48d2ff1bc4082eb8dbbd11c3fd0e6cca2a3e80ec73179ded265375aebe4ec"), looks := false }, kinds := [], alts := [], laidByText := true, laidKinds := [.data, .data], laidTests := true, laidLooks := .later }
def KeyringNilUptoCardSaid : Prop := Claim7.holds Tryz.pinned (.plain (OpenSpec.upto keyringNilSpec)) keyringNilUptoCard
end Rows
end Go.Proofs.YteohaebhnenabaaGreatDoor
