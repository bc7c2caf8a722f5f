/-
  DERIVED. GIVEN WITH THE SEED: THE CARDS: each row of YtajfbkodjigmpaaGreatDoorRows.lean that lists a variable, with what it lists TIED to the program's text (the seventh form; the later family's looks); each row that meets fmt, with fmt's text TOLD by the authors' own Lean function (tested against real Go, not proved from fmt's source: count such statements apart). THE CARD IS WHAT COUNTS. Prove the row's statement (the work); the ties are given (YtajfbkodjigmpaaGreatDoorTie.lean); close each card by the builder's one call (the guide's Derived/Test/ToyasCard.lean, 'card_holds'). Laid BY PROGRAM, IN A SANDBOX (cutbox-door.mjs). By AI agents, Wed Nov 11 2026. No macro, syntax, notation, axiom, sorry.
-/
import Derived.Test.YtajfbkodjigmpaaGreatDoorRows
import GoSem.ClaimSeven
namespace Go.Proofs.YtajfbkodjigmpaaGreatDoor
namespace Rows

/-- THE TIED CARD OF 'cofferlaw14.VolumeNil'. -/
def volumeNilCard : Claim7 := { stood := { row := volumeNilRow, standIns := [], harness := (true, "89cd5a881d084996dc44c3dcca58abee536e1cd8a721c1f51492661970c4d6e0"), looks := false }, kinds := [], alts := [], laidByText := true, laidKinds := [.data, .data], laidTests := true, laidLooks := .later }
def VolumeNilCardSaid : Prop := Claim7.holds Tryz.pinned (.plain (OpenSpec.ofChange volumeNilSpec)) volumeNilCard

/-- THE SECOND FORM's CARD OF 'cofferlaw14.VolumeNil'. -/
def volumeNilUptoCard : Claim7 := { stood := { row := volumeNilUptoRow, standIns := [], harness := (true, "89cd5a881d084996dc44c3dcca58abee536e1cd8a721c1f51492661970c4d6e0"), looks := false }, kinds := [], alts := [], laidByText := true, laidKinds := [.data, .data], laidTests := true, laidLooks := .later }
def VolumeNilUptoCardSaid : Prop := Claim7.holds Tryz.pinned (.plain (OpenSpec.upto volumeNilSpec)) volumeNilUptoCard
end Rows
end Go.Proofs.YtajfbkodjigmpaaGreatDoor
