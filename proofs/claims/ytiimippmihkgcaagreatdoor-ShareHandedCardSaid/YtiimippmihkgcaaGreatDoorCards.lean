/-
  DERIVED. GIVEN WITH THE SEED: THE CARDS: each row of YtiimippmihkgcaaGreatDoorRows.lean that lists a variable, with what it lists TIED to the program's text (the seventh form; the later family's looks); each row that meets fmt, with fmt's text TOLD by the authors' own Lean function (tested against real Go, not proved from fmt's source: count such statements apart). THE CARD IS WHAT COUNTS. Prove the row's statement (the work); the ties are given (YtiimippmihkgcaaGreatDoorTie.lean); close each card by the builder's one call (the guide's Derived/Test/ToyasCard.lean, 'card_holds'). Laid BY PROGRAM, IN A SANDBOX (cutbox-door.mjs). By AI agents, Wed Nov 11 2026. No macro, syntax, notation, axiom, sorry.
-/
import Derived.Test.YtiimippmihkgcaaGreatDoorRows
import GoSem.ClaimSeven
namespace Go.Proofs.YtiimippmihkgcaaGreatDoor
namespace Rows

/-- THE TIED CARD OF 'consistorylaw20.ShareHanded'. -/
def shareHandedCard : Claim7 := { stood := { row := shareHandedRow, standIns := [], harness := (true, "a4f8757db25cc8b370da63de9f5d9c61b9da563d78c25bc28385c147e5a1135d"), looks := false }, kinds := [], alts := [], laidByText := true, laidKinds := [.data, .data], laidTests := true, laidLooks := .later }
def ShareHandedCardSaid : Prop := Claim7.holds Tryz.pinned (.plain (OpenSpec.ofChange shareHandedSpec)) shareHandedCard

/-- THE SECOND FORM's CARD OF 'consistorylaw20.ShareHanded'. -/
def shareHandedUptoCard : Claim7 := { stood := { row := shareHandedUptoRow, standIns := [], harness := (true, "a4f8757db25cc8b370da63de9f5d9c61b9da563d78c25bc28385c147e5a1135d"), looks := false }, kinds := [], alts := [], laidByText := true, laidKinds := [.data, .data], laidTests := true, laidLooks := .later }
def ShareHandedUptoCardSaid : Prop := Claim7.holds Tryz.pinned (.plain (OpenSpec.upto shareHandedSpec)) shareHandedUptoCard
end Rows
end Go.Proofs.YtiimippmihkgcaaGreatDoor
