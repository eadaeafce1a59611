/-
  DERIVED. GIVEN WITH THE SEED: THE CARDS: each row of YthicondcjeipfaaGreatDoorRows.lean that lists a variable, with what it lists TIED to the program's text (the seventh form; the later family's looks); each row that meets fmt, with fmt's text TOLD by the authors' own Lean function (tested against real Go, not proved from fmt's source: count such statements apart). THE CARD IS WHAT COUNTS. Prove the row's statement (the work); the ties are given (YthicondcjeipfaaGreatDoorTie.lean); close each card by the builder's one call (the guide's Derived/Test/ToyasCard.lean, 'card_holds'). Laid BY PROGRAM, IN A SANDBOX (cutbox-door.mjs). By AI agents, Wed Nov 11 2026. No macro, syntax, notation, axiom, sorry.
-/
import Derived.Test.YthicondcjeipfaaGreatDoorRows
import GoSem.ClaimSeven
namespace Go.Proofs.YthicondcjeipfaaGreatDoor
namespace Rows

/-- THE TIED CARD OF 'consistorylaw18.DealNames'. -/
def dealNamesCard : Claim7 := { stood := { row := dealNamesRow, standIns := [], harness := (true, "a0472cd28c9f1b9d4a26e118c5202352516eb58ae07cee2dee136dbb455debd6"), looks := false }, kinds := [], alts := [], laidByText := true, laidKinds := [.data, .data], laidTests := true, laidLooks := .later }
def DealNamesCardSaid : Prop := Claim7.holds Tryz.pinned (.plain (OpenSpec.ofChange dealNamesSpec)) dealNamesCard

/-- THE SECOND FORM's CARD OF 'consistorylaw18.DealNames'. -/
def dealNamesUptoCard : Claim7 := { stood := { row := dealNamesUptoRow, standIns := [], harness := (true, "a0472cd28c9f1b9d4a26e118c5202352516eb58ae07cee2dee136dbb455debd6"), looks := false }, kinds := [], alts := [], laidByText := true, laidKinds := [.data, .data], laidTests := true, laidLooks := .later }
def DealNamesUptoCardSaid : Prop := Claim7.holds Tryz.pinned (.plain (OpenSpec.upto dealNamesSpec)) dealNamesUptoCard
end Rows
end Go.Proofs.YthicondcjeipfaaGreatDoor
