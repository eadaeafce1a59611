/-
  DERIVED. GIVEN WITH THE SEED: THE CARDS: each row of YtlhjbllfcbojmaaDoorRows.lean that lists a variable, with what it lists TIED to the program's text (the seventh form; the later family's looks); each row that meets fmt, with fmt's text TOLD by the authors' own Lean function (tested against real Go, not proved from fmt's source: count such statements apart). THE CARD IS WHAT COUNTS. Prove the row's statement (the work); the ties are given (YtlhjbllfcbojmaaDoorTie.lean); close each card by the builder's one call (the guide's Derived/Test/ToyasCard.lean, 'card_holds'). Laid BY PROGRAM, IN A SANDBOX (cutbox-door.mjs). By AI agents, Wed Nov 11 2026. No macro, syntax, notation, axiom, sorry.
-/
import Derived.Test.YtlhjbllfcbojmaaDoorRows
import GoSem.ClaimSeven
namespace Go.Proofs.YtlhjbllfcbojmaaDoor
namespace Rows

/-- THE TIED CARD OF 'consistorylaw30.ExtractTells'. -/
def extractTellsCard : Claim7 := { stood := { row := extractTellsRow, standIns := [], harness := (true, "b8a3856862d7cffce426b5332a247c43368ab5afad203440b7e16ce8109debcf"), looks := false }, kinds := [], alts := [], laidByText := true, laidKinds := [.data, .data], laidTests := true, laidLooks := .later }
def ExtractTellsCardSaid : Prop := Claim7.holds Tryd.pinned (.plain (OpenSpec.ofChange extractTellsSpec)) extractTellsCard

/-- THE TIED CARD OF 'consistorylaw30.ExtractNames'. -/
def extractNamesCard : Claim7 := { stood := { row := extractNamesRow, standIns := [], harness := (true, "b8a3856862d7cffce426b5332a247c43368ab5afad203440b7e16ce8109debcf"), looks := false }, kinds := [], alts := [], laidByText := true, laidKinds := [.data, .data], laidTests := true, laidLooks := .later }
def ExtractNamesCardSaid : Prop := Claim7.holds Tryd.pinned (.plain (OpenSpec.ofChange extractNamesSpec)) extractNamesCard

/-- THE SECOND FORM's CARD OF 'consistorylaw30.ExtractTells'. -/
def extractTellsUptoCard : Claim7 := { stood := { row := extractTellsUptoRow, standIns := [], harness := (true, "b8a3856862d7cffce426b5332a247c43368ab5afad203440b7e16ce8109debcf"), looks := false }, kinds := [], alts := [], laidByText := true, laidKinds := [.data, .data], laidTests := true, laidLooks := .later }
def ExtractTellsUptoCardSaid : Prop := Claim7.holds Tryd.pinned (.plain (OpenSpec.upto extractTellsSpec)) extractTellsUptoCard

/-- THE SECOND FORM's CARD OF 'consistorylaw30.ExtractNames'. -/
def extractNamesUptoCard : Claim7 := { stood := { row := extractNamesUptoRow, standIns := [], harness := (true, "b8a3856862d7cffce426b5332a247c43368ab5afad203440b7e16ce8109debcf"), looks := false }, kinds := [], alts := [], laidByText := true, laidKinds := [.data, .data], laidTests := true, laidLooks := .later }
def ExtractNamesUptoCardSaid : Prop := Claim7.holds Tryd.pinned (.plain (OpenSpec.upto extractNamesSpec)) extractNamesUptoCard
end Rows
end Go.Proofs.YtlhjbllfcbojmaaDoor
