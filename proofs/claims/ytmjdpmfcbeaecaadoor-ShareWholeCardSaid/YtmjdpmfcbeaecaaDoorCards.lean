/-
  DERIVED. GIVEN WITH THE SEED: THE CARDS: each row of YtmjdpmfcbeaecaaDoorRows.lean that lists a variable, with what it lists TIED to the program's text (the seventh form; the later family's looks); each row that meets fmt, with fmt's text TOLD by the authors' own Lean function (tested against real Go, not proved from fmt's source: count such statements apart). THE CARD IS WHAT COUNTS. Prove the row's statement (the work); the ties are given (YtmjdpmfcbeaecaaDoorTie.lean); close each card by the builder's one call (the guide's Derived/Test/ToyasCard.lean, 'card_holds'). Laid BY PROGRAM, IN A SANDBOX (cutbox-door.mjs). By AI agents, Wed Nov 11 2026. No macro, syntax, notation, axiom, sorry.
-/
import Derived.Test.YtmjdpmfcbeaecaaDoorRows
import GoSem.ClaimSeven
namespace Go.Proofs.YtmjdpmfcbeaecaaDoor
namespace Rows

/-- THE TIED CARD OF 'consistorylaw20.ShareRows'. -/
def shareRowsCard : Claim7 := { stood := { row := shareRowsRow, standIns := [], harness := (true, "f295326377196b71665c4206e90b191eb8eda99414c4df8ec1fada12bd7f6e23"), looks := false }, kinds := [], alts := [], laidByText := true, laidKinds := [.data, .data], laidTests := true, laidLooks := .later }
def ShareRowsCardSaid : Prop := Claim7.holds Tryd.pinned (.plain (OpenSpec.ofChange shareRowsSpec)) shareRowsCard

/-- THE TIED CARD OF 'consistorylaw20.ShareFits'. -/
def shareFitsCard : Claim7 := { stood := { row := shareFitsRow, standIns := [], harness := (true, "f295326377196b71665c4206e90b191eb8eda99414c4df8ec1fada12bd7f6e23"), looks := false }, kinds := [], alts := [], laidByText := true, laidKinds := [.data, .data], laidTests := true, laidLooks := .later }
def ShareFitsCardSaid : Prop := Claim7.holds Tryd.pinned (.plain (OpenSpec.ofChange shareFitsSpec)) shareFitsCard

/-- THE TIED CARD OF 'consistorylaw20.ShareWhole'. -/
def shareWholeCard : Claim7 := { stood := { row := shareWholeRow, standIns := [], harness := (true, "f295326377196b71665c4206e90b191eb8eda99414c4df8ec1fada12bd7f6e23"), looks := false }, kinds := [], alts := [], laidByText := true, laidKinds := [.data, .data], laidTests := true, laidLooks := .later }
def ShareWholeCardSaid : Prop := Claim7.holds Tryd.pinned (.plain (OpenSpec.ofChange shareWholeSpec)) shareWholeCard

/-- THE SECOND FORM's CARD OF 'consistorylaw20.ShareRows'. -/
def shareRowsUptoCard : Claim7 := { stood := { row := shareRowsUptoRow, standIns := [], harness := (true, "f295326377196b71665c4206e90b191eb8eda99414c4df8ec1fada12bd7f6e23"), looks := false }, kinds := [], alts := [], laidByText := true, laidKinds := [.data, .data], laidTests := true, laidLooks := .later }
def ShareRowsUptoCardSaid : Prop := Claim7.holds Tryd.pinned (.plain (OpenSpec.upto shareRowsSpec)) shareRowsUptoCard

/-- THE SECOND FORM's CARD OF 'consistorylaw20.ShareFits'. -/
def shareFitsUptoCard : Claim7 := { stood := { row := shareFitsUptoRow, standIns := [], harness := (true, "f295326377196b71665c4206e90b191eb8eda99414c4df8ec1fada12bd7f6e23"), looks := false }, kinds := [], alts := [], laidByText := true, laidKinds := [.data, .data], laidTests := true, laidLooks := .later }
def ShareFitsUptoCardSaid : Prop := Claim7.holds Tryd.pinned (.plain (OpenSpec.upto shareFitsSpec)) shareFitsUptoCard

/-- THE SECOND FORM's CARD OF 'consistorylaw20.ShareWhole'. -/
def shareWholeUptoCard : Claim7 := { stood := { row := shareWholeUptoRow, standIns := [], harness := (true, "f295326377196b71665c4206e90b191eb8eda99414c4df8ec1fada12bd7f6e23"), looks := false }, kinds := [], alts := [], laidByText := true, laidKinds := [.data, .data], laidTests := true, laidLooks := .later }
def ShareWholeUptoCardSaid : Prop := Claim7.holds Tryd.pinned (.plain (OpenSpec.upto shareWholeSpec)) shareWholeUptoCard
end Rows
end Go.Proofs.YtmjdpmfcbeaecaaDoor
