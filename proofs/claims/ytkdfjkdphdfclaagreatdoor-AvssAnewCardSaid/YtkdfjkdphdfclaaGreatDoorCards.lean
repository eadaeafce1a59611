/-
  DERIVED. GIVEN WITH THE SEED: THE CARDS: each row of YtkdfjkdphdfclaaGreatDoorRows.lean that lists a variable, with what it lists TIED to the program's text (the seventh form; the later family's looks); each row that meets fmt, with fmt's text TOLD by the authors' own Lean function (tested against real Go, not proved from fmt's source: count such statements apart). THE CARD IS WHAT COUNTS. Prove the row's statement (the work); the ties are given (YtkdfjkdphdfclaaGreatDoorTie.lean); close each card by the builder's one call (the guide's Derived/Test/ToyasCard.lean, 'card_holds'). Laid BY PROGRAM, IN A SANDBOX (cutbox-door.mjs). By AI agents, Wed Nov 11 2026. No macro, syntax, notation, axiom, sorry.
-/
import Derived.Test.YtkdfjkdphdfclaaGreatDoorRows
import GoSem.ClaimSeven
namespace Go.Proofs.YtkdfjkdphdfclaaGreatDoor
namespace Rows

/-- THE TIED CARD OF 'consistorylaw19.AvssOne'. -/
def avssOneCard : Claim7 := { stood := { row := avssOneRow, standIns := [], harness := (true, "c716bfc63249289013266ebb801946a3ac79b2395f0bf85d0e631db058c25cf5"), looks := false }, kinds := [], alts := [], laidByText := true, laidKinds := [.data, .data], laidTests := true, laidLooks := .later }
def AvssOneCardSaid : Prop := Claim7.holds Tryz.pinned (.plain (OpenSpec.ofChange avssOneSpec)) avssOneCard

/-- THE TIED CARD OF 'consistorylaw19.AvssAll'. -/
def avssAllCard : Claim7 := { stood := { row := avssAllRow, standIns := [], harness := (true, "c716bfc63249289013266ebb801946a3ac79b2395f0bf85d0e631db058c25cf5"), looks := false }, kinds := [], alts := [], laidByText := true, laidKinds := [.data, .data], laidTests := true, laidLooks := .later }
def AvssAllCardSaid : Prop := Claim7.holds Tryz.pinned (.plain (OpenSpec.ofChange avssAllSpec)) avssAllCard

/-- THE TIED CARD OF 'consistorylaw19.AvssPlays'. -/
def avssPlaysCard : Claim7 := { stood := { row := avssPlaysRow, standIns := [], harness := (true, "c716bfc63249289013266ebb801946a3ac79b2395f0bf85d0e631db058c25cf5"), looks := false }, kinds := [], alts := [], laidByText := true, laidKinds := [.data, .data], laidTests := true, laidLooks := .later }
def AvssPlaysCardSaid : Prop := Claim7.holds Tryz.pinned (.plain (OpenSpec.ofChange avssPlaysSpec)) avssPlaysCard

/-- THE TIED CARD OF 'consistorylaw19.AvssNames'. -/
def avssNamesCard : Claim7 := { stood := { row := avssNamesRow, standIns := [], harness := (true, "c716bfc63249289013266ebb801946a3ac79b2395f0bf85d0e631db058c25cf5"), looks := false }, kinds := [], alts := [], laidByText := true, laidKinds := [.data, .data], laidTests := true, laidLooks := .later }
def AvssNamesCardSaid : Prop := Claim7.holds Tryz.pinned (.plain (OpenSpec.ofChange avssNamesSpec)) avssNamesCard

/-- THE TIED CARD OF 'consistorylaw19.AvssLoads'. -/
def avssLoadsCard : Claim7 := { stood := { row := avssLoadsRow, standIns := [], harness := (true, "c716bfc63249289013266ebb801946a3ac79b2395f0bf85d0e631db058c25cf5"), looks := false }, kinds := [], alts := [], laidByText := true, laidKinds := [.data, .data], laidTests := true, laidLooks := .later }
def AvssLoadsCardSaid : Prop := Claim7.holds Tryz.pinned (.plain (OpenSpec.ofChange avssLoadsSpec)) avssLoadsCard

/-- THE TIED CARD OF 'consistorylaw19.AvssAnew'. -/
def avssAnewCard : Claim7 := { stood := { row := avssAnewRow, standIns := [], harness := (true, "c716bfc63249289013266ebb801946a3ac79b2395f0bf85d0e631db058c25cf5"), looks := false }, kinds := [], alts := [], laidByText := true, laidKinds := [.data, .data], laidTests := true, laidLooks := .later }
def AvssAnewCardSaid : Prop := Claim7.holds Tryz.pinned (.plain (OpenSpec.ofChange avssAnewSpec)) avssAnewCard

/-- THE SECOND FORM's CARD OF 'consistorylaw19.AvssOne'. -/
def avssOneUptoCard : Claim7 := { stood := { row := avssOneUptoRow, standIns := [], harness := (true, "c716bfc63249289013266ebb801946a3ac79b2395f0bf85d0e631db058c25cf5"), looks := false }, kinds := [], alts := [], laidByText := true, laidKinds := [.data, .data], laidTests := true, laidLooks := .later }
def AvssOneUptoCardSaid : Prop := Claim7.holds Tryz.pinned (.plain (OpenSpec.upto avssOneSpec)) avssOneUptoCard

/-- THE SECOND FORM's CARD OF 'consistorylaw19.AvssAll'. -/
def avssAllUptoCard : Claim7 := { stood := { row := avssAllUptoRow, standIns := [], harness := (true, "c716bfc63249289013266ebb801946a3ac79b2395f0bf85d0e631db058c25cf5"), looks := false }, kinds := [], alts := [], laidByText := true, laidKinds := [.data, .data], laidTests := true, laidLooks := .later }
def AvssAllUptoCardSaid : Prop := Claim7.holds Tryz.pinned (.plain (OpenSpec.upto avssAllSpec)) avssAllUptoCard

/-- THE SECOND FORM's CARD OF 'consistorylaw19.AvssPlays'. -/
def avssPlaysUptoCard : Claim7 := { stood := { row := avssPlaysUptoRow, standIns := [], harness := (true, "c716bfc63249289013266ebb801946a3ac79b2395f0bf85d0e631db058c25cf5"), looks := false }, kinds := [], alts := [], laidByText := true, laidKinds := [.data, .data], laidTests := true, laidLooks := .later }
def AvssPlaysUptoCardSaid : Prop := Claim7.holds Tryz.pinned (.plain (OpenSpec.upto avssPlaysSpec)) avssPlaysUptoCard

/-- THE SECOND FORM's CARD OF 'consistorylaw19.AvssNames'. -/
def avssNamesUptoCard : Claim7 := { stood := { row := avssNamesUptoRow, standIns := [], harness := (true, "c716bfc63249289013266ebb801946a3ac79b2395f0bf85d0e631db058c25cf5"), looks := false }, kinds := [], alts := [], laidByText := true, laidKinds := [.data, .data], laidTests := true, laidLooks := .later }
def AvssNamesUptoCardSaid : Prop := Claim7.holds Tryz.pinned (.plain (OpenSpec.upto avssNamesSpec)) avssNamesUptoCard

/-- THE SECOND FORM's CARD OF 'consistorylaw19.AvssLoads'. -/
def avssLoadsUptoCard : Claim7 := { stood := { row := avssLoadsUptoRow, standIns := [], harness := (true, "c716bfc63249289013266ebb801946a3ac79b2395f0bf85d0e631db058c25cf5"), looks := false }, kinds := [], alts := [], laidByText := true, laidKinds := [.data, .data], laidTests := true, laidLooks := .later }
def AvssLoadsUptoCardSaid : Prop := Claim7.holds Tryz.pinned (.plain (OpenSpec.upto avssLoadsSpec)) avssLoadsUptoCard

/-- THE SECOND FORM's CARD OF 'consistorylaw19.AvssAnew'. -/
def avssAnewUptoCard : Claim7 := { stood := { row := avssAnewUptoRow, standIns := [], harness := (true, "c716bfc63249289013266ebb801946a3ac79b2395f0bf85d0e631db058c25cf5"), looks := false }, kinds := [], alts := [], laidByText := true, laidKinds := [.data, .data], laidTests := true, laidLooks := .later }
def AvssAnewUptoCardSaid : Prop := Claim7.holds Tryz.pinned (.plain (OpenSpec.upto avssAnewSpec)) avssAnewUptoCard
end Rows
end Go.Proofs.YtkdfjkdphdfclaaGreatDoor
