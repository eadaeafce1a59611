/-
  DERIVED. GIVEN WITH THE SEED: THE CARDS: each row of YtnjbigbiclfcoaaDoorRows.lean that lists a variable, with what it lists TIED to the program's text (the seventh form; the later family's looks); each row that meets fmt, with fmt's text TOLD by the authors' own Lean function (tested against real Go, not proved from fmt's source: count such statements apart). THE CARD IS WHAT COUNTS. Prove the row's statement (the work); the ties are given (YtnjbigbiclfcoaaDoorTie.lean); close each card by the builder's one call (the guide's Derived/Test/ToyasCard.lean, 'card_holds'). Laid BY PROGRAM, IN A SANDBOX (cutbox-door.mjs). By AI agents, Wed Nov 11 2026. No macro, syntax, notation, axiom, sorry.
-/
import Derived.Test.YtnjbigbiclfcoaaDoorRows
import GoSem.ClaimSeven
namespace Go.Proofs.YtnjbigbiclfcoaaDoor
namespace Rows

/-- THE TIED CARD OF 'consistorylaw02.GroupMay'. -/
def groupMayCard : Claim7 := { stood := { row := groupMayRow, standIns := [], harness := (true, "0396cc15d1097315bb82417b2a35adbee04bdb57bba23cc7d067e90c9aa6a29a"), looks := false }, kinds := [], alts := [], laidByText := true, laidKinds := [.data, .data], laidTests := true, laidLooks := .later }
def GroupMayCardSaid : Prop := Claim7.holds Tryd.pinned (.plain (OpenSpec.ofChange groupMaySpec)) groupMayCard

/-- THE TIED CARD OF 'consistorylaw02.GroupNames'. -/
def groupNamesCard : Claim7 := { stood := { row := groupNamesRow, standIns := [], harness := (true, "0396cc15d1097315bb82417b2a35adbee04bdb57bba23cc7d067e90c9aa6a29a"), looks := false }, kinds := [], alts := [], laidByText := true, laidKinds := [.data, .data], laidTests := true, laidLooks := .later }
def GroupNamesCardSaid : Prop := Claim7.holds Tryd.pinned (.plain (OpenSpec.ofChange groupNamesSpec)) groupNamesCard

/-- THE TIED CARD OF 'consistorylaw02.GroupClosed'. -/
def groupClosedCard : Claim7 := { stood := { row := groupClosedRow, standIns := [], harness := (true, "0396cc15d1097315bb82417b2a35adbee04bdb57bba23cc7d067e90c9aa6a29a"), looks := false }, kinds := [], alts := [], laidByText := true, laidKinds := [.data, .data], laidTests := true, laidLooks := .later }
def GroupClosedCardSaid : Prop := Claim7.holds Tryd.pinned (.plain (OpenSpec.ofChange groupClosedSpec)) groupClosedCard

/-- THE TIED CARD OF 'consistorylaw02.GroupPowers'. -/
def groupPowersCard : Claim7 := { stood := { row := groupPowersRow, standIns := [], harness := (true, "0396cc15d1097315bb82417b2a35adbee04bdb57bba23cc7d067e90c9aa6a29a"), looks := false }, kinds := [], alts := [], laidByText := true, laidKinds := [.data, .data], laidTests := true, laidLooks := .later }
def GroupPowersCardSaid : Prop := Claim7.holds Tryd.pinned (.plain (OpenSpec.ofChange groupPowersSpec)) groupPowersCard

/-- THE TIED CARD OF 'consistorylaw02.GroupSums'. -/
def groupSumsCard : Claim7 := { stood := { row := groupSumsRow, standIns := [], harness := (true, "0396cc15d1097315bb82417b2a35adbee04bdb57bba23cc7d067e90c9aa6a29a"), looks := false }, kinds := [], alts := [], laidByText := true, laidKinds := [.data, .data], laidTests := true, laidLooks := .later }
def GroupSumsCardSaid : Prop := Claim7.holds Tryd.pinned (.plain (OpenSpec.ofChange groupSumsSpec)) groupSumsCard

/-- THE TIED CARD OF 'consistorylaw02.GroupAt'. -/
def groupAtCard : Claim7 := { stood := { row := groupAtRow, standIns := [], harness := (true, "0396cc15d1097315bb82417b2a35adbee04bdb57bba23cc7d067e90c9aa6a29a"), looks := false }, kinds := [], alts := [], laidByText := true, laidKinds := [.data, .data], laidTests := true, laidLooks := .later }
def GroupAtCardSaid : Prop := Claim7.holds Tryd.pinned (.plain (OpenSpec.ofChange groupAtSpec)) groupAtCard

/-- THE TIED CARD OF 'consistorylaw02.GroupBinds'. -/
def groupBindsCard : Claim7 := { stood := { row := groupBindsRow, standIns := [], harness := (true, "0396cc15d1097315bb82417b2a35adbee04bdb57bba23cc7d067e90c9aa6a29a"), looks := false }, kinds := [], alts := [], laidByText := true, laidKinds := [.data, .data], laidTests := true, laidLooks := .later }
def GroupBindsCardSaid : Prop := Claim7.holds Tryd.pinned (.plain (OpenSpec.ofChange groupBindsSpec)) groupBindsCard

/-- THE SECOND FORM's CARD OF 'consistorylaw02.GroupMay'. -/
def groupMayUptoCard : Claim7 := { stood := { row := groupMayUptoRow, standIns := [], harness := (true, "0396cc15d1097315bb82417b2a35adbee04bdb57bba23cc7d067e90c9aa6a29a"), looks := false }, kinds := [], alts := [], laidByText := true, laidKinds := [.data, .data], laidTests := true, laidLooks := .later }
def GroupMayUptoCardSaid : Prop := Claim7.holds Tryd.pinned (.plain (OpenSpec.upto groupMaySpec)) groupMayUptoCard

/-- THE SECOND FORM's CARD OF 'consistorylaw02.GroupNames'. -/
def groupNamesUptoCard : Claim7 := { stood := { row := groupNamesUptoRow, standIns := [], harness := (true, "0396cc15d1097315bb82417b2a35adbee04bdb57bba23cc7d067e90c9aa6a29a"), looks := false }, kinds := [], alts := [], laidByText := true, laidKinds := [.data, .data], laidTests := true, laidLooks := .later }
def GroupNamesUptoCardSaid : Prop := Claim7.holds Tryd.pinned (.plain (OpenSpec.upto groupNamesSpec)) groupNamesUptoCard

/-- THE SECOND FORM's CARD OF 'consistorylaw02.GroupClosed'. -/
def groupClosedUptoCard : Claim7 := { stood := { row := groupClosedUptoRow, standIns := [], harness := (true, "0396cc15d1097315bb82417b2a35adbee04bdb57bba23cc7d067e90c9aa6a29a"), looks := false }, kinds := [], alts := [], laidByText := true, laidKinds := [.data, .data], laidTests := true, laidLooks := .later }
def GroupClosedUptoCardSaid : Prop := Claim7.holds Tryd.pinned (.plain (OpenSpec.upto groupClosedSpec)) groupClosedUptoCard

/-- THE SECOND FORM's CARD OF 'consistorylaw02.GroupPowers'. -/
def groupPowersUptoCard : Claim7 := { stood := { row := groupPowersUptoRow, standIns := [], harness := (true, "0396cc15d1097315bb82417b2a35adbee04bdb57bba23cc7d067e90c9aa6a29a"), looks := false }, kinds := [], alts := [], laidByText := true, laidKinds := [.data, .data], laidTests := true, laidLooks := .later }
def GroupPowersUptoCardSaid : Prop := Claim7.holds Tryd.pinned (.plain (OpenSpec.upto groupPowersSpec)) groupPowersUptoCard

/-- THE SECOND FORM's CARD OF 'consistorylaw02.GroupSums'. -/
def groupSumsUptoCard : Claim7 := { stood := { row := groupSumsUptoRow, standIns := [], harness := (true, "0396cc15d1097315bb82417b2a35adbee04bdb57bba23cc7d067e90c9aa6a29a"), looks := false }, kinds := [], alts := [], laidByText := true, laidKinds := [.data, .data], laidTests := true, laidLooks := .later }
def GroupSumsUptoCardSaid : Prop := Claim7.holds Tryd.pinned (.plain (OpenSpec.upto groupSumsSpec)) groupSumsUptoCard

/-- THE SECOND FORM's CARD OF 'consistorylaw02.GroupAt'. -/
def groupAtUptoCard : Claim7 := { stood := { row := groupAtUptoRow, standIns := [], harness := (true, "0396cc15d1097315bb82417b2a35adbee04bdb57bba23cc7d067e90c9aa6a29a"), looks := false }, kinds := [], alts := [], laidByText := true, laidKinds := [.data, .data], laidTests := true, laidLooks := .later }
def GroupAtUptoCardSaid : Prop := Claim7.holds Tryd.pinned (.plain (OpenSpec.upto groupAtSpec)) groupAtUptoCard

/-- THE SECOND FORM's CARD OF 'consistorylaw02.GroupBinds'. -/
def groupBindsUptoCard : Claim7 := { stood := { row := groupBindsUptoRow, standIns := [], harness := (true, "0396cc15d1097315bb82417b2a35adbee04bdb57bba23cc7d067e90c9aa6a29a"), looks := false }, kinds := [], alts := [], laidByText := true, laidKinds := [.data, .data], laidTests := true, laidLooks := .later }
def GroupBindsUptoCardSaid : Prop := Claim7.holds Tryd.pinned (.plain (OpenSpec.upto groupBindsSpec)) groupBindsUptoCard
end Rows
end Go.Proofs.YtnjbigbiclfcoaaDoor
