/-
  DERIVED. GIVEN WITH THE SEED: THE CARDS: each row of YtnjkelojkoeihaaGreatDoorRows.lean that lists a variable, with what it lists TIED to the program's text (the seventh form; the later family's looks); each row that meets fmt, with fmt's text TOLD by the authors' own Lean function (tested against real Go, not proved from fmt's source: count such statements apart). THE CARD IS WHAT COUNTS. Prove the row's statement (the work); the ties are given (YtnjkelojkoeihaaGreatDoorTie.lean); close each card by the builder's one call (the guide's Derived/Test/ToyasCard.lean, 'card_holds'). Laid BY PROGRAM, IN A SANDBOX (cutbox-door.mjs). By AI agents, Wed Nov 11 2026. No macro, syntax, notation, axiom, sorry.
-/
import Derived.Test.YtnjkelojkoeihaaGreatDoorRows
import GoSem.ClaimSeven
namespace Go.Proofs.YtnjkelojkoeihaaGreatDoor
namespace Rows

/-- THE TIED CARD OF 'consistorylaw18.DealMeets'. -/
def dealMeetsCard : Claim7 := { stood := { row := dealMeetsRow, standIns := [], harness := (true, "92c33e60a333e4ee17bde1fcf3faee6623f1520ab6735e4fe4e813fb593b9289"), looks := false }, kinds := [], alts := [], laidByText := true, laidKinds := [.data, .data], laidTests := true, laidLooks := .later }
def DealMeetsCardSaid : Prop := Claim7.holds Tryz.pinned (.plain (OpenSpec.ofChange dealMeetsSpec)) dealMeetsCard

/-- THE TIED CARD OF 'consistorylaw18.DealShares'. -/
def dealSharesCard : Claim7 := { stood := { row := dealSharesRow, standIns := [], harness := (true, "92c33e60a333e4ee17bde1fcf3faee6623f1520ab6735e4fe4e813fb593b9289"), looks := false }, kinds := [], alts := [], laidByText := true, laidKinds := [.data, .data], laidTests := true, laidLooks := .later }
def DealSharesCardSaid : Prop := Claim7.holds Tryz.pinned (.plain (OpenSpec.ofChange dealSharesSpec)) dealSharesCard

/-- THE TIED CARD OF 'consistorylaw18.DealBack'. -/
def dealBackCard : Claim7 := { stood := { row := dealBackRow, standIns := [], harness := (true, "92c33e60a333e4ee17bde1fcf3faee6623f1520ab6735e4fe4e813fb593b9289"), looks := false }, kinds := [], alts := [], laidByText := true, laidKinds := [.data, .data], laidTests := true, laidLooks := .later }
def DealBackCardSaid : Prop := Claim7.holds Tryz.pinned (.plain (OpenSpec.ofChange dealBackSpec)) dealBackCard

/-- THE SECOND FORM's CARD OF 'consistorylaw18.DealMeets'. -/
def dealMeetsUptoCard : Claim7 := { stood := { row := dealMeetsUptoRow, standIns := [], harness := (true, "92c33e60a333e4ee17bde1fcf3faee6623f1520ab6735e4fe4e813fb593b9289"), looks := false }, kinds := [], alts := [], laidByText := true, laidKinds := [.data, .data], laidTests := true, laidLooks := .later }
def DealMeetsUptoCardSaid : Prop := Claim7.holds Tryz.pinned (.plain (OpenSpec.upto dealMeetsSpec)) dealMeetsUptoCard

/-- THE SECOND FORM's CARD OF 'consistorylaw18.DealShares'. -/
def dealSharesUptoCard : Claim7 := { stood := { row := dealSharesUptoRow, standIns := [], harness := (true, "92c33e60a333e4ee17bde1fcf3faee6623f1520ab6735e4fe4e813fb593b9289"), looks := false }, kinds := [], alts := [], laidByText := true, laidKinds := [.data, .data], laidTests := true, laidLooks := .later }
def DealSharesUptoCardSaid : Prop := Claim7.holds Tryz.pinned (.plain (OpenSpec.upto dealSharesSpec)) dealSharesUptoCard

/-- THE SECOND FORM's CARD OF 'consistorylaw18.DealBack'. -/
def dealBackUptoCard : Claim7 := { stood := { row := dealBackUptoRow, standIns := [], harness := (true, "92c33e60a333e4ee17bde1fcf3faee6623f1520ab6735e4fe4e813fb593b9289"), looks := false }, kinds := [], alts := [], laidByText := true, laidKinds := [.data, .data], laidTests := true, laidLooks := .later }
def DealBackUptoCardSaid : Prop := Claim7.holds Tryz.pinned (.plain (OpenSpec.upto dealBackSpec)) dealBackUptoCard
end Rows
end Go.Proofs.YtnjkelojkoeihaaGreatDoor
