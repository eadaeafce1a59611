/-
  DERIVED. GIVEN WITH THE SEED: THE CARDS: each row of YtonkbmknanpchaaDoorRows.lean that lists a variable, with what it lists TIED to the program's text (the seventh form; the later family's looks); each row that meets fmt, with fmt's text TOLD by the authors' own Lean function (tested against real Go, not proved from fmt's source: count such statements apart). THE CARD IS WHAT COUNTS. Prove the row's statement (the work); the ties are given (YtonkbmknanpchaaDoorTie.lean); close each card by the builder's one call (the guide's Derived/Test/ToyasCard.lean, 'card_holds'). Laid BY PROGRAM, IN A SANDBOX (cutbox-door.mjs). By AI agents, Wed Nov 11 2026. No macro, syntax, notation, axiom, sorry.
-/
import Derived.Test.YtonkbmknanpchaaDoorRows
import GoSem.ClaimSeven
namespace Go.Proofs.YtonkbmknanpchaaDoor
namespace Rows

/-- THE TIED CARD OF 'consistorylaw18.DealModel'. -/
def dealModelCard : Claim7 := { stood := { row := dealModelRow, standIns := [], harness := (true, "4067fb44685aafdb685789ca457c79d7983a5c1cef0ad8c1629735c6f1e462b4"), looks := false }, kinds := [], alts := [], laidByText := true, laidKinds := [.data, .data], laidTests := true, laidLooks := .later }
def DealModelCardSaid : Prop := Claim7.holds Tryd.pinned (.plain (OpenSpec.ofChange dealModelSpec)) dealModelCard

/-- THE SECOND FORM's CARD OF 'consistorylaw18.DealModel'. -/
def dealModelUptoCard : Claim7 := { stood := { row := dealModelUptoRow, standIns := [], harness := (true, "4067fb44685aafdb685789ca457c79d7983a5c1cef0ad8c1629735c6f1e462b4"), looks := false }, kinds := [], alts := [], laidByText := true, laidKinds := [.data, .data], laidTests := true, laidLooks := .later }
def DealModelUptoCardSaid : Prop := Claim7.holds Tryd.pinned (.plain (OpenSpec.upto dealModelSpec)) dealModelUptoCard
end Rows
end Go.Proofs.YtonkbmknanpchaaDoor
