/-
  DERIVED. GIVEN WITH THE SEED: THE CARDS: each row of YtaglocahfonbbaaDoorRows.lean that lists a variable, with what it lists TIED to the program's text (the seventh form; the later family's looks); each row that meets fmt, with fmt's text TOLD by the authors' own Lean function (tested against real Go, not proved from fmt's source: count such statements apart). THE CARD IS WHAT COUNTS. Prove the row's statement (the work); the ties are given (YtaglocahfonbbaaDoorTie.lean); close each card by the builder's one call (the guide's Derived/Test/ToyasCard.lean, 'card_holds'). Laid BY PROGRAM, IN A SANDBOX (cutbox-door.mjs). By AI agents, Wed Nov 11 2026. No macro, syntax, notation, axiom, sorry.
-/
import Derived.Test.YtaglocahfonbbaaDoorRows
import GoSem.ClaimSeven
namespace Go.Proofs.YtaglocahfonbbaaDoor
namespace Rows

/-- THE TIED CARD OF 'consistorylaw01.ModPrime'. -/
def modPrimeCard : Claim7 := { stood := { row := modPrimeRow, standIns := [], harness := (true, "055b914e126d92e1dee7b6169fd46fe6fe38523258dbc2c4cbdfb3769d1d7992"), looks := false }, kinds := [], alts := [], laidByText := true, laidKinds := [.data, .data], laidTests := true, laidLooks := .later }
def ModPrimeCardSaid : Prop := Claim7.holds Tryd.pinned (.plain (OpenSpec.ofChange modPrimeSpec)) modPrimeCard

/-- THE TIED CARD OF 'consistorylaw01.ModPrimes'. -/
def modPrimesCard : Claim7 := { stood := { row := modPrimesRow, standIns := [], harness := (true, "055b914e126d92e1dee7b6169fd46fe6fe38523258dbc2c4cbdfb3769d1d7992"), looks := false }, kinds := [], alts := [], laidByText := true, laidKinds := [.data, .data], laidTests := true, laidLooks := .later }
def ModPrimesCardSaid : Prop := Claim7.holds Tryd.pinned (.plain (OpenSpec.ofChange modPrimesSpec)) modPrimesCard

/-- THE SECOND FORM's CARD OF 'consistorylaw01.ModPrime'. -/
def modPrimeUptoCard : Claim7 := { stood := { row := modPrimeUptoRow, standIns := [], harness := (true, "055b914e126d92e1dee7b6169fd46fe6fe38523258dbc2c4cbdfb3769d1d7992"), looks := false }, kinds := [], alts := [], laidByText := true, laidKinds := [.data, .data], laidTests := true, laidLooks := .later }
def ModPrimeUptoCardSaid : Prop := Claim7.holds Tryd.pinned (.plain (OpenSpec.upto modPrimeSpec)) modPrimeUptoCard

/-- THE SECOND FORM's CARD OF 'consistorylaw01.ModPrimes'. -/
def modPrimesUptoCard : Claim7 := { stood := { row := modPrimesUptoRow, standIns := [], harness := (true, "055b914e126d92e1dee7b6169fd46fe6fe38523258dbc2c4cbdfb3769d1d7992"), looks := false }, kinds := [], alts := [], laidByText := true, laidKinds := [.data, .data], laidTests := true, laidLooks := .later }
def ModPrimesUptoCardSaid : Prop := Claim7.holds Tryd.pinned (.plain (OpenSpec.upto modPrimesSpec)) modPrimesUptoCard
end Rows
end Go.Proofs.YtaglocahfonbbaaDoor
