/-
  DERIVED. GIVEN WITH THE SEED: THE CARDS: each row of YteaalkknjnodiaaDoorRows.lean that lists a variable, with what it lists TIED to the program's text (the seventh form; the later family's looks); each row that meets fmt, with fmt's text TOLD by the authors' own Lean function (tested against real Go, not proved from fmt's source: count such statements apart). THE CARD IS WHAT COUNTS. Prove the row's statement (the work); the ties are given (YteaalkknjnodiaaDoorTie.lean); close each card by the builder's one call (the guide's Derived/Test/ToyasCard.lean, 'card_holds'). Laid BY PROGRAM, IN A SANDBOX (cutbox-door.mjs). By AI agents, Wed Nov 11 2026. No macro, syntax, notation, axiom, sorry.
-/
import Derived.Test.YteaalkknjnodiaaDoorRows
import GoSem.ClaimSeven
namespace Go.Proofs.YteaalkknjnodiaaDoor
namespace Rows

/-- THE TIED CARD OF 'consistorylaw01.ModNames'. -/
def modNamesCard : Claim7 := { stood := { row := modNamesRow, standIns := [], harness := (true, "2f64241ba9f6d35e1c9d0c44af107b42c5fc392530365a4c1fb3b73dfe51593f"), looks := false }, kinds := [], alts := [], laidByText := true, laidKinds := [.data, .data], laidTests := true, laidLooks := .later }
def ModNamesCardSaid : Prop := Claim7.holds Tryd.pinned (.plain (OpenSpec.ofChange modNamesSpec)) modNamesCard

/-- THE TIED CARD OF 'consistorylaw01.ModTells'. -/
def modTellsCard : Claim7 := { stood := { row := modTellsRow, standIns := [], harness := (true, "2f64241ba9f6d35e1c9d0c44af107b42c5fc392530365a4c1fb3b73dfe51593f"), looks := false }, kinds := [], alts := [], laidByText := true, laidKinds := [.data, .data], laidTests := true, laidLooks := .later }
def ModTellsCardSaid : Prop := Claim7.holds Tryd.pinned (.plain (OpenSpec.ofChange modTellsSpec)) modTellsCard

/-- THE TIED CARD OF 'consistorylaw01.ModPrime'. -/
def modPrimeCard : Claim7 := { stood := { row := modPrimeRow, standIns := [], harness := (true, "2f64241ba9f6d35e1c9d0c44af107b42c5fc392530365a4c1fb3b73dfe51593f"), looks := false }, kinds := [], alts := [], laidByText := true, laidKinds := [.data, .data], laidTests := true, laidLooks := .later }
def ModPrimeCardSaid : Prop := Claim7.holds Tryd.pinned (.plain (OpenSpec.ofChange modPrimeSpec)) modPrimeCard

/-- THE TIED CARD OF 'consistorylaw01.ModRing'. -/
def modRingCard : Claim7 := { stood := { row := modRingRow, standIns := [], harness := (true, "2f64241ba9f6d35e1c9d0c44af107b42c5fc392530365a4c1fb3b73dfe51593f"), looks := false }, kinds := [], alts := [], laidByText := true, laidKinds := [.data, .data], laidTests := true, laidLooks := .later }
def ModRingCardSaid : Prop := Claim7.holds Tryd.pinned (.plain (OpenSpec.ofChange modRingSpec)) modRingCard

/-- THE TIED CARD OF 'consistorylaw01.ModPowers'. -/
def modPowersCard : Claim7 := { stood := { row := modPowersRow, standIns := [], harness := (true, "2f64241ba9f6d35e1c9d0c44af107b42c5fc392530365a4c1fb3b73dfe51593f"), looks := false }, kinds := [], alts := [], laidByText := true, laidKinds := [.data, .data], laidTests := true, laidLooks := .later }
def ModPowersCardSaid : Prop := Claim7.holds Tryd.pinned (.plain (OpenSpec.ofChange modPowersSpec)) modPowersCard

/-- THE TIED CARD OF 'consistorylaw01.ModInverse'. -/
def modInverseCard : Claim7 := { stood := { row := modInverseRow, standIns := [], harness := (true, "2f64241ba9f6d35e1c9d0c44af107b42c5fc392530365a4c1fb3b73dfe51593f"), looks := false }, kinds := [], alts := [], laidByText := true, laidKinds := [.data, .data], laidTests := true, laidLooks := .later }
def ModInverseCardSaid : Prop := Claim7.holds Tryd.pinned (.plain (OpenSpec.ofChange modInverseSpec)) modInverseCard

/-- THE TIED CARD OF 'consistorylaw01.ModFermat'. -/
def modFermatCard : Claim7 := { stood := { row := modFermatRow, standIns := [], harness := (true, "2f64241ba9f6d35e1c9d0c44af107b42c5fc392530365a4c1fb3b73dfe51593f"), looks := false }, kinds := [], alts := [], laidByText := true, laidKinds := [.data, .data], laidTests := true, laidLooks := .later }
def ModFermatCardSaid : Prop := Claim7.holds Tryd.pinned (.plain (OpenSpec.ofChange modFermatSpec)) modFermatCard

/-- THE TIED CARD OF 'consistorylaw01.ModPrimes'. -/
def modPrimesCard : Claim7 := { stood := { row := modPrimesRow, standIns := [], harness := (true, "2f64241ba9f6d35e1c9d0c44af107b42c5fc392530365a4c1fb3b73dfe51593f"), looks := false }, kinds := [], alts := [], laidByText := true, laidKinds := [.data, .data], laidTests := true, laidLooks := .later }
def ModPrimesCardSaid : Prop := Claim7.holds Tryd.pinned (.plain (OpenSpec.ofChange modPrimesSpec)) modPrimesCard

/-- THE SECOND FORM's CARD OF 'consistorylaw01.ModNames'. -/
def modNamesUptoCard : Claim7 := { stood := { row := modNamesUptoRow, standIns := [], harness := (true, "2f64241ba9f6d35e1c9d0c44af107b42c5fc392530365a4c1fb3b73dfe51593f"), looks := false }, kinds := [], alts := [], laidByText := true, laidKinds := [.data, .data], laidTests := true, laidLooks := .later }
def ModNamesUptoCardSaid : Prop := Claim7.holds Tryd.pinned (.plain (OpenSpec.upto modNamesSpec)) modNamesUptoCard

/-- THE SECOND FORM's CARD OF 'consistorylaw01.ModTells'. -/
def modTellsUptoCard : Claim7 := { stood := { row := modTellsUptoRow, standIns := [], harness := (true, "2f64241ba9f6d35e1c9d0c44af107b42c5fc392530365a4c1fb3b73dfe51593f"), looks := false }, kinds := [], alts := [], laidByText := true, laidKinds := [.data, .data], laidTests := true, laidLooks := .later }
def ModTellsUptoCardSaid : Prop := Claim7.holds Tryd.pinned (.plain (OpenSpec.upto modTellsSpec)) modTellsUptoCard

/-- THE SECOND FORM's CARD OF 'consistorylaw01.ModPrime'. -/
def modPrimeUptoCard : Claim7 := { stood := { row := modPrimeUptoRow, standIns := [], harness := (true, "2f64241ba9f6d35e1c9d0c44af107b42c5fc392530365a4c1fb3b73dfe51593f"), looks := false }, kinds := [], alts := [], laidByText := true, laidKinds := [.data, .data], laidTests := true, laidLooks := .later }
def ModPrimeUptoCardSaid : Prop := Claim7.holds Tryd.pinned (.plain (OpenSpec.upto modPrimeSpec)) modPrimeUptoCard

/-- THE SECOND FORM's CARD OF 'consistorylaw01.ModRing'. -/
def modRingUptoCard : Claim7 := { stood := { row := modRingUptoRow, standIns := [], harness := (true, "2f64241ba9f6d35e1c9d0c44af107b42c5fc392530365a4c1fb3b73dfe51593f"), looks := false }, kinds := [], alts := [], laidByText := true, laidKinds := [.data, .data], laidTests := true, laidLooks := .later }
def ModRingUptoCardSaid : Prop := Claim7.holds Tryd.pinned (.plain (OpenSpec.upto modRingSpec)) modRingUptoCard

/-- THE SECOND FORM's CARD OF 'consistorylaw01.ModPowers'. -/
def modPowersUptoCard : Claim7 := { stood := { row := modPowersUptoRow, standIns := [], harness := (true, "2f64241ba9f6d35e1c9d0c44af107b42c5fc392530365a4c1fb3b73dfe51593f"), looks := false }, kinds := [], alts := [], laidByText := true, laidKinds := [.data, .data], laidTests := true, laidLooks := .later }
def ModPowersUptoCardSaid : Prop := Claim7.holds Tryd.pinned (.plain (OpenSpec.upto modPowersSpec)) modPowersUptoCard

/-- THE SECOND FORM's CARD OF 'consistorylaw01.ModInverse'. -/
def modInverseUptoCard : Claim7 := { stood := { row := modInverseUptoRow, standIns := [], harness := (true, "2f64241ba9f6d35e1c9d0c44af107b42c5fc392530365a4c1fb3b73dfe51593f"), looks := false }, kinds := [], alts := [], laidByText := true, laidKinds := [.data, .data], laidTests := true, laidLooks := .later }
def ModInverseUptoCardSaid : Prop := Claim7.holds Tryd.pinned (.plain (OpenSpec.upto modInverseSpec)) modInverseUptoCard

/-- THE SECOND FORM's CARD OF 'consistorylaw01.ModFermat'. -/
def modFermatUptoCard : Claim7 := { stood := { row := modFermatUptoRow, standIns := [], harness := (true, "2f64241ba9f6d35e1c9d0c44af107b42c5fc392530365a4c1fb3b73dfe51593f"), looks := false }, kinds := [], alts := [], laidByText := true, laidKinds := [.data, .data], laidTests := true, laidLooks := .later }
def ModFermatUptoCardSaid : Prop := Claim7.holds Tryd.pinned (.plain (OpenSpec.upto modFermatSpec)) modFermatUptoCard

/-- THE SECOND FORM's CARD OF 'consistorylaw01.ModPrimes'. -/
def modPrimesUptoCard : Claim7 := { stood := { row := modPrimesUptoRow, standIns := [], harness := (true, "2f64241ba9f6d35e1c9d0c44af107b42c5fc392530365a4c1fb3b73dfe51593f"), looks := false }, kinds := [], alts := [], laidByText := true, laidKinds := [.data, .data], laidTests := true, laidLooks := .later }
def ModPrimesUptoCardSaid : Prop := Claim7.holds Tryd.pinned (.plain (OpenSpec.upto modPrimesSpec)) modPrimesUptoCard
end Rows
end Go.Proofs.YteaalkknjnodiaaDoor
