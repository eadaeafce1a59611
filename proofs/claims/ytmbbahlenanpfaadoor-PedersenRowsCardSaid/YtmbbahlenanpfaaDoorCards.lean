/-
  DERIVED. GIVEN WITH THE SEED: THE CARDS: each row of YtmbbahlenanpfaaDoorRows.lean that lists a variable, with what it lists TIED to the program's text (the seventh form; the later family's looks); each row that meets fmt, with fmt's text TOLD by the authors' own Lean function (tested against real Go, not proved from fmt's source: count such statements apart). THE CARD IS WHAT COUNTS. Prove the row's statement (the work); the ties are given (YtmbbahlenanpfaaDoorTie.lean); close each card by the builder's one call (the guide's Derived/Test/ToyasCard.lean, 'card_holds'). Laid BY PROGRAM, IN A SANDBOX (cutbox-door.mjs). By AI agents, Wed Nov 11 2026. No macro, syntax, notation, axiom, sorry.
-/
import Derived.Test.YtmbbahlenanpfaaDoorRows
import GoSem.ClaimSeven
namespace Go.Proofs.YtmbbahlenanpfaaDoor
namespace Rows

/-- THE TIED CARD OF 'consistorylaw08.PedersenShares'. -/
def pedersenSharesCard : Claim7 := { stood := { row := pedersenSharesRow, standIns := [], harness := (true, "07a925c6761ef905d9b394e267382c3f066ea76220911c952a597f7b17111051"), looks := false }, kinds := [], alts := [], laidByText := true, laidKinds := [.data, .data], laidTests := true, laidLooks := .later }
def PedersenSharesCardSaid : Prop := Claim7.holds Tryd.pinned (.plain (OpenSpec.ofChange pedersenSharesSpec)) pedersenSharesCard

/-- THE TIED CARD OF 'consistorylaw08.PedersenBonds'. -/
def pedersenBondsCard : Claim7 := { stood := { row := pedersenBondsRow, standIns := [], harness := (true, "07a925c6761ef905d9b394e267382c3f066ea76220911c952a597f7b17111051"), looks := false }, kinds := [], alts := [], laidByText := true, laidKinds := [.data, .data], laidTests := true, laidLooks := .later }
def PedersenBondsCardSaid : Prop := Claim7.holds Tryd.pinned (.plain (OpenSpec.ofChange pedersenBondsSpec)) pedersenBondsCard

/-- THE TIED CARD OF 'consistorylaw08.PedersenEither'. -/
def pedersenEitherCard : Claim7 := { stood := { row := pedersenEitherRow, standIns := [], harness := (true, "07a925c6761ef905d9b394e267382c3f066ea76220911c952a597f7b17111051"), looks := false }, kinds := [], alts := [], laidByText := true, laidKinds := [.data, .data], laidTests := true, laidLooks := .later }
def PedersenEitherCardSaid : Prop := Claim7.holds Tryd.pinned (.plain (OpenSpec.ofChange pedersenEitherSpec)) pedersenEitherCard

/-- THE TIED CARD OF 'consistorylaw08.PedersenRows'. -/
def pedersenRowsCard : Claim7 := { stood := { row := pedersenRowsRow, standIns := [], harness := (true, "07a925c6761ef905d9b394e267382c3f066ea76220911c952a597f7b17111051"), looks := false }, kinds := [], alts := [], laidByText := true, laidKinds := [.data, .data], laidTests := true, laidLooks := .later }
def PedersenRowsCardSaid : Prop := Claim7.holds Tryd.pinned (.plain (OpenSpec.ofChange pedersenRowsSpec)) pedersenRowsCard

/-- THE SECOND FORM's CARD OF 'consistorylaw08.PedersenShares'. -/
def pedersenSharesUptoCard : Claim7 := { stood := { row := pedersenSharesUptoRow, standIns := [], harness := (true, "07a925c6761ef905d9b394e267382c3f066ea76220911c952a597f7b17111051"), looks := false }, kinds := [], alts := [], laidByText := true, laidKinds := [.data, .data], laidTests := true, laidLooks := .later }
def PedersenSharesUptoCardSaid : Prop := Claim7.holds Tryd.pinned (.plain (OpenSpec.upto pedersenSharesSpec)) pedersenSharesUptoCard

/-- THE SECOND FORM's CARD OF 'consistorylaw08.PedersenBonds'. -/
def pedersenBondsUptoCard : Claim7 := { stood := { row := pedersenBondsUptoRow, standIns := [], harness := (true, "07a925c6761ef905d9b394e267382c3f066ea76220911c952a597f7b17111051"), looks := false }, kinds := [], alts := [], laidByText := true, laidKinds := [.data, .data], laidTests := true, laidLooks := .later }
def PedersenBondsUptoCardSaid : Prop := Claim7.holds Tryd.pinned (.plain (OpenSpec.upto pedersenBondsSpec)) pedersenBondsUptoCard

/-- THE SECOND FORM's CARD OF 'consistorylaw08.PedersenEither'. -/
def pedersenEitherUptoCard : Claim7 := { stood := { row := pedersenEitherUptoRow, standIns := [], harness := (true, "07a925c6761ef905d9b394e267382c3f066ea76220911c952a597f7b17111051"), looks := false }, kinds := [], alts := [], laidByText := true, laidKinds := [.data, .data], laidTests := true, laidLooks := .later }
def PedersenEitherUptoCardSaid : Prop := Claim7.holds Tryd.pinned (.plain (OpenSpec.upto pedersenEitherSpec)) pedersenEitherUptoCard

/-- THE SECOND FORM's CARD OF 'consistorylaw08.PedersenRows'. -/
def pedersenRowsUptoCard : Claim7 := { stood := { row := pedersenRowsUptoRow, standIns := [], harness := (true, "07a925c6761ef905d9b394e267382c3f066ea76220911c952a597f7b17111051"), looks := false }, kinds := [], alts := [], laidByText := true, laidKinds := [.data, .data], laidTests := true, laidLooks := .later }
def PedersenRowsUptoCardSaid : Prop := Claim7.holds Tryd.pinned (.plain (OpenSpec.upto pedersenRowsSpec)) pedersenRowsUptoCard
end Rows
end Go.Proofs.YtmbbahlenanpfaaDoor
