/-
  DERIVED. GIVEN WITH THE SEED: THE CARDS: each row of YtokgalpflooegaaGreatDoorRows.lean that lists a variable, with what it lists TIED to the program's text (the seventh form; the later family's looks); each row that meets fmt, with fmt's text TOLD by the authors' own Lean function (tested against real Go, not proved from fmt's source: count such statements apart). THE CARD IS WHAT COUNTS. Prove the row's statement (the work); the ties are given (YtokgalpflooegaaGreatDoorTie.lean); close each card by the builder's one call (the guide's Derived/Test/ToyasCard.lean, 'card_holds'). Laid BY PROGRAM, IN A SANDBOX (cutbox-door.mjs). By AI agents, Wed Nov 11 2026. No macro, syntax, notation, axiom, sorry.
-/
import Derived.Test.YtokgalpflooegaaGreatDoorRows
import GoSem.ClaimSeven
namespace Go.Proofs.YtokgalpflooegaaGreatDoor
namespace Rows

/-- THE TIED CARD OF 'reckonerlaw20.ConvertFormats'. -/
def convertFormatsCard : Claim7 := { stood := { row := convertFormatsRow, standIns := [], harness := (true, "3fe2c233dc7110ee1fe0b35f07f821826e13d0991df5f495dfdbfa5335ae763b"), looks := false }, kinds := [], alts := [], laidByText := true, laidKinds := [.data, .funcs], laidTests := true, laidLooks := .later }
def ConvertFormatsCardSaid : Prop := Claim7.holds Tryz.pinned (.plain (OpenSpec.ofChange convertFormatsSpec)) convertFormatsCard

/-- THE TIED CARD OF 'reckonerlaw20.ConvertOdds'. -/
def convertOddsCard : Claim7 := { stood := { row := convertOddsRow, standIns := [], harness := (true, "3fe2c233dc7110ee1fe0b35f07f821826e13d0991df5f495dfdbfa5335ae763b"), looks := false }, kinds := [], alts := [], laidByText := true, laidKinds := [.data, .funcs], laidTests := true, laidLooks := .later }
def ConvertOddsCardSaid : Prop := Claim7.holds Tryz.pinned (.plain (OpenSpec.ofChange convertOddsSpec)) convertOddsCard

/-- THE TIED CARD OF 'reckonerlaw20.ConvertInts'. -/
def convertIntsCard : Claim7 := { stood := { row := convertIntsRow, standIns := [], harness := (true, "3fe2c233dc7110ee1fe0b35f07f821826e13d0991df5f495dfdbfa5335ae763b"), looks := false }, kinds := [], alts := [], laidByText := true, laidKinds := [.data, .funcs], laidTests := true, laidLooks := .later }
def ConvertIntsCardSaid : Prop := Claim7.holds Tryz.pinned (.plain (OpenSpec.ofChange convertIntsSpec)) convertIntsCard

/-- THE TIED CARD OF 'reckonerlaw20.ConvertIntegrals'. -/
def convertIntegralsCard : Claim7 := { stood := { row := convertIntegralsRow, standIns := [], harness := (true, "3fe2c233dc7110ee1fe0b35f07f821826e13d0991df5f495dfdbfa5335ae763b"), looks := false }, kinds := [], alts := [], laidByText := true, laidKinds := [.data, .funcs], laidTests := true, laidLooks := .later }
def ConvertIntegralsCardSaid : Prop := Claim7.holds Tryz.pinned (.plain (OpenSpec.ofChange convertIntegralsSpec)) convertIntegralsCard

/-- THE TIED CARD OF 'reckonerlaw20.ConvertBits'. -/
def convertBitsCard : Claim7 := { stood := { row := convertBitsRow, standIns := [], harness := (true, "3fe2c233dc7110ee1fe0b35f07f821826e13d0991df5f495dfdbfa5335ae763b"), looks := false }, kinds := [], alts := [], laidByText := true, laidKinds := [.data, .funcs], laidTests := true, laidLooks := .later }
def ConvertBitsCardSaid : Prop := Claim7.holds Tryz.pinned (.plain (OpenSpec.ofChange convertBitsSpec)) convertBitsCard

/-- THE TIED CARD OF 'reckonerlaw20.ConvertParts'. -/
def convertPartsCard : Claim7 := { stood := { row := convertPartsRow, standIns := [], harness := (true, "3fe2c233dc7110ee1fe0b35f07f821826e13d0991df5f495dfdbfa5335ae763b"), looks := false }, kinds := [], alts := [], laidByText := true, laidKinds := [.data, .funcs], laidTests := true, laidLooks := .later }
def ConvertPartsCardSaid : Prop := Claim7.holds Tryz.pinned (.plain (OpenSpec.ofChange convertPartsSpec)) convertPartsCard

/-- THE TIED CARD OF 'reckonerlaw20.ConvertJoins'. -/
def convertJoinsCard : Claim7 := { stood := { row := convertJoinsRow, standIns := [], harness := (true, "3fe2c233dc7110ee1fe0b35f07f821826e13d0991df5f495dfdbfa5335ae763b"), looks := false }, kinds := [], alts := [], laidByText := true, laidKinds := [.data, .funcs], laidTests := true, laidLooks := .later }
def ConvertJoinsCardSaid : Prop := Claim7.holds Tryz.pinned (.plain (OpenSpec.ofChange convertJoinsSpec)) convertJoinsCard

/-- THE SECOND FORM's CARD OF 'reckonerlaw20.ConvertFormats'. -/
def convertFormatsUptoCard : Claim7 := { stood := { row := convertFormatsUptoRow, standIns := [], harness := (true, "3fe2c233dc7110ee1fe0b35f07f821826e13d0991df5f495dfdbfa5335ae763b"), looks := false }, kinds := [], alts := [], laidByText := true, laidKinds := [.data, .funcs], laidTests := true, laidLooks := .later }
def ConvertFormatsUptoCardSaid : Prop := Claim7.holds Tryz.pinned (.plain (OpenSpec.upto convertFormatsSpec)) convertFormatsUptoCard

/-- THE SECOND FORM's CARD OF 'reckonerlaw20.ConvertOdds'. -/
def convertOddsUptoCard : Claim7 := { stood := { row := convertOddsUptoRow, standIns := [], harness := (true, "3fe2c233dc7110ee1fe0b35f07f821826e13d0991df5f495dfdbfa5335ae763b"), looks := false }, kinds := [], alts := [], laidByText := true, laidKinds := [.data, .funcs], laidTests := true, laidLooks := .later }
def ConvertOddsUptoCardSaid : Prop := Claim7.holds Tryz.pinned (.plain (OpenSpec.upto convertOddsSpec)) convertOddsUptoCard

/-- THE SECOND FORM's CARD OF 'reckonerlaw20.ConvertInts'. -/
def convertIntsUptoCard : Claim7 := { stood := { row := convertIntsUptoRow, standIns := [], harness := (true, "3fe2c233dc7110ee1fe0b35f07f821826e13d0991df5f495dfdbfa5335ae763b"), looks := false }, kinds := [], alts := [], laidByText := true, laidKinds := [.data, .funcs], laidTests := true, laidLooks := .later }
def ConvertIntsUptoCardSaid : Prop := Claim7.holds Tryz.pinned (.plain (OpenSpec.upto convertIntsSpec)) convertIntsUptoCard

/-- THE SECOND FORM's CARD OF 'reckonerlaw20.ConvertIntegrals'. -/
def convertIntegralsUptoCard : Claim7 := { stood := { row := convertIntegralsUptoRow, standIns := [], harness := (true, "3fe2c233dc7110ee1fe0b35f07f821826e13d0991df5f495dfdbfa5335ae763b"), looks := false }, kinds := [], alts := [], laidByText := true, laidKinds := [.data, .funcs], laidTests := true, laidLooks := .later }
def ConvertIntegralsUptoCardSaid : Prop := Claim7.holds Tryz.pinned (.plain (OpenSpec.upto convertIntegralsSpec)) convertIntegralsUptoCard

/-- THE SECOND FORM's CARD OF 'reckonerlaw20.ConvertBits'. -/
def convertBitsUptoCard : Claim7 := { stood := { row := convertBitsUptoRow, standIns := [], harness := (true, "3fe2c233dc7110ee1fe0b35f07f821826e13d0991df5f495dfdbfa5335ae763b"), looks := false }, kinds := [], alts := [], laidByText := true, laidKinds := [.data, .funcs], laidTests := true, laidLooks := .later }
def ConvertBitsUptoCardSaid : Prop := Claim7.holds Tryz.pinned (.plain (OpenSpec.upto convertBitsSpec)) convertBitsUptoCard

/-- THE SECOND FORM's CARD OF 'reckonerlaw20.ConvertParts'. -/
def convertPartsUptoCard : Claim7 := { stood := { row := convertPartsUptoRow, standIns := [], harness := (true, "3fe2c233dc7110ee1fe0b35f07f821826e13d0991df5f495dfdbfa5335ae763b"), looks := false }, kinds := [], alts := [], laidByText := true, laidKinds := [.data, .funcs], laidTests := true, laidLooks := .later }
def ConvertPartsUptoCardSaid : Prop := Claim7.holds Tryz.pinned (.plain (OpenSpec.upto convertPartsSpec)) convertPartsUptoCard

/-- THE SECOND FORM's CARD OF 'reckonerlaw20.ConvertJoins'. -/
def convertJoinsUptoCard : Claim7 := { stood := { row := convertJoinsUptoRow, standIns := [], harness := (true, "3fe2c233dc7110ee1fe0b35f07f821826e13d0991df5f495dfdbfa5335ae763b"), looks := false }, kinds := [], alts := [], laidByText := true, laidKinds := [.data, .funcs], laidTests := true, laidLooks := .later }
def ConvertJoinsUptoCardSaid : Prop := Claim7.holds Tryz.pinned (.plain (OpenSpec.upto convertJoinsSpec)) convertJoinsUptoCard
end Rows
end Go.Proofs.YtokgalpflooegaaGreatDoor
