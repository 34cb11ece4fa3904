/-
  DERIVED. GIVEN WITH THE SEED: THE CARDS: each row of YthpkhmbjmnhmoaaGreatDoorRows.lean that lists a variable, with what it lists TIED to the program's text (the seventh form; the later family's looks); each row that meets fmt, with fmt's text TOLD by the authors' own Lean function (tested against real Go, not proved from fmt's source: count such statements apart). THE CARD IS WHAT COUNTS. Prove the row's statement (the work); the ties are given (YthpkhmbjmnhmoaaGreatDoorTie.lean); close each card by the builder's one call (the guide's Derived/Test/ToyasCard.lean, 'card_holds'). Laid BY PROGRAM, IN A SANDBOX (cutbox-door.mjs). By AI agents, Wed Nov 11 2026. No macro, syntax, notation, axiom, sorry.
-/
import Derived.Test.YthpkhmbjmnhmoaaGreatDoorRows
import GoSem.ClaimSeven
namespace Go.Proofs.YthpkhmbjmnhmoaaGreatDoor
namespace Rows

/-- THE TIED CARD OF 'reckonerlaw18.ProductMuls'. -/
def productMulsCard : Claim7 := { stood := { row := productMulsRow, standIns := [], harness := (true, "9b25989ca5549daa2ba7bc2c0b5e2d9a0816cb1a992964c06517ef124611da38"), looks := false }, kinds := [], alts := [], laidByText := true, laidKinds := [.data, .funcs], laidTests := true, laidLooks := .later }
def ProductMulsCardSaid : Prop := Claim7.holds Tryz.pinned (.plain (OpenSpec.ofChange productMulsSpec)) productMulsCard

/-- THE TIED CARD OF 'reckonerlaw18.ProductFused'. -/
def productFusedCard : Claim7 := { stood := { row := productFusedRow, standIns := [], harness := (true, "9b25989ca5549daa2ba7bc2c0b5e2d9a0816cb1a992964c06517ef124611da38"), looks := false }, kinds := [], alts := [], laidByText := true, laidKinds := [.data, .funcs], laidTests := true, laidLooks := .later }
def ProductFusedCardSaid : Prop := Claim7.holds Tryz.pinned (.plain (OpenSpec.ofChange productFusedSpec)) productFusedCard

/-- THE TIED CARD OF 'reckonerlaw18.ProductDots'. -/
def productDotsCard : Claim7 := { stood := { row := productDotsRow, standIns := [], harness := (true, "9b25989ca5549daa2ba7bc2c0b5e2d9a0816cb1a992964c06517ef124611da38"), looks := false }, kinds := [], alts := [], laidByText := true, laidKinds := [.data, .funcs], laidTests := true, laidLooks := .later }
def ProductDotsCardSaid : Prop := Claim7.holds Tryz.pinned (.plain (OpenSpec.ofChange productDotsSpec)) productDotsCard

/-- THE TIED CARD OF 'reckonerlaw18.ProductMany'. -/
def productManyCard : Claim7 := { stood := { row := productManyRow, standIns := [], harness := (true, "9b25989ca5549daa2ba7bc2c0b5e2d9a0816cb1a992964c06517ef124611da38"), looks := false }, kinds := [], alts := [], laidByText := true, laidKinds := [.data, .funcs], laidTests := true, laidLooks := .later }
def ProductManyCardSaid : Prop := Claim7.holds Tryz.pinned (.plain (OpenSpec.ofChange productManySpec)) productManyCard

/-- THE TIED CARD OF 'reckonerlaw18.ProductParts'. -/
def productPartsCard : Claim7 := { stood := { row := productPartsRow, standIns := [], harness := (true, "9b25989ca5549daa2ba7bc2c0b5e2d9a0816cb1a992964c06517ef124611da38"), looks := false }, kinds := [], alts := [], laidByText := true, laidKinds := [.data, .funcs], laidTests := true, laidLooks := .later }
def ProductPartsCardSaid : Prop := Claim7.holds Tryz.pinned (.plain (OpenSpec.ofChange productPartsSpec)) productPartsCard

/-- THE TIED CARD OF 'reckonerlaw18.ProductHalves'. -/
def productHalvesCard : Claim7 := { stood := { row := productHalvesRow, standIns := [], harness := (true, "9b25989ca5549daa2ba7bc2c0b5e2d9a0816cb1a992964c06517ef124611da38"), looks := false }, kinds := [], alts := [], laidByText := true, laidKinds := [.data, .funcs], laidTests := true, laidLooks := .later }
def ProductHalvesCardSaid : Prop := Claim7.holds Tryz.pinned (.plain (OpenSpec.ofChange productHalvesSpec)) productHalvesCard

/-- THE TIED CARD OF 'reckonerlaw18.ProductPowers'. -/
def productPowersCard : Claim7 := { stood := { row := productPowersRow, standIns := [], harness := (true, "9b25989ca5549daa2ba7bc2c0b5e2d9a0816cb1a992964c06517ef124611da38"), looks := false }, kinds := [], alts := [], laidByText := true, laidKinds := [.data, .funcs], laidTests := true, laidLooks := .later }
def ProductPowersCardSaid : Prop := Claim7.holds Tryz.pinned (.plain (OpenSpec.ofChange productPowersSpec)) productPowersCard

/-- THE SECOND FORM's CARD OF 'reckonerlaw18.ProductMuls'. -/
def productMulsUptoCard : Claim7 := { stood := { row := productMulsUptoRow, standIns := [], harness := (true, "9b25989ca5549daa2ba7bc2c0b5e2d9a0816cb1a992964c06517ef124611da38"), looks := false }, kinds := [], alts := [], laidByText := true, laidKinds := [.data, .funcs], laidTests := true, laidLooks := .later }
def ProductMulsUptoCardSaid : Prop := Claim7.holds Tryz.pinned (.plain (OpenSpec.upto productMulsSpec)) productMulsUptoCard

/-- THE SECOND FORM's CARD OF 'reckonerlaw18.ProductFused'. -/
def productFusedUptoCard : Claim7 := { stood := { row := productFusedUptoRow, standIns := [], harness := (true, "9b25989ca5549daa2ba7bc2c0b5e2d9a0816cb1a992964c06517ef124611da38"), looks := false }, kinds := [], alts := [], laidByText := true, laidKinds := [.data, .funcs], laidTests := true, laidLooks := .later }
def ProductFusedUptoCardSaid : Prop := Claim7.holds Tryz.pinned (.plain (OpenSpec.upto productFusedSpec)) productFusedUptoCard

/-- THE SECOND FORM's CARD OF 'reckonerlaw18.ProductDots'. -/
def productDotsUptoCard : Claim7 := { stood := { row := productDotsUptoRow, standIns := [], harness := (true, "9b25989ca5549daa2ba7bc2c0b5e2d9a0816cb1a992964c06517ef124611da38"), looks := false }, kinds := [], alts := [], laidByText := true, laidKinds := [.data, .funcs], laidTests := true, laidLooks := .later }
def ProductDotsUptoCardSaid : Prop := Claim7.holds Tryz.pinned (.plain (OpenSpec.upto productDotsSpec)) productDotsUptoCard

/-- THE SECOND FORM's CARD OF 'reckonerlaw18.ProductMany'. -/
def productManyUptoCard : Claim7 := { stood := { row := productManyUptoRow, standIns := [], harness := (true, "9b25989ca5549daa2ba7bc2c0b5e2d9a0816cb1a992964c06517ef124611da38"), looks := false }, kinds := [], alts := [], laidByText := true, laidKinds := [.data, .funcs], laidTests := true, laidLooks := .later }
def ProductManyUptoCardSaid : Prop := Claim7.holds Tryz.pinned (.plain (OpenSpec.upto productManySpec)) productManyUptoCard

/-- THE SECOND FORM's CARD OF 'reckonerlaw18.ProductParts'. -/
def productPartsUptoCard : Claim7 := { stood := { row := productPartsUptoRow, standIns := [], harness := (true, "9b25989ca5549daa2ba7bc2c0b5e2d9a0816cb1a992964c06517ef124611da38"), looks := false }, kinds := [], alts := [], laidByText := true, laidKinds := [.data, .funcs], laidTests := true, laidLooks := .later }
def ProductPartsUptoCardSaid : Prop := Claim7.holds Tryz.pinned (.plain (OpenSpec.upto productPartsSpec)) productPartsUptoCard

/-- THE SECOND FORM's CARD OF 'reckonerlaw18.ProductHalves'. -/
def productHalvesUptoCard : Claim7 := { stood := { row := productHalvesUptoRow, standIns := [], harness := (true, "9b25989ca5549daa2ba7bc2c0b5e2d9a0816cb1a992964c06517ef124611da38"), looks := false }, kinds := [], alts := [], laidByText := true, laidKinds := [.data, .funcs], laidTests := true, laidLooks := .later }
def ProductHalvesUptoCardSaid : Prop := Claim7.holds Tryz.pinned (.plain (OpenSpec.upto productHalvesSpec)) productHalvesUptoCard

/-- THE SECOND FORM's CARD OF 'reckonerlaw18.ProductPowers'. -/
def productPowersUptoCard : Claim7 := { stood := { row := productPowersUptoRow, standIns := [], harness := (true, "9b25989ca5549daa2ba7bc2c0b5e2d9a0816cb1a992964c06517ef124611da38"), looks := false }, kinds := [], alts := [], laidByText := true, laidKinds := [.data, .funcs], laidTests := true, laidLooks := .later }
def ProductPowersUptoCardSaid : Prop := Claim7.holds Tryz.pinned (.plain (OpenSpec.upto productPowersSpec)) productPowersUptoCard
end Rows
end Go.Proofs.YthpkhmbjmnhmoaaGreatDoor
