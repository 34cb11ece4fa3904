/-
  DERIVED. GIVEN WITH THE SEED: THE CARDS: each row of YtdaecibpkhcllaaGreatDoorRows.lean that lists a variable, with what it lists TIED to the program's text (the seventh form; the later family's looks); each row that meets fmt, with fmt's text TOLD by the authors' own Lean function (tested against real Go, not proved from fmt's source: count such statements apart). THE CARD IS WHAT COUNTS. Prove the row's statement (the work); the ties are given (YtdaecibpkhcllaaGreatDoorTie.lean); close each card by the builder's one call (the guide's Derived/Test/ToyasCard.lean, 'card_holds'). Laid BY PROGRAM, IN A SANDBOX (cutbox-door.mjs). By AI agents, Wed Nov 11 2026. No macro, syntax, notation, axiom, sorry.
-/
import Derived.Test.YtdaecibpkhcllaaGreatDoorRows
import GoSem.ClaimSeven
namespace Go.Proofs.YtdaecibpkhcllaaGreatDoor
namespace Rows

/-- THE TIED CARD OF 'reckonerlaw17.SumAdds'. -/
def sumAddsCard : Claim7 := { stood := { row := sumAddsRow, standIns := [], harness := (true, "f04ae283b0c74163c653328c1ce76e576dee056c8634fcefb77b88c3804b734e"), looks := false }, kinds := [], alts := [], laidByText := true, laidKinds := [.data, .funcs], laidTests := true, laidLooks := .later }
def SumAddsCardSaid : Prop := Claim7.holds Tryz.pinned (.plain (OpenSpec.ofChange sumAddsSpec)) sumAddsCard

/-- THE TIED CARD OF 'reckonerlaw17.SumTotals'. -/
def sumTotalsCard : Claim7 := { stood := { row := sumTotalsRow, standIns := [], harness := (true, "f04ae283b0c74163c653328c1ce76e576dee056c8634fcefb77b88c3804b734e"), looks := false }, kinds := [], alts := [], laidByText := true, laidKinds := [.data, .funcs], laidTests := true, laidLooks := .later }
def SumTotalsCardSaid : Prop := Claim7.holds Tryz.pinned (.plain (OpenSpec.ofChange sumTotalsSpec)) sumTotalsCard

/-- THE TIED CARD OF 'reckonerlaw17.SumPairs'. -/
def sumPairsCard : Claim7 := { stood := { row := sumPairsRow, standIns := [], harness := (true, "f04ae283b0c74163c653328c1ce76e576dee056c8634fcefb77b88c3804b734e"), looks := false }, kinds := [], alts := [], laidByText := true, laidKinds := [.data, .funcs], laidTests := true, laidLooks := .later }
def SumPairsCardSaid : Prop := Claim7.holds Tryz.pinned (.plain (OpenSpec.ofChange sumPairsSpec)) sumPairsCard

/-- THE TIED CARD OF 'reckonerlaw17.SumExpands'. -/
def sumExpandsCard : Claim7 := { stood := { row := sumExpandsRow, standIns := [], harness := (true, "f04ae283b0c74163c653328c1ce76e576dee056c8634fcefb77b88c3804b734e"), looks := false }, kinds := [], alts := [], laidByText := true, laidKinds := [.data, .funcs], laidTests := true, laidLooks := .later }
def SumExpandsCardSaid : Prop := Claim7.holds Tryz.pinned (.plain (OpenSpec.ofChange sumExpandsSpec)) sumExpandsCard

/-- THE TIED CARD OF 'reckonerlaw17.SumMany'. -/
def sumManyCard : Claim7 := { stood := { row := sumManyRow, standIns := [], harness := (true, "f04ae283b0c74163c653328c1ce76e576dee056c8634fcefb77b88c3804b734e"), looks := false }, kinds := [], alts := [], laidByText := true, laidKinds := [.data, .funcs], laidTests := true, laidLooks := .later }
def SumManyCardSaid : Prop := Claim7.holds Tryz.pinned (.plain (OpenSpec.ofChange sumManySpec)) sumManyCard

/-- THE TIED CARD OF 'reckonerlaw17.SumError'. -/
def sumErrorCard : Claim7 := { stood := { row := sumErrorRow, standIns := [], harness := (true, "f04ae283b0c74163c653328c1ce76e576dee056c8634fcefb77b88c3804b734e"), looks := false }, kinds := [], alts := [], laidByText := true, laidKinds := [.data, .funcs], laidTests := true, laidLooks := .later }
def SumErrorCardSaid : Prop := Claim7.holds Tryz.pinned (.plain (OpenSpec.ofChange sumErrorSpec)) sumErrorCard

/-- THE TIED CARD OF 'reckonerlaw17.SumParts'. -/
def sumPartsCard : Claim7 := { stood := { row := sumPartsRow, standIns := [], harness := (true, "f04ae283b0c74163c653328c1ce76e576dee056c8634fcefb77b88c3804b734e"), looks := false }, kinds := [], alts := [], laidByText := true, laidKinds := [.data, .funcs], laidTests := true, laidLooks := .later }
def SumPartsCardSaid : Prop := Claim7.holds Tryz.pinned (.plain (OpenSpec.ofChange sumPartsSpec)) sumPartsCard

/-- THE SECOND FORM's CARD OF 'reckonerlaw17.SumAdds'. -/
def sumAddsUptoCard : Claim7 := { stood := { row := sumAddsUptoRow, standIns := [], harness := (true, "f04ae283b0c74163c653328c1ce76e576dee056c8634fcefb77b88c3804b734e"), looks := false }, kinds := [], alts := [], laidByText := true, laidKinds := [.data, .funcs], laidTests := true, laidLooks := .later }
def SumAddsUptoCardSaid : Prop := Claim7.holds Tryz.pinned (.plain (OpenSpec.upto sumAddsSpec)) sumAddsUptoCard

/-- THE SECOND FORM's CARD OF 'reckonerlaw17.SumTotals'. -/
def sumTotalsUptoCard : Claim7 := { stood := { row := sumTotalsUptoRow, standIns := [], harness := (true, "f04ae283b0c74163c653328c1ce76e576dee056c8634fcefb77b88c3804b734e"), looks := false }, kinds := [], alts := [], laidByText := true, laidKinds := [.data, .funcs], laidTests := true, laidLooks := .later }
def SumTotalsUptoCardSaid : Prop := Claim7.holds Tryz.pinned (.plain (OpenSpec.upto sumTotalsSpec)) sumTotalsUptoCard

/-- THE SECOND FORM's CARD OF 'reckonerlaw17.SumPairs'. -/
def sumPairsUptoCard : Claim7 := { stood := { row := sumPairsUptoRow, standIns := [], harness := (true, "f04ae283b0c74163c653328c1ce76e576dee056c8634fcefb77b88c3804b734e"), looks := false }, kinds := [], alts := [], laidByText := true, laidKinds := [.data, .funcs], laidTests := true, laidLooks := .later }
def SumPairsUptoCardSaid : Prop := Claim7.holds Tryz.pinned (.plain (OpenSpec.upto sumPairsSpec)) sumPairsUptoCard

/-- THE SECOND FORM's CARD OF 'reckonerlaw17.SumExpands'. -/
def sumExpandsUptoCard : Claim7 := { stood := { row := sumExpandsUptoRow, standIns := [], harness := (true, "f04ae283b0c74163c653328c1ce76e576dee056c8634fcefb77b88c3804b734e"), looks := false }, kinds := [], alts := [], laidByText := true, laidKinds := [.data, .funcs], laidTests := true, laidLooks := .later }
def SumExpandsUptoCardSaid : Prop := Claim7.holds Tryz.pinned (.plain (OpenSpec.upto sumExpandsSpec)) sumExpandsUptoCard

/-- THE SECOND FORM's CARD OF 'reckonerlaw17.SumMany'. -/
def sumManyUptoCard : Claim7 := { stood := { row := sumManyUptoRow, standIns := [], harness := (true, "f04ae283b0c74163c653328c1ce76e576dee056c8634fcefb77b88c3804b734e"), looks := false }, kinds := [], alts := [], laidByText := true, laidKinds := [.data, .funcs], laidTests := true, laidLooks := .later }
def SumManyUptoCardSaid : Prop := Claim7.holds Tryz.pinned (.plain (OpenSpec.upto sumManySpec)) sumManyUptoCard

/-- THE SECOND FORM's CARD OF 'reckonerlaw17.SumError'. -/
def sumErrorUptoCard : Claim7 := { stood := { row := sumErrorUptoRow, standIns := [], harness := (true, "f04ae283b0c74163c653328c1ce76e576dee056c8634fcefb77b88c3804b734e"), looks := false }, kinds := [], alts := [], laidByText := true, laidKinds := [.data, .funcs], laidTests := true, laidLooks := .later }
def SumErrorUptoCardSaid : Prop := Claim7.holds Tryz.pinned (.plain (OpenSpec.upto sumErrorSpec)) sumErrorUptoCard

/-- THE SECOND FORM's CARD OF 'reckonerlaw17.SumParts'. -/
def sumPartsUptoCard : Claim7 := { stood := { row := sumPartsUptoRow, standIns := [], harness := (true, "f04ae283b0c74163c653328c1ce76e576dee056c8634fcefb77b88c3804b734e"), looks := false }, kinds := [], alts := [], laidByText := true, laidKinds := [.data, .funcs], laidTests := true, laidLooks := .later }
def SumPartsUptoCardSaid : Prop := Claim7.holds Tryz.pinned (.plain (OpenSpec.upto sumPartsSpec)) sumPartsUptoCard
end Rows
end Go.Proofs.YtdaecibpkhcllaaGreatDoor
