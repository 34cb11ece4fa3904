/-
  DERIVED. GIVEN WITH THE SEED: THE CARDS: each row of YthpkhmbjmnhmoaaDoorRows.lean that lists a variable, with what it lists TIED to the program's text (the seventh form; the later family's looks); each row that meets fmt, with fmt's text TOLD by the authors' own Lean function (tested against real Go, not proved from fmt's source: count such statements apart). THE CARD IS WHAT COUNTS. Prove the row's statement (the work); the ties are given (YthpkhmbjmnhmoaaDoorTie.lean); close each card by the builder's one call (the guide's Derived/Test/ToyasCard.lean, 'card_holds'). Laid BY PROGRAM, IN A SANDBOX (cutbox-door.mjs). By AI agents, Wed Nov 11 2026. No macro, syntax, notation, axiom, sorry.
-/
import Derived.Test.YthpkhmbjmnhmoaaDoorRows
import GoSem.ClaimSeven
namespace Go.Proofs.YthpkhmbjmnhmoaaDoor
namespace Rows

/-- THE TIED CARD OF 'reckonerlaw18.ProductOrder'. -/
def productOrderCard : Claim7 := { stood := { row := productOrderRow, standIns := [], harness := (true, "e8a982494c327cd28a5f68ccf2fd9e4a49c6c76d9a15f66ca11510c7adf456e8"), looks := false }, kinds := [], alts := [], laidByText := true, laidKinds := [.data, .funcs], laidTests := true, laidLooks := .later }
def ProductOrderCardSaid : Prop := Claim7.holds Tryd.pinned (.plain (OpenSpec.ofChange productOrderSpec)) productOrderCard

/-- THE TIED CARD OF 'reckonerlaw18.ProductJoins'. -/
def productJoinsCard : Claim7 := { stood := { row := productJoinsRow, standIns := [], harness := (true, "e8a982494c327cd28a5f68ccf2fd9e4a49c6c76d9a15f66ca11510c7adf456e8"), looks := false }, kinds := [], alts := [], laidByText := true, laidKinds := [.data, .funcs], laidTests := true, laidLooks := .later }
def ProductJoinsCardSaid : Prop := Claim7.holds Tryd.pinned (.plain (OpenSpec.ofChange productJoinsSpec)) productJoinsCard

/-- THE TIED CARD OF 'reckonerlaw18.ProductSquares'. -/
def productSquaresCard : Claim7 := { stood := { row := productSquaresRow, standIns := [], harness := (true, "e8a982494c327cd28a5f68ccf2fd9e4a49c6c76d9a15f66ca11510c7adf456e8"), looks := false }, kinds := [], alts := [], laidByText := true, laidKinds := [.data, .funcs], laidTests := true, laidLooks := .later }
def ProductSquaresCardSaid : Prop := Claim7.holds Tryd.pinned (.plain (OpenSpec.ofChange productSquaresSpec)) productSquaresCard

/-- THE TIED CARD OF 'reckonerlaw18.ProductLarge'. -/
def productLargeCard : Claim7 := { stood := { row := productLargeRow, standIns := [], harness := (true, "e8a982494c327cd28a5f68ccf2fd9e4a49c6c76d9a15f66ca11510c7adf456e8"), looks := false }, kinds := [], alts := [], laidByText := true, laidKinds := [.data, .funcs], laidTests := true, laidLooks := .later }
def ProductLargeCardSaid : Prop := Claim7.holds Tryd.pinned (.plain (OpenSpec.ofChange productLargeSpec)) productLargeCard

/-- THE SECOND FORM's CARD OF 'reckonerlaw18.ProductOrder'. -/
def productOrderUptoCard : Claim7 := { stood := { row := productOrderUptoRow, standIns := [], harness := (true, "e8a982494c327cd28a5f68ccf2fd9e4a49c6c76d9a15f66ca11510c7adf456e8"), looks := false }, kinds := [], alts := [], laidByText := true, laidKinds := [.data, .funcs], laidTests := true, laidLooks := .later }
def ProductOrderUptoCardSaid : Prop := Claim7.holds Tryd.pinned (.plain (OpenSpec.upto productOrderSpec)) productOrderUptoCard

/-- THE SECOND FORM's CARD OF 'reckonerlaw18.ProductJoins'. -/
def productJoinsUptoCard : Claim7 := { stood := { row := productJoinsUptoRow, standIns := [], harness := (true, "e8a982494c327cd28a5f68ccf2fd9e4a49c6c76d9a15f66ca11510c7adf456e8"), looks := false }, kinds := [], alts := [], laidByText := true, laidKinds := [.data, .funcs], laidTests := true, laidLooks := .later }
def ProductJoinsUptoCardSaid : Prop := Claim7.holds Tryd.pinned (.plain (OpenSpec.upto productJoinsSpec)) productJoinsUptoCard

/-- THE SECOND FORM's CARD OF 'reckonerlaw18.ProductSquares'. -/
def productSquaresUptoCard : Claim7 := { stood := { row := productSquaresUptoRow, standIns := [], harness := (true, "e8a982494c327cd28a5f68ccf2fd9e4a49c6c76d9a15f66ca11510c7adf456e8"), looks := false }, kinds := [], alts := [], laidByText := true, laidKinds := [.data, .funcs], laidTests := true, laidLooks := .later }
def ProductSquaresUptoCardSaid : Prop := Claim7.holds Tryd.pinned (.plain (OpenSpec.upto productSquaresSpec)) productSquaresUptoCard

/-- THE SECOND FORM's CARD OF 'reckonerlaw18.ProductLarge'. -/
def productLargeUptoCard : Claim7 := { stood := { row := productLargeUptoRow, standIns := [], harness := (true, "e8a982494c327cd28a5f68ccf2fd9e4a49c6c76d9a15f66ca11510c7adf456e8"), looks := false }, kinds := [], alts := [], laidByText := true, laidKinds := [.data, .funcs], laidTests := true, laidLooks := .later }
def ProductLargeUptoCardSaid : Prop := Claim7.holds Tryd.pinned (.plain (OpenSpec.upto productLargeSpec)) productLargeUptoCard
end Rows
end Go.Proofs.YthpkhmbjmnhmoaaDoor
