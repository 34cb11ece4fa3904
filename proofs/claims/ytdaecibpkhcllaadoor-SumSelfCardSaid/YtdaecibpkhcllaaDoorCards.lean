/-
  DERIVED. GIVEN WITH THE SEED: THE CARDS: each row of YtdaecibpkhcllaaDoorRows.lean that lists a variable, with what it lists TIED to the program's text (the seventh form; the later family's looks); each row that meets fmt, with fmt's text TOLD by the authors' own Lean function (tested against real Go, not proved from fmt's source: count such statements apart). THE CARD IS WHAT COUNTS. Prove the row's statement (the work); the ties are given (YtdaecibpkhcllaaDoorTie.lean); close each card by the builder's one call (the guide's Derived/Test/ToyasCard.lean, 'card_holds'). Laid BY PROGRAM, IN A SANDBOX (cutbox-door.mjs). By AI agents, Wed Nov 11 2026. No macro, syntax, notation, axiom, sorry.
-/
import Derived.Test.YtdaecibpkhcllaaDoorRows
import GoSem.ClaimSeven
namespace Go.Proofs.YtdaecibpkhcllaaDoor
namespace Rows

/-- THE TIED CARD OF 'reckonerlaw17.SumOrder'. -/
def sumOrderCard : Claim7 := { stood := { row := sumOrderRow, standIns := [], harness := (true, "2b7f90b7a4fb13e51d53b5c9dba7599f153ae5e8aef98f7f95083b2fd053b345"), looks := false }, kinds := [], alts := [], laidByText := true, laidKinds := [.data, .funcs], laidTests := true, laidLooks := .later }
def SumOrderCardSaid : Prop := Claim7.holds Tryd.pinned (.plain (OpenSpec.ofChange sumOrderSpec)) sumOrderCard

/-- THE TIED CARD OF 'reckonerlaw17.SumSelf'. -/
def sumSelfCard : Claim7 := { stood := { row := sumSelfRow, standIns := [], harness := (true, "2b7f90b7a4fb13e51d53b5c9dba7599f153ae5e8aef98f7f95083b2fd053b345"), looks := false }, kinds := [], alts := [], laidByText := true, laidKinds := [.data, .funcs], laidTests := true, laidLooks := .later }
def SumSelfCardSaid : Prop := Claim7.holds Tryd.pinned (.plain (OpenSpec.ofChange sumSelfSpec)) sumSelfCard

/-- THE TIED CARD OF 'reckonerlaw17.SumLarge'. -/
def sumLargeCard : Claim7 := { stood := { row := sumLargeRow, standIns := [], harness := (true, "2b7f90b7a4fb13e51d53b5c9dba7599f153ae5e8aef98f7f95083b2fd053b345"), looks := false }, kinds := [], alts := [], laidByText := true, laidKinds := [.data, .funcs], laidTests := true, laidLooks := .later }
def SumLargeCardSaid : Prop := Claim7.holds Tryd.pinned (.plain (OpenSpec.ofChange sumLargeSpec)) sumLargeCard

/-- THE SECOND FORM's CARD OF 'reckonerlaw17.SumOrder'. -/
def sumOrderUptoCard : Claim7 := { stood := { row := sumOrderUptoRow, standIns := [], harness := (true, "2b7f90b7a4fb13e51d53b5c9dba7599f153ae5e8aef98f7f95083b2fd053b345"), looks := false }, kinds := [], alts := [], laidByText := true, laidKinds := [.data, .funcs], laidTests := true, laidLooks := .later }
def SumOrderUptoCardSaid : Prop := Claim7.holds Tryd.pinned (.plain (OpenSpec.upto sumOrderSpec)) sumOrderUptoCard

/-- THE SECOND FORM's CARD OF 'reckonerlaw17.SumSelf'. -/
def sumSelfUptoCard : Claim7 := { stood := { row := sumSelfUptoRow, standIns := [], harness := (true, "2b7f90b7a4fb13e51d53b5c9dba7599f153ae5e8aef98f7f95083b2fd053b345"), looks := false }, kinds := [], alts := [], laidByText := true, laidKinds := [.data, .funcs], laidTests := true, laidLooks := .later }
def SumSelfUptoCardSaid : Prop := Claim7.holds Tryd.pinned (.plain (OpenSpec.upto sumSelfSpec)) sumSelfUptoCard

/-- THE SECOND FORM's CARD OF 'reckonerlaw17.SumLarge'. -/
def sumLargeUptoCard : Claim7 := { stood := { row := sumLargeUptoRow, standIns := [], harness := (true, "2b7f90b7a4fb13e51d53b5c9dba7599f153ae5e8aef98f7f95083b2fd053b345"), looks := false }, kinds := [], alts := [], laidByText := true, laidKinds := [.data, .funcs], laidTests := true, laidLooks := .later }
def SumLargeUptoCardSaid : Prop := Claim7.holds Tryd.pinned (.plain (OpenSpec.upto sumLargeSpec)) sumLargeUptoCard
end Rows
end Go.Proofs.YtdaecibpkhcllaaDoor
