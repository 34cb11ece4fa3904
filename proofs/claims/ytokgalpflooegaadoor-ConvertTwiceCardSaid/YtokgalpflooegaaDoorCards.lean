/-
  DERIVED. GIVEN WITH THE SEED: THE CARDS: each row of YtokgalpflooegaaDoorRows.lean that lists a variable, with what it lists TIED to the program's text (the seventh form; the later family's looks); each row that meets fmt, with fmt's text TOLD by the authors' own Lean function (tested against real Go, not proved from fmt's source: count such statements apart). THE CARD IS WHAT COUNTS. Prove the row's statement (the work); the ties are given (YtokgalpflooegaaDoorTie.lean); close each card by the builder's one call (the guide's Derived/Test/ToyasCard.lean, 'card_holds'). Laid BY PROGRAM, IN A SANDBOX (cutbox-door.mjs). By AI agents, Wed Nov 11 2026. No macro, syntax, notation, axiom, sorry.
-/
import Derived.Test.YtokgalpflooegaaDoorRows
import GoSem.ClaimSeven
namespace Go.Proofs.YtokgalpflooegaaDoor
namespace Rows

/-- THE TIED CARD OF 'reckonerlaw20.ConvertWhole'. -/
def convertWholeCard : Claim7 := { stood := { row := convertWholeRow, standIns := [], harness := (true, "725fc9ef169f85b3fd67205bc1cdd571c36983664cfe704f3c9264b162170d08"), looks := false }, kinds := [], alts := [], laidByText := true, laidKinds := [.data, .funcs], laidTests := true, laidLooks := .later }
def ConvertWholeCardSaid : Prop := Claim7.holds Tryd.pinned (.plain (OpenSpec.ofChange convertWholeSpec)) convertWholeCard

/-- THE TIED CARD OF 'reckonerlaw20.ConvertBack'. -/
def convertBackCard : Claim7 := { stood := { row := convertBackRow, standIns := [], harness := (true, "725fc9ef169f85b3fd67205bc1cdd571c36983664cfe704f3c9264b162170d08"), looks := false }, kinds := [], alts := [], laidByText := true, laidKinds := [.data, .funcs], laidTests := true, laidLooks := .later }
def ConvertBackCardSaid : Prop := Claim7.holds Tryd.pinned (.plain (OpenSpec.ofChange convertBackSpec)) convertBackCard

/-- THE TIED CARD OF 'reckonerlaw20.ConvertTwice'. -/
def convertTwiceCard : Claim7 := { stood := { row := convertTwiceRow, standIns := [], harness := (true, "725fc9ef169f85b3fd67205bc1cdd571c36983664cfe704f3c9264b162170d08"), looks := false }, kinds := [], alts := [], laidByText := true, laidKinds := [.data, .funcs], laidTests := true, laidLooks := .later }
def ConvertTwiceCardSaid : Prop := Claim7.holds Tryd.pinned (.plain (OpenSpec.ofChange convertTwiceSpec)) convertTwiceCard

/-- THE TIED CARD OF 'reckonerlaw20.ConvertFits'. -/
def convertFitsCard : Claim7 := { stood := { row := convertFitsRow, standIns := [], harness := (true, "725fc9ef169f85b3fd67205bc1cdd571c36983664cfe704f3c9264b162170d08"), looks := false }, kinds := [], alts := [], laidByText := true, laidKinds := [.data, .funcs], laidTests := true, laidLooks := .later }
def ConvertFitsCardSaid : Prop := Claim7.holds Tryd.pinned (.plain (OpenSpec.ofChange convertFitsSpec)) convertFitsCard

/-- THE TIED CARD OF 'reckonerlaw20.ConvertLarge'. -/
def convertLargeCard : Claim7 := { stood := { row := convertLargeRow, standIns := [], harness := (true, "725fc9ef169f85b3fd67205bc1cdd571c36983664cfe704f3c9264b162170d08"), looks := false }, kinds := [], alts := [], laidByText := true, laidKinds := [.data, .funcs], laidTests := true, laidLooks := .later }
def ConvertLargeCardSaid : Prop := Claim7.holds Tryd.pinned (.plain (OpenSpec.ofChange convertLargeSpec)) convertLargeCard

/-- THE SECOND FORM's CARD OF 'reckonerlaw20.ConvertWhole'. -/
def convertWholeUptoCard : Claim7 := { stood := { row := convertWholeUptoRow, standIns := [], harness := (true, "725fc9ef169f85b3fd67205bc1cdd571c36983664cfe704f3c9264b162170d08"), looks := false }, kinds := [], alts := [], laidByText := true, laidKinds := [.data, .funcs], laidTests := true, laidLooks := .later }
def ConvertWholeUptoCardSaid : Prop := Claim7.holds Tryd.pinned (.plain (OpenSpec.upto convertWholeSpec)) convertWholeUptoCard

/-- THE SECOND FORM's CARD OF 'reckonerlaw20.ConvertBack'. -/
def convertBackUptoCard : Claim7 := { stood := { row := convertBackUptoRow, standIns := [], harness := (true, "725fc9ef169f85b3fd67205bc1cdd571c36983664cfe704f3c9264b162170d08"), looks := false }, kinds := [], alts := [], laidByText := true, laidKinds := [.data, .funcs], laidTests := true, laidLooks := .later }
def ConvertBackUptoCardSaid : Prop := Claim7.holds Tryd.pinned (.plain (OpenSpec.upto convertBackSpec)) convertBackUptoCard

/-- THE SECOND FORM's CARD OF 'reckonerlaw20.ConvertTwice'. -/
def convertTwiceUptoCard : Claim7 := { stood := { row := convertTwiceUptoRow, standIns := [], harness := (true, "725fc9ef169f85b3fd67205bc1cdd571c36983664cfe704f3c9264b162170d08"), looks := false }, kinds := [], alts := [], laidByText := true, laidKinds := [.data, .funcs], laidTests := true, laidLooks := .later }
def ConvertTwiceUptoCardSaid : Prop := Claim7.holds Tryd.pinned (.plain (OpenSpec.upto convertTwiceSpec)) convertTwiceUptoCard

/-- THE SECOND FORM's CARD OF 'reckonerlaw20.ConvertFits'. -/
def convertFitsUptoCard : Claim7 := { stood := { row := convertFitsUptoRow, standIns := [], harness := (true, "725fc9ef169f85b3fd67205bc1cdd571c36983664cfe704f3c9264b162170d08"), looks := false }, kinds := [], alts := [], laidByText := true, laidKinds := [.data, .funcs], laidTests := true, laidLooks := .later }
def ConvertFitsUptoCardSaid : Prop := Claim7.holds Tryd.pinned (.plain (OpenSpec.upto convertFitsSpec)) convertFitsUptoCard

/-- THE SECOND FORM's CARD OF 'reckonerlaw20.ConvertLarge'. -/
def convertLargeUptoCard : Claim7 := { stood := { row := convertLargeUptoRow, standIns := [], harness := (true, "725fc9ef169f85b3fd67205bc1cdd571c36983664cfe704f3c9264b162170d08"), looks := false }, kinds := [], alts := [], laidByText := true, laidKinds := [.data, .funcs], laidTests := true, laidLooks := .later }
def ConvertLargeUptoCardSaid : Prop := Claim7.holds Tryd.pinned (.plain (OpenSpec.upto convertLargeSpec)) convertLargeUptoCard
end Rows
end Go.Proofs.YtokgalpflooegaaDoor
