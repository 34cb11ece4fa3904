/-
  DERIVED. GIVEN WITH THE SEED: THE CARDS: each row of YtbhokdhkfodpfaaGreatDoorRows.lean that lists a variable, with what it lists TIED to the program's text (the seventh form; the later family's looks); each row that meets fmt, with fmt's text TOLD by the authors' own Lean function (tested against real Go, not proved from fmt's source: count such statements apart). THE CARD IS WHAT COUNTS. Prove the row's statement (the work); the ties are given (YtbhokdhkfodpfaaGreatDoorTie.lean); close each card by the builder's one call (the guide's Derived/Test/ToyasCard.lean, 'card_holds'). Laid BY PROGRAM, IN A SANDBOX (cutbox-door.mjs). By AI agents, Wed Nov 11 2026. No macro, syntax, notation, axiom, sorry.
-/
import Derived.Test.YtbhokdhkfodpfaaGreatDoorRows
import GoSem.ClaimSeven
namespace Go.Proofs.YtbhokdhkfodpfaaGreatDoor
namespace Rows

/-- THE TIED CARD OF 'reckonerlaw19.QuotientSquares'. -/
def quotientSquaresCard : Claim7 := { stood := { row := quotientSquaresRow, standIns := [], harness := (true, "799880bf9485fb3106f82485c4084e8c8201a52ad9adcc5fc984ab1d85e2cc81"), looks := false }, kinds := [], alts := [], laidByText := true, laidKinds := [.data, .funcs], laidTests := true, laidLooks := .later }
def QuotientSquaresCardSaid : Prop := Claim7.holds Tryz.pinned (.plain (OpenSpec.ofChange quotientSquaresSpec)) quotientSquaresCard

/-- THE TIED CARD OF 'reckonerlaw19.QuotientRests'. -/
def quotientRestsCard : Claim7 := { stood := { row := quotientRestsRow, standIns := [], harness := (true, "799880bf9485fb3106f82485c4084e8c8201a52ad9adcc5fc984ab1d85e2cc81"), looks := false }, kinds := [], alts := [], laidByText := true, laidKinds := [.data, .funcs], laidTests := true, laidLooks := .later }
def QuotientRestsCardSaid : Prop := Claim7.holds Tryz.pinned (.plain (OpenSpec.ofChange quotientRestsSpec)) quotientRestsCard

/-- THE TIED CARD OF 'reckonerlaw19.QuotientQuos'. -/
def quotientQuosCard : Claim7 := { stood := { row := quotientQuosRow, standIns := [], harness := (true, "799880bf9485fb3106f82485c4084e8c8201a52ad9adcc5fc984ab1d85e2cc81"), looks := false }, kinds := [], alts := [], laidByText := true, laidKinds := [.data, .funcs], laidTests := true, laidLooks := .later }
def QuotientQuosCardSaid : Prop := Claim7.holds Tryz.pinned (.plain (OpenSpec.ofChange quotientQuosSpec)) quotientQuosCard

/-- THE SECOND FORM's CARD OF 'reckonerlaw19.QuotientSquares'. -/
def quotientSquaresUptoCard : Claim7 := { stood := { row := quotientSquaresUptoRow, standIns := [], harness := (true, "799880bf9485fb3106f82485c4084e8c8201a52ad9adcc5fc984ab1d85e2cc81"), looks := false }, kinds := [], alts := [], laidByText := true, laidKinds := [.data, .funcs], laidTests := true, laidLooks := .later }
def QuotientSquaresUptoCardSaid : Prop := Claim7.holds Tryz.pinned (.plain (OpenSpec.upto quotientSquaresSpec)) quotientSquaresUptoCard

/-- THE SECOND FORM's CARD OF 'reckonerlaw19.QuotientRests'. -/
def quotientRestsUptoCard : Claim7 := { stood := { row := quotientRestsUptoRow, standIns := [], harness := (true, "799880bf9485fb3106f82485c4084e8c8201a52ad9adcc5fc984ab1d85e2cc81"), looks := false }, kinds := [], alts := [], laidByText := true, laidKinds := [.data, .funcs], laidTests := true, laidLooks := .later }
def QuotientRestsUptoCardSaid : Prop := Claim7.holds Tryz.pinned (.plain (OpenSpec.upto quotientRestsSpec)) quotientRestsUptoCard

/-- THE SECOND FORM's CARD OF 'reckonerlaw19.QuotientQuos'. -/
def quotientQuosUptoCard : Claim7 := { stood := { row := quotientQuosUptoRow, standIns := [], harness := (true, "799880bf9485fb3106f82485c4084e8c8201a52ad9adcc5fc984ab1d85e2cc81"), looks := false }, kinds := [], alts := [], laidByText := true, laidKinds := [.data, .funcs], laidTests := true, laidLooks := .later }
def QuotientQuosUptoCardSaid : Prop := Claim7.holds Tryz.pinned (.plain (OpenSpec.upto quotientQuosSpec)) quotientQuosUptoCard
end Rows
end Go.Proofs.YtbhokdhkfodpfaaGreatDoor
