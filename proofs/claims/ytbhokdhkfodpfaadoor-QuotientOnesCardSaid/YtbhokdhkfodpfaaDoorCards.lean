/-
  DERIVED. GIVEN WITH THE SEED: THE CARDS: each row of YtbhokdhkfodpfaaDoorRows.lean that lists a variable, with what it lists TIED to the program's text (the seventh form; the later family's looks); each row that meets fmt, with fmt's text TOLD by the authors' own Lean function (tested against real Go, not proved from fmt's source: count such statements apart). THE CARD IS WHAT COUNTS. Prove the row's statement (the work); the ties are given (YtbhokdhkfodpfaaDoorTie.lean); close each card by the builder's one call (the guide's Derived/Test/ToyasCard.lean, 'card_holds'). Laid BY PROGRAM, IN A SANDBOX (cutbox-door.mjs). By AI agents, Wed Nov 11 2026. No macro, syntax, notation, axiom, sorry.
-/
import Derived.Test.YtbhokdhkfodpfaaDoorRows
import GoSem.ClaimSeven
namespace Go.Proofs.YtbhokdhkfodpfaaDoor
namespace Rows

/-- THE TIED CARD OF 'reckonerlaw19.QuotientOnes'. -/
def quotientOnesCard : Claim7 := { stood := { row := quotientOnesRow, standIns := [], harness := (true, "facfe51cbd64bd61da9d4161b7dc3fa9aae2a0bd6c0a4db2099f76dd50f3bd7b"), looks := false }, kinds := [], alts := [], laidByText := true, laidKinds := [.data, .funcs], laidTests := true, laidLooks := .later }
def QuotientOnesCardSaid : Prop := Claim7.holds Tryd.pinned (.plain (OpenSpec.ofChange quotientOnesSpec)) quotientOnesCard

/-- THE SECOND FORM's CARD OF 'reckonerlaw19.QuotientOnes'. -/
def quotientOnesUptoCard : Claim7 := { stood := { row := quotientOnesUptoRow, standIns := [], harness := (true, "facfe51cbd64bd61da9d4161b7dc3fa9aae2a0bd6c0a4db2099f76dd50f3bd7b"), looks := false }, kinds := [], alts := [], laidByText := true, laidKinds := [.data, .funcs], laidTests := true, laidLooks := .later }
def QuotientOnesUptoCardSaid : Prop := Claim7.holds Tryd.pinned (.plain (OpenSpec.upto quotientOnesSpec)) quotientOnesUptoCard
end Rows
end Go.Proofs.YtbhokdhkfodpfaaDoor
