/-
  NARROWER THAN 'FOR EVERY INPUT', by the rows' own cells (each row's printed sentence says how): QuotientSquares: laid · QuotientRests: laid · QuotientQuos: laid.
  DERIVED. THE GIVEN ROWS OF THIS SEAT. 3 by the template 'for every input the law returns true; each argument reads behind the call as it read before'; 0 by the template 'total and deterministic' (their statements: YtbhokdhkfodpfaaGreatDoorTotals.lean).
  GIVEN WITH THE SEED: the statements are not yours to turn. If you find one false, say at which input.
  Laid BY PROGRAM, IN A SANDBOX (cutbox-rows.mjs): the forced cells as the released guide's own fill.sh prints them over the translation bf04fa770d37b07e… (all of the seat's roots in one cut). By AI agents, Wed Nov 11 2026. No macro, syntax, notation, axiom, sorry.
-/
import Derived.Test.YtbhokdhkfodpfaaGreatDoorChecked
import GoSem.Claim
import GoSem.ClaimJoined
import GoSem.ClaimMapViews
import Derived.JoinedTies
import Derived.KernelRfl
namespace Go.Proofs.YtbhokdhkfodpfaaGreatDoor
/- THE CELL 'sum', in the pinned program and in every row, IS THE sha256 OF THE DUMP (.gsa) THAT YtbhokdhkfodpfaaGreatDoorProg.lean LOADS. Nothing in Lean hashes anything: it is a label: what it is worth is what the hold of that sum in a sandbox is worth. -/
noncomputable def Tryz.pinned : Pinned := { name := "ytbhokdhkfodpfaagreatdoor", sum := "bf04fa770d37b07ef1b704a208b2fa1eb17f7d6a0b6a94ab84d7b8f47125a1ab", checked := Tryz.checked }
namespace Rows
def none {H : Type} : Left H := { results := [], args := [] }

/- WHAT THE LISTED PACKAGE-LEVEL VARIABLES READ AS WHEN THE CALL BEGINS. Each datum BY PROGRAM (the guide's laid-datum.mjs) off the statement by which the dump's own 'gosem.cut.vars' lays the variable. In a bare row this is a premise. The card (YtbhokdhkfodpfaaGreatDoorCards.lean) ties it to the program's text. -/
def laid_math_bits_deBruijn64tab {H : Type} : DataW H := .agg [.lit (.int .u8 0), .lit (.int .u8 1), .lit (.int .u8 56), .lit (.int .u8 2), .lit (.int .u8 57), .lit (.int .u8 49), .lit (.int .u8 28), .lit (.int .u8 3), .lit (.int .u8 61), .lit (.int .u8 58), .lit (.int .u8 42), .lit (.int .u8 50), .lit (.int .u8 38), .lit (.int .u8 29), .lit (.int .u8 17), .lit (.int .u8 4), .lit (.int .u8 62), .lit (.int .u8 47), .lit (.int .u8 59), .lit (.int .u8 36), .lit (.int .u8 45), .lit (.int .u8 43), .lit (.int .u8 51), .lit (.int .u8 22), .lit (.int .u8 53), .lit (.int .u8 39), .lit (.int .u8 33), .lit (.int .u8 30), .lit (.int .u8 24), .lit (.int .u8 18), .lit (.int .u8 12), .lit (.int .u8 5), .lit (.int .u8 63), .lit (.int .u8 55), .lit (.int .u8 48), .lit (.int .u8 27), .lit (.int .u8 60), .lit (.int .u8 41), .lit (.int .u8 37), .lit (.int .u8 16), .lit (.int .u8 46), .lit (.int .u8 35), .lit (.int .u8 44), .lit (.int .u8 21), .lit (.int .u8 52), .lit (.int .u8 32), .lit (.int .u8 23), .lit (.int .u8 11), .lit (.int .u8 54), .lit (.int .u8 26), .lit (.int .u8 40), .lit (.int .u8 15), .lit (.int .u8 34), .lit (.int .u8 20), .lit (.int .u8 31), .lit (.int .u8 10), .lit (.int .u8 25), .lit (.int .u8 14), .lit (.int .u8 19), .lit (.int .u8 9), .lit (.int .u8 13), .lit (.int .u8 8), .lit (.int .u8 7), .lit (.int .u8 6)]
def laid_reckoner_fin_more {H : Type} : DataW H := .iface "func table" (.agg [.iface "func" (.lit (.string [114, 101, 99, 107, 111, 110, 101, 114, 47, 102, 105, 110, 46, 109, 111, 114, 101, 36, 49])), .iface "func" (.lit (.string [114, 101, 99, 107, 111, 110, 101, 114, 47, 102, 105, 110, 46, 109, 111, 114, 101, 36, 50])), .iface "func" (.lit (.string [114, 101, 99, 107, 111, 110, 101, 114, 47, 102, 105, 110, 46, 109, 111, 114, 101, 36, 51])), .iface "func" (.lit (.string [114, 101, 99, 107, 111, 110, 101, 114, 47, 102, 105, 110, 46, 109, 111, 114, 101, 36, 52])), .iface "func" (.lit (.string [114, 101, 99, 107, 111, 110, 101, 114, 47, 102, 105, 110, 46, 109, 111, 114, 101, 36, 53]))])

/-- 'reckonerlaw19.QuotientSquares': WHATEVER THE INPUT: true; the input reads as it did. -/
def quotientSquaresSpec : ChangeSpec := { name := "quotientSquares", fn := fun _ => fun
  | [d1, d2, d3] => { results := [.lit (.bool true)], args := [d1, d2, d3] }
  | _ => none }
def quotientSquaresRow : OpenClaim := { program := "ytbhokdhkfodpfaagreatdoor", sum := "bf04fa770d37b07ef1b704a208b2fa1eb17f7d6a0b6a94ab84d7b8f47125a1ab", func := "reckoner/reckonerlaw19.QuotientSquares", spec := "quotientSquares", inPlace := ["math/bits.Add64", "math/bits.Sub64"], unfollowed := true, recurses := true, named := ["reckoner/quotient.nothing", "math/bits.deBruijn64tab", "reckoner/quotient.none", "math/bits.divideError", "math/bits.overflowError", "reckoner/fin.more"], apart := false, laid := [("math/bits.deBruijn64tab", laid_math_bits_deBruijn64tab), ("reckoner/fin.more", laid_reckoner_fin_more)] }
def QuotientSquaresSaid : Prop := quotientSquaresRow.holds Tryz.pinned (OpenSpec.ofChange quotientSquaresSpec)

/-- ITS FALSE NEIGHBOUR: 'it returns false'. Refute it at one input. -/
def quotientSquaresWrong : ChangeSpec := { name := "quotientSquares", fn := fun _ => fun
  | [d1, d2, d3] => { results := [.lit (.bool false)], args := [d1, d2, d3] }
  | _ => none }
def QuotientSquaresWrongFalsely : Prop := quotientSquaresRow.holds Tryz.pinned (OpenSpec.ofChange quotientSquaresWrong)

/-- 'reckonerlaw19.QuotientRests': WHATEVER THE INPUT: true; the input reads as it did. -/
def quotientRestsSpec : ChangeSpec := { name := "quotientRests", fn := fun _ => fun
  | [d1, d2, d3] => { results := [.lit (.bool true)], args := [d1, d2, d3] }
  | _ => none }
def quotientRestsRow : OpenClaim := { program := "ytbhokdhkfodpfaagreatdoor", sum := "bf04fa770d37b07ef1b704a208b2fa1eb17f7d6a0b6a94ab84d7b8f47125a1ab", func := "reckoner/reckonerlaw19.QuotientRests", spec := "quotientRests", inPlace := ["math/bits.Add64", "math/bits.Sub64"], unfollowed := true, recurses := true, named := ["reckoner/quotient.nothing", "math/bits.deBruijn64tab", "reckoner/quotient.none", "math/bits.divideError", "math/bits.overflowError", "reckoner/fin.more"], apart := false, laid := [("math/bits.deBruijn64tab", laid_math_bits_deBruijn64tab), ("reckoner/fin.more", laid_reckoner_fin_more)] }
def QuotientRestsSaid : Prop := quotientRestsRow.holds Tryz.pinned (OpenSpec.ofChange quotientRestsSpec)

/-- ITS FALSE NEIGHBOUR: 'it returns false'. Refute it at one input. -/
def quotientRestsWrong : ChangeSpec := { name := "quotientRests", fn := fun _ => fun
  | [d1, d2, d3] => { results := [.lit (.bool false)], args := [d1, d2, d3] }
  | _ => none }
def QuotientRestsWrongFalsely : Prop := quotientRestsRow.holds Tryz.pinned (OpenSpec.ofChange quotientRestsWrong)

/-- 'reckonerlaw19.QuotientQuos': WHATEVER THE INPUT: true; the input reads as it did. -/
def quotientQuosSpec : ChangeSpec := { name := "quotientQuos", fn := fun _ => fun
  | [d1, d2, d3, d4] => { results := [.lit (.bool true)], args := [d1, d2, d3, d4] }
  | _ => none }
def quotientQuosRow : OpenClaim := { program := "ytbhokdhkfodpfaagreatdoor", sum := "bf04fa770d37b07ef1b704a208b2fa1eb17f7d6a0b6a94ab84d7b8f47125a1ab", func := "reckoner/reckonerlaw19.QuotientQuos", spec := "quotientQuos", inPlace := ["math/bits.Add64", "math/bits.Sub64"], unfollowed := true, recurses := true, named := ["reckoner/quotient.nothing", "math/bits.deBruijn64tab", "reckoner/quotient.none", "math/bits.divideError", "math/bits.overflowError", "reckoner/fin.more"], apart := false, laid := [("math/bits.deBruijn64tab", laid_math_bits_deBruijn64tab), ("reckoner/fin.more", laid_reckoner_fin_more)] }
def QuotientQuosSaid : Prop := quotientQuosRow.holds Tryz.pinned (OpenSpec.ofChange quotientQuosSpec)

/-- ITS FALSE NEIGHBOUR: 'it returns false'. Refute it at one input. -/
def quotientQuosWrong : ChangeSpec := { name := "quotientQuos", fn := fun _ => fun
  | [d1, d2, d3, d4] => { results := [.lit (.bool false)], args := [d1, d2, d3, d4] }
  | _ => none }
def QuotientQuosWrongFalsely : Prop := quotientQuosRow.holds Tryz.pinned (OpenSpec.ofChange quotientQuosWrong)

/- THE SECOND FORM. 'bulk': how many values and letters a reading holds, each counted each time it is reached (what is shared counts as often as it is met; a slice's spare places count too). A statement '..UptoSaid' is the law's where the arguments, and the package variables that the reading takes, are together of bulk at most 1048576: NARROWER than '..Said'. Prove '..Said' where nothing that the law and all that it calls make is longer than what came in: it says more and counts as full. Else prove '..UptoSaid'. A law counts once. -/
mutual
def uptoBulk {H : Type} : DataW H → Nat
  | .lit (.string bytes) => bytes.length + 1
  | .lit _ => 1
  | .nil => 1
  | .ptr d => uptoBulk d + 1
  | .slice elems spare => uptoBulkAll elems + uptoBulkAll spare + 1
  | .agg parts => uptoBulkAll parts + 1
  | .iface _ d => uptoBulk d + 1
  | .map entries => uptoBulkEntries entries + 1
  | .held _ => 1
def uptoBulkAll {H : Type} : List (DataW H) → Nat
  | [] => 0
  | d :: r => uptoBulk d + uptoBulkAll r
def uptoBulkEntries {H : Type} : List (Lit × DataW H) → Nat
  | [] => 0
  | x :: r => uptoBulkEntry x + uptoBulkEntries r
def uptoBulkEntry {H : Type} : Lit × DataW H → Nat
  | (.string bytes, d) => bytes.length + uptoBulk d + 1
  | (_, d) => uptoBulk d + 1
 end
def uptoSmall : (H : Type) → List (DataW H) → Bool := fun _ ds => decide (uptoBulkAll ds ≤ 1048576)
def OpenSpec.upto (s : _root_.Go.ChangeSpec) : _root_.Go.OpenSpec := { _root_.Go.OpenSpec.ofChange s with cond := some uptoSmall }

/-- 'reckonerlaw19.QuotientSquares', WHERE WHAT IT READS IS OF BULK AT MOST 1048576: true; the input reads as it did. -/
def quotientSquaresUptoRow : OpenClaim := { program := "ytbhokdhkfodpfaagreatdoor", sum := "bf04fa770d37b07ef1b704a208b2fa1eb17f7d6a0b6a94ab84d7b8f47125a1ab", func := "reckoner/reckonerlaw19.QuotientSquares", spec := "quotientSquares", inPlace := ["math/bits.Add64", "math/bits.Sub64"], unfollowed := true, recurses := true, named := ["reckoner/quotient.nothing", "math/bits.deBruijn64tab", "reckoner/quotient.none", "math/bits.divideError", "math/bits.overflowError", "reckoner/fin.more"], apart := false, laid := [("math/bits.deBruijn64tab", laid_math_bits_deBruijn64tab), ("reckoner/fin.more", laid_reckoner_fin_more)], narrowed := true }
def QuotientSquaresUptoSaid : Prop := quotientSquaresUptoRow.holds Tryz.pinned (OpenSpec.upto quotientSquaresSpec)

/-- 'reckonerlaw19.QuotientRests', WHERE WHAT IT READS IS OF BULK AT MOST 1048576: true; the input reads as it did. -/
def quotientRestsUptoRow : OpenClaim := { program := "ytbhokdhkfodpfaagreatdoor", sum := "bf04fa770d37b07ef1b704a208b2fa1eb17f7d6a0b6a94ab84d7b8f47125a1ab", func := "reckoner/reckonerlaw19.QuotientRests", spec := "quotientRests", inPlace := ["math/bits.Add64", "math/bits.Sub64"], unfollowed := true, recurses := true, named := ["reckoner/quotient.nothing", "math/bits.deBruijn64tab", "reckoner/quotient.none", "math/bits.divideError", "math/bits.overflowError", "reckoner/fin.more"], apart := false, laid := [("math/bits.deBruijn64tab", laid_math_bits_deBruijn64tab), ("reckoner/fin.more", laid_reckoner_fin_more)], narrowed := true }
def QuotientRestsUptoSaid : Prop := quotientRestsUptoRow.holds Tryz.pinned (OpenSpec.upto quotientRestsSpec)

/-- 'reckonerlaw19.QuotientQuos', WHERE WHAT IT READS IS OF BULK AT MOST 1048576: true; the input reads as it did. -/
def quotientQuosUptoRow : OpenClaim := { program := "ytbhokdhkfodpfaagreatdoor", sum := "bf04fa770d37b07ef1b704a208b2fa1eb17f7d6a0b6a94ab84d7b8f47125a1ab", func := "reckoner/reckonerlaw19.QuotientQuos", spec := "quotientQuos", inPlace := ["math/bits.Add64", "math/bits.Sub64"], unfollowed := true, recurses := true, named := ["reckoner/quotient.nothing", "math/bits.deBruijn64tab", "reckoner/quotient.none", "math/bits.divideError", "math/bits.overflowError", "reckoner/fin.more"], apart := false, laid := [("math/bits.deBruijn64tab", laid_math_bits_deBruijn64tab), ("reckoner/fin.more", laid_reckoner_fin_more)], narrowed := true }
def QuotientQuosUptoSaid : Prop := quotientQuosUptoRow.holds Tryz.pinned (OpenSpec.upto quotientQuosSpec)

end Rows
end Go.Proofs.YtbhokdhkfodpfaaGreatDoor
