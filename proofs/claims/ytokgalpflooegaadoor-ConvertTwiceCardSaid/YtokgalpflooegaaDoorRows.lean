/-
  NARROWER THAN 'FOR EVERY INPUT', by the rows' own cells (each row's printed sentence says how): ConvertWhole: laid · ConvertBack: laid · ConvertTwice: laid · ConvertFits: laid · ConvertLarge: laid.
  DERIVED. THE GIVEN ROWS OF THIS SEAT. 5 by the template 'for every input the law returns true; each argument reads behind the call as it read before'; 0 by the template 'total and deterministic' (their statements: YtokgalpflooegaaDoorTotals.lean).
  GIVEN WITH THE SEED: the statements are not yours to turn. If you find one false, say at which input.
  Laid BY PROGRAM, IN A SANDBOX (cutbox-rows.mjs): the forced cells as the released guide's own fill.sh prints them over the translation 6f93dbd2950f1f92… (all of the seat's roots in one cut). By AI agents, Wed Nov 11 2026. No macro, syntax, notation, axiom, sorry.
-/
import Derived.Test.YtokgalpflooegaaDoorChecked
import GoSem.Claim
import GoSem.ClaimJoined
import GoSem.ClaimMapViews
import Derived.JoinedTies
import Derived.KernelRfl
namespace Go.Proofs.YtokgalpflooegaaDoor
/- THE CELL 'sum', in the pinned program and in every row, IS THE sha256 OF THE DUMP (.gsa) THAT YtokgalpflooegaaDoorProg.lean LOADS. Nothing in Lean hashes anything: it is a label: what it is worth is what the hold of that sum in a sandbox is worth. -/
noncomputable def Tryd.pinned : Pinned := { name := "ytokgalpflooegaadoor", sum := "6f93dbd2950f1f92399e9eb1bb1174f822d0ead110a9265b2cb2730a7b758f80", checked := Tryd.checked }
namespace Rows
def none {H : Type} : Left H := { results := [], args := [] }

/- WHAT THE LISTED PACKAGE-LEVEL VARIABLES READ AS WHEN THE CALL BEGINS. Each datum BY PROGRAM (the guide's laid-datum.mjs) off the statement by which the dump's own 'gosem.cut.vars' lays the variable. In a bare row this is a premise. The card (YtokgalpflooegaaDoorCards.lean) ties it to the program's text. -/
def laid_math_bits_deBruijn64tab {H : Type} : DataW H := .agg [.lit (.int .u8 0), .lit (.int .u8 1), .lit (.int .u8 56), .lit (.int .u8 2), .lit (.int .u8 57), .lit (.int .u8 49), .lit (.int .u8 28), .lit (.int .u8 3), .lit (.int .u8 61), .lit (.int .u8 58), .lit (.int .u8 42), .lit (.int .u8 50), .lit (.int .u8 38), .lit (.int .u8 29), .lit (.int .u8 17), .lit (.int .u8 4), .lit (.int .u8 62), .lit (.int .u8 47), .lit (.int .u8 59), .lit (.int .u8 36), .lit (.int .u8 45), .lit (.int .u8 43), .lit (.int .u8 51), .lit (.int .u8 22), .lit (.int .u8 53), .lit (.int .u8 39), .lit (.int .u8 33), .lit (.int .u8 30), .lit (.int .u8 24), .lit (.int .u8 18), .lit (.int .u8 12), .lit (.int .u8 5), .lit (.int .u8 63), .lit (.int .u8 55), .lit (.int .u8 48), .lit (.int .u8 27), .lit (.int .u8 60), .lit (.int .u8 41), .lit (.int .u8 37), .lit (.int .u8 16), .lit (.int .u8 46), .lit (.int .u8 35), .lit (.int .u8 44), .lit (.int .u8 21), .lit (.int .u8 52), .lit (.int .u8 32), .lit (.int .u8 23), .lit (.int .u8 11), .lit (.int .u8 54), .lit (.int .u8 26), .lit (.int .u8 40), .lit (.int .u8 15), .lit (.int .u8 34), .lit (.int .u8 20), .lit (.int .u8 31), .lit (.int .u8 10), .lit (.int .u8 25), .lit (.int .u8 14), .lit (.int .u8 19), .lit (.int .u8 9), .lit (.int .u8 13), .lit (.int .u8 8), .lit (.int .u8 7), .lit (.int .u8 6)]
def laid_reckoner_fin_more {H : Type} : DataW H := .iface "func table" (.agg [.iface "func" (.lit (.string [114, 101, 99, 107, 111, 110, 101, 114, 47, 102, 105, 110, 46, 109, 111, 114, 101, 36, 49])), .iface "func" (.lit (.string [114, 101, 99, 107, 111, 110, 101, 114, 47, 102, 105, 110, 46, 109, 111, 114, 101, 36, 50])), .iface "func" (.lit (.string [114, 101, 99, 107, 111, 110, 101, 114, 47, 102, 105, 110, 46, 109, 111, 114, 101, 36, 51])), .iface "func" (.lit (.string [114, 101, 99, 107, 111, 110, 101, 114, 47, 102, 105, 110, 46, 109, 111, 114, 101, 36, 52])), .iface "func" (.lit (.string [114, 101, 99, 107, 111, 110, 101, 114, 47, 102, 105, 110, 46, 109, 111, 114, 101, 36, 53]))])

/-- 'reckonerlaw20.ConvertWhole': WHATEVER THE INPUT: true; the input reads as it did. -/
def convertWholeSpec : ChangeSpec := { name := "convertWhole", fn := fun _ => fun
  | [d1, d2, d3] => { results := [.lit (.bool true)], args := [d1, d2, d3] }
  | _ => none }
def convertWholeRow : OpenClaim := { program := "ytokgalpflooegaadoor", sum := "6f93dbd2950f1f92399e9eb1bb1174f822d0ead110a9265b2cb2730a7b758f80", func := "reckoner/reckonerlaw20.ConvertWhole", spec := "convertWhole", inPlace := ["math/bits.Add64", "math/bits.Sub64"], unfollowed := true, recurses := true, named := ["math/bits.deBruijn64tab", "reckoner/fin.more", "math/bits.divideError", "math/bits.overflowError"], apart := false, laid := [("math/bits.deBruijn64tab", laid_math_bits_deBruijn64tab), ("reckoner/fin.more", laid_reckoner_fin_more)] }
def ConvertWholeSaid : Prop := convertWholeRow.holds Tryd.pinned (OpenSpec.ofChange convertWholeSpec)

/-- ITS FALSE NEIGHBOUR: 'it returns false'. Refute it at one input. -/
def convertWholeWrong : ChangeSpec := { name := "convertWhole", fn := fun _ => fun
  | [d1, d2, d3] => { results := [.lit (.bool false)], args := [d1, d2, d3] }
  | _ => none }
def ConvertWholeWrongFalsely : Prop := convertWholeRow.holds Tryd.pinned (OpenSpec.ofChange convertWholeWrong)

/-- 'reckonerlaw20.ConvertBack': WHATEVER THE INPUT: true; the input reads as it did. -/
def convertBackSpec : ChangeSpec := { name := "convertBack", fn := fun _ => fun
  | [d1, d2, d3, d4] => { results := [.lit (.bool true)], args := [d1, d2, d3, d4] }
  | _ => none }
def convertBackRow : OpenClaim := { program := "ytokgalpflooegaadoor", sum := "6f93dbd2950f1f92399e9eb1bb1174f822d0ead110a9265b2cb2730a7b758f80", func := "reckoner/reckonerlaw20.ConvertBack", spec := "convertBack", inPlace := ["math/bits.Add64", "math/bits.Sub64"], unfollowed := true, recurses := true, named := ["math/bits.deBruijn64tab", "reckoner/fin.more", "math/bits.divideError", "math/bits.overflowError"], apart := false, laid := [("math/bits.deBruijn64tab", laid_math_bits_deBruijn64tab), ("reckoner/fin.more", laid_reckoner_fin_more)] }
def ConvertBackSaid : Prop := convertBackRow.holds Tryd.pinned (OpenSpec.ofChange convertBackSpec)

/-- ITS FALSE NEIGHBOUR: 'it returns false'. Refute it at one input. -/
def convertBackWrong : ChangeSpec := { name := "convertBack", fn := fun _ => fun
  | [d1, d2, d3, d4] => { results := [.lit (.bool false)], args := [d1, d2, d3, d4] }
  | _ => none }
def ConvertBackWrongFalsely : Prop := convertBackRow.holds Tryd.pinned (OpenSpec.ofChange convertBackWrong)

/-- 'reckonerlaw20.ConvertTwice': WHATEVER THE INPUT: true; the input reads as it did. -/
def convertTwiceSpec : ChangeSpec := { name := "convertTwice", fn := fun _ => fun
  | [d1, d2, d3, d4] => { results := [.lit (.bool true)], args := [d1, d2, d3, d4] }
  | _ => none }
def convertTwiceRow : OpenClaim := { program := "ytokgalpflooegaadoor", sum := "6f93dbd2950f1f92399e9eb1bb1174f822d0ead110a9265b2cb2730a7b758f80", func := "reckoner/reckonerlaw20.ConvertTwice", spec := "convertTwice", inPlace := ["math/bits.Add64", "math/bits.Sub64"], unfollowed := true, recurses := true, named := ["math/bits.deBruijn64tab", "reckoner/fin.more", "math/bits.divideError", "math/bits.overflowError"], apart := false, laid := [("math/bits.deBruijn64tab", laid_math_bits_deBruijn64tab), ("reckoner/fin.more", laid_reckoner_fin_more)] }
def ConvertTwiceSaid : Prop := convertTwiceRow.holds Tryd.pinned (OpenSpec.ofChange convertTwiceSpec)

/-- ITS FALSE NEIGHBOUR: 'it returns false'. Refute it at one input. -/
def convertTwiceWrong : ChangeSpec := { name := "convertTwice", fn := fun _ => fun
  | [d1, d2, d3, d4] => { results := [.lit (.bool false)], args := [d1, d2, d3, d4] }
  | _ => none }
def ConvertTwiceWrongFalsely : Prop := convertTwiceRow.holds Tryd.pinned (OpenSpec.ofChange convertTwiceWrong)

/-- 'reckonerlaw20.ConvertFits': WHATEVER THE INPUT: true; the input reads as it did. -/
def convertFitsSpec : ChangeSpec := { name := "convertFits", fn := fun _ => fun
  | [d1, d2, d3] => { results := [.lit (.bool true)], args := [d1, d2, d3] }
  | _ => none }
def convertFitsRow : OpenClaim := { program := "ytokgalpflooegaadoor", sum := "6f93dbd2950f1f92399e9eb1bb1174f822d0ead110a9265b2cb2730a7b758f80", func := "reckoner/reckonerlaw20.ConvertFits", spec := "convertFits", inPlace := ["math/bits.Add64", "math/bits.Sub64"], unfollowed := true, recurses := true, named := ["math/bits.deBruijn64tab", "reckoner/fin.more", "math/bits.divideError", "math/bits.overflowError"], apart := false, laid := [("math/bits.deBruijn64tab", laid_math_bits_deBruijn64tab), ("reckoner/fin.more", laid_reckoner_fin_more)] }
def ConvertFitsSaid : Prop := convertFitsRow.holds Tryd.pinned (OpenSpec.ofChange convertFitsSpec)

/-- ITS FALSE NEIGHBOUR: 'it returns false'. Refute it at one input. -/
def convertFitsWrong : ChangeSpec := { name := "convertFits", fn := fun _ => fun
  | [d1, d2, d3] => { results := [.lit (.bool false)], args := [d1, d2, d3] }
  | _ => none }
def ConvertFitsWrongFalsely : Prop := convertFitsRow.holds Tryd.pinned (OpenSpec.ofChange convertFitsWrong)

/-- 'reckonerlaw20.ConvertLarge': WHATEVER THE INPUT: true; the input reads as it did. -/
def convertLargeSpec : ChangeSpec := { name := "convertLarge", fn := fun _ => fun
  | [d1, d2, d3, d4] => { results := [.lit (.bool true)], args := [d1, d2, d3, d4] }
  | _ => none }
def convertLargeRow : OpenClaim := { program := "ytokgalpflooegaadoor", sum := "6f93dbd2950f1f92399e9eb1bb1174f822d0ead110a9265b2cb2730a7b758f80", func := "reckoner/reckonerlaw20.ConvertLarge", spec := "convertLarge", inPlace := ["math/bits.Add64", "math/bits.Sub64"], unfollowed := true, recurses := true, named := ["math/bits.deBruijn64tab", "reckoner/fin.more", "math/bits.divideError", "math/bits.overflowError"], apart := false, laid := [("math/bits.deBruijn64tab", laid_math_bits_deBruijn64tab), ("reckoner/fin.more", laid_reckoner_fin_more)] }
def ConvertLargeSaid : Prop := convertLargeRow.holds Tryd.pinned (OpenSpec.ofChange convertLargeSpec)

/-- ITS FALSE NEIGHBOUR: 'it returns false'. Refute it at one input. -/
def convertLargeWrong : ChangeSpec := { name := "convertLarge", fn := fun _ => fun
  | [d1, d2, d3, d4] => { results := [.lit (.bool false)], args := [d1, d2, d3, d4] }
  | _ => none }
def ConvertLargeWrongFalsely : Prop := convertLargeRow.holds Tryd.pinned (OpenSpec.ofChange convertLargeWrong)

/- THE SECOND FORM. 'bulk': how many values and letters a reading holds, each counted each time it is reached (what is shared counts as often as it is met; a slice's spare places count too). A statement '..UptoSaid' is the law's where the arguments, and the package variables that the reading takes, are together of bulk at most 1048576: NARROWER than '..Said'. Prove '..Said' where nothing that the law and all that it calls make is longer than what came in: it says more and counts as full. Else prove '..UptoSaid'. A law counts once. -/
mutual
def uptoBulk {H : Type} : DataW H → Nat
  | .lit (.string bytes) => bytes.length + 1
  | .lit _ => 1
  | .nil => 1
  | .ptr d => uptoBulk d + 1
  | .slice elems spare => uptoBulkAll elems + uptoBulkAll spare + 1
  | .agg parts => uptoBulkAll parts + 1
  | .iface _ d => uptoBulk d + 1
  | .map entries => uptoBulkEntries entries + 1
  | .held _ => 1
def uptoBulkAll {H : Type} : List (DataW H) → Nat
  | [] => 0
  | d :: r => uptoBulk d + uptoBulkAll r
def uptoBulkEntries {H : Type} : List (Lit × DataW H) → Nat
  | [] => 0
  | x :: r => uptoBulkEntry x + uptoBulkEntries r
def uptoBulkEntry {H : Type} : Lit × DataW H → Nat
  | (.string bytes, d) => bytes.length + uptoBulk d + 1
  | (_, d) => uptoBulk d + 1
 end
def uptoSmall : (H : Type) → List (DataW H) → Bool := fun _ ds => decide (uptoBulkAll ds ≤ 1048576)
def OpenSpec.upto (s : _root_.Go.ChangeSpec) : _root_.Go.OpenSpec := { _root_.Go.OpenSpec.ofChange s with cond := some uptoSmall }

/-- 'reckonerlaw20.ConvertWhole', WHERE WHAT IT READS IS OF BULK AT MOST 1048576: true; the input reads as it did. -/
def convertWholeUptoRow : OpenClaim := { program := "ytokgalpflooegaadoor", sum := "6f93dbd2950f1f92399e9eb1bb1174f822d0ead110a9265b2cb2730a7b758f80", func := "reckoner/reckonerlaw20.ConvertWhole", spec := "convertWhole", inPlace := ["math/bits.Add64", "math/bits.Sub64"], unfollowed := true, recurses := true, named := ["math/bits.deBruijn64tab", "reckoner/fin.more", "math/bits.divideError", "math/bits.overflowError"], apart := false, laid := [("math/bits.deBruijn64tab", laid_math_bits_deBruijn64tab), ("reckoner/fin.more", laid_reckoner_fin_more)], narrowed := true }
def ConvertWholeUptoSaid : Prop := convertWholeUptoRow.holds Tryd.pinned (OpenSpec.upto convertWholeSpec)

/-- 'reckonerlaw20.ConvertBack', WHERE WHAT IT READS IS OF BULK AT MOST 1048576: true; the input reads as it did. -/
def convertBackUptoRow : OpenClaim := { program := "ytokgalpflooegaadoor", sum := "6f93dbd2950f1f92399e9eb1bb1174f822d0ead110a9265b2cb2730a7b758f80", func := "reckoner/reckonerlaw20.ConvertBack", spec := "convertBack", inPlace := ["math/bits.Add64", "math/bits.Sub64"], unfollowed := true, recurses := true, named := ["math/bits.deBruijn64tab", "reckoner/fin.more", "math/bits.divideError", "math/bits.overflowError"], apart := false, laid := [("math/bits.deBruijn64tab", laid_math_bits_deBruijn64tab), ("reckoner/fin.more", laid_reckoner_fin_more)], narrowed := true }
def ConvertBackUptoSaid : Prop := convertBackUptoRow.holds Tryd.pinned (OpenSpec.upto convertBackSpec)

/-- 'reckonerlaw20.ConvertTwice', WHERE WHAT IT READS IS OF BULK AT MOST 1048576: true; the input reads as it did. -/
def convertTwiceUptoRow : OpenClaim := { program := "ytokgalpflooegaadoor", sum := "6f93dbd2950f1f92399e9eb1bb1174f822d0ead110a9265b2cb2730a7b758f80", func := "reckoner/reckonerlaw20.ConvertTwice", spec := "convertTwice", inPlace := ["math/bits.Add64", "math/bits.Sub64"], unfollowed := true, recurses := true, named := ["math/bits.deBruijn64tab", "reckoner/fin.more", "math/bits.divideError", "math/bits.overflowError"], apart := false, laid := [("math/bits.deBruijn64tab", laid_math_bits_deBruijn64tab), ("reckoner/fin.more", laid_reckoner_fin_more)], narrowed := true }
def ConvertTwiceUptoSaid : Prop := convertTwiceUptoRow.holds Tryd.pinned (OpenSpec.upto convertTwiceSpec)

/-- 'reckonerlaw20.ConvertFits', WHERE WHAT IT READS IS OF BULK AT MOST 1048576: true; the input reads as it did. -/
def convertFitsUptoRow : OpenClaim := { program := "ytokgalpflooegaadoor", sum := "6f93dbd2950f1f92399e9eb1bb1174f822d0ead110a9265b2cb2730a7b758f80", func := "reckoner/reckonerlaw20.ConvertFits", spec := "convertFits", inPlace := ["math/bits.Add64", "math/bits.Sub64"], unfollowed := true, recurses := true, named := ["math/bits.deBruijn64tab", "reckoner/fin.more", "math/bits.divideError", "math/bits.overflowError"], apart := false, laid := [("math/bits.deBruijn64tab", laid_math_bits_deBruijn64tab), ("reckoner/fin.more", laid_reckoner_fin_more)], narrowed := true }
def ConvertFitsUptoSaid : Prop := convertFitsUptoRow.holds Tryd.pinned (OpenSpec.upto convertFitsSpec)

/-- 'reckonerlaw20.ConvertLarge', WHERE WHAT IT READS IS OF BULK AT MOST 1048576: true; the input reads as it did. -/
def convertLargeUptoRow : OpenClaim := { program := "ytokgalpflooegaadoor", sum := "6f93dbd2950f1f92399e9eb1bb1174f822d0ead110a9265b2cb2730a7b758f80", func := "reckoner/reckonerlaw20.ConvertLarge", spec := "convertLarge", inPlace := ["math/bits.Add64", "math/bits.Sub64"], unfollowed := true, recurses := true, named := ["math/bits.deBruijn64tab", "reckoner/fin.more", "math/bits.divideError", "math/bits.overflowError"], apart := false, laid := [("math/bits.deBruijn64tab", laid_math_bits_deBruijn64tab), ("reckoner/fin.more", laid_reckoner_fin_more)], narrowed := true }
def ConvertLargeUptoSaid : Prop := convertLargeUptoRow.holds Tryd.pinned (OpenSpec.upto convertLargeSpec)

end Rows
end Go.Proofs.YtokgalpflooegaaDoor
