/-
  NARROWER THAN 'FOR EVERY INPUT', by the rows' own cells (each row's printed sentence says how): ProductOrder: laid · ProductJoins: laid · ProductSquares: laid · ProductLarge: laid.
  DERIVED. THE GIVEN ROWS OF THIS SEAT. 4 by the template 'for every input the law returns true; each argument reads behind the call as it read before'; 0 by the template 'total and deterministic' (their statements: YthpkhmbjmnhmoaaDoorTotals.lean).
  GIVEN WITH THE SEED: the statements are not yours to turn. If you find one false, say at which input.
  Laid BY PROGRAM, IN A SANDBOX (cutbox-rows.mjs): the forced cells as the released guide's own fill.sh prints them over the translation 34c591c27aaabda2… (all of the seat's roots in one cut). By AI agents, Wed Nov 11 2026. No macro, syntax, notation, axiom, sorry.
-/
import Derived.Test.YthpkhmbjmnhmoaaDoorChecked
import GoSem.Claim
import GoSem.ClaimJoined
import GoSem.ClaimMapViews
import Derived.JoinedTies
import Derived.KernelRfl
namespace Go.Proofs.YthpkhmbjmnhmoaaDoor
/- THE CELL 'sum', in the pinned program and in every row, IS THE sha256 OF THE DUMP (.gsa) THAT YthpkhmbjmnhmoaaDoorProg.lean LOADS. Nothing in Lean hashes anything: it is a label: what it is worth is what the hold of that sum in a sandbox is worth. -/
noncomputable def Tryd.pinned : Pinned := { name := "ythpkhmbjmnhmoaadoor", sum := "34c591c27aaabda20cf759ee0bd527fcd2f36b62d9d92f1465f89cbc23a1e636", checked := Tryd.checked }
namespace Rows
def none {H : Type} : Left H := { results := [], args := [] }

/- WHAT THE LISTED PACKAGE-LEVEL VARIABLES READ AS WHEN THE CALL BEGINS. Each datum BY PROGRAM (the guide's laid-datum.mjs) off the statement by which the dump's own 'gosem.cut.vars' lays the variable. In a bare row this is a premise. The card (YthpkhmbjmnhmoaaDoorCards.lean) ties it to the program's text. -/
def laid_math_bits_deBruijn64tab {H : Type} : DataW H := .agg [.lit (.int .u8 0), .lit (.int .u8 1), .lit (.int .u8 56), .lit (.int .u8 2), .lit (.int .u8 57), .lit (.int .u8 49), .lit (.int .u8 28), .lit (.int .u8 3), .lit (.int .u8 61), .lit (.int .u8 58), .lit (.int .u8 42), .lit (.int .u8 50), .lit (.int .u8 38), .lit (.int .u8 29), .lit (.int .u8 17), .lit (.int .u8 4), .lit (.int .u8 62), .lit (.int .u8 47), .lit (.int .u8 59), .lit (.int .u8 36), .lit (.int .u8 45), .lit (.int .u8 43), .lit (.int .u8 51), .lit (.int .u8 22), .lit (.int .u8 53), .lit (.int .u8 39), .lit (.int .u8 33), .lit (.int .u8 30), .lit (.int .u8 24), .lit (.int .u8 18), .lit (.int .u8 12), .lit (.int .u8 5), .lit (.int .u8 63), .lit (.int .u8 55), .lit (.int .u8 48), .lit (.int .u8 27), .lit (.int .u8 60), .lit (.int .u8 41), .lit (.int .u8 37), .lit (.int .u8 16), .lit (.int .u8 46), .lit (.int .u8 35), .lit (.int .u8 44), .lit (.int .u8 21), .lit (.int .u8 52), .lit (.int .u8 32), .lit (.int .u8 23), .lit (.int .u8 11), .lit (.int .u8 54), .lit (.int .u8 26), .lit (.int .u8 40), .lit (.int .u8 15), .lit (.int .u8 34), .lit (.int .u8 20), .lit (.int .u8 31), .lit (.int .u8 10), .lit (.int .u8 25), .lit (.int .u8 14), .lit (.int .u8 19), .lit (.int .u8 9), .lit (.int .u8 13), .lit (.int .u8 8), .lit (.int .u8 7), .lit (.int .u8 6)]
def laid_reckoner_fin_more {H : Type} : DataW H := .iface "func table" (.agg [.iface "func" (.lit (.string [114, 101, 99, 107, 111, 110, 101, 114, 47, 102, 105, 110, 46, 109, 111, 114, 101, 36, 49])), .iface "func" (.lit (.string [114, 101, 99, 107, 111, 110, 101, 114, 47, 102, 105, 110, 46, 109, 111, 114, 101, 36, 50])), .iface "func" (.lit (.string [114, 101, 99, 107, 111, 110, 101, 114, 47, 102, 105, 110, 46, 109, 111, 114, 101, 36, 51])), .iface "func" (.lit (.string [114, 101, 99, 107, 111, 110, 101, 114, 47, 102, 105, 110, 46, 109, 111, 114, 101, 36, 52])), .iface "func" (.lit (.string [114, 101, 99, 107, 111, 110, 101, 114, 47, 102, 105, 110, 46, 109, 111, 114, 101, 36, 53]))])

/-- 'reckonerlaw18.ProductOrder': WHATEVER THE INPUT: true; the input reads as it did. -/
def productOrderSpec : ChangeSpec := { name := "productOrder", fn := fun _ => fun
  | [d1, d2, d3, d4, d5] => { results := [.lit (.bool true)], args := [d1, d2, d3, d4, d5] }
  | _ => none }
def productOrderRow : OpenClaim := { program := "ythpkhmbjmnhmoaadoor", sum := "34c591c27aaabda20cf759ee0bd527fcd2f36b62d9d92f1465f89cbc23a1e636", func := "reckoner/reckonerlaw18.ProductOrder", spec := "productOrder", inPlace := ["math/bits.Add64", "math/bits.Sub64"], unfollowed := true, recurses := true, named := ["math/bits.deBruijn64tab", "reckoner/fin.more"], apart := false, laid := [("math/bits.deBruijn64tab", laid_math_bits_deBruijn64tab), ("reckoner/fin.more", laid_reckoner_fin_more)] }
def ProductOrderSaid : Prop := productOrderRow.holds Tryd.pinned (OpenSpec.ofChange productOrderSpec)

/-- ITS FALSE NEIGHBOUR: 'it returns false'. Refute it at one input. -/
def productOrderWrong : ChangeSpec := { name := "productOrder", fn := fun _ => fun
  | [d1, d2, d3, d4, d5] => { results := [.lit (.bool false)], args := [d1, d2, d3, d4, d5] }
  | _ => none }
def ProductOrderWrongFalsely : Prop := productOrderRow.holds Tryd.pinned (OpenSpec.ofChange productOrderWrong)

/-- 'reckonerlaw18.ProductJoins': WHATEVER THE INPUT: true; the input reads as it did. -/
def productJoinsSpec : ChangeSpec := { name := "productJoins", fn := fun _ => fun
  | [d1, d2, d3, d4, d5] => { results := [.lit (.bool true)], args := [d1, d2, d3, d4, d5] }
  | _ => none }
def productJoinsRow : OpenClaim := { program := "ythpkhmbjmnhmoaadoor", sum := "34c591c27aaabda20cf759ee0bd527fcd2f36b62d9d92f1465f89cbc23a1e636", func := "reckoner/reckonerlaw18.ProductJoins", spec := "productJoins", inPlace := ["math/bits.Add64", "math/bits.Sub64"], unfollowed := true, recurses := true, named := ["math/bits.deBruijn64tab", "reckoner/fin.more"], apart := false, laid := [("math/bits.deBruijn64tab", laid_math_bits_deBruijn64tab), ("reckoner/fin.more", laid_reckoner_fin_more)] }
def ProductJoinsSaid : Prop := productJoinsRow.holds Tryd.pinned (OpenSpec.ofChange productJoinsSpec)

/-- ITS FALSE NEIGHBOUR: 'it returns false'. Refute it at one input. -/
def productJoinsWrong : ChangeSpec := { name := "productJoins", fn := fun _ => fun
  | [d1, d2, d3, d4, d5] => { results := [.lit (.bool false)], args := [d1, d2, d3, d4, d5] }
  | _ => none }
def ProductJoinsWrongFalsely : Prop := productJoinsRow.holds Tryd.pinned (OpenSpec.ofChange productJoinsWrong)

/-- 'reckonerlaw18.ProductSquares': WHATEVER THE INPUT: true; the input reads as it did. -/
def productSquaresSpec : ChangeSpec := { name := "productSquares", fn := fun _ => fun
  | [d1, d2, d3] => { results := [.lit (.bool true)], args := [d1, d2, d3] }
  | _ => none }
def productSquaresRow : OpenClaim := { program := "ythpkhmbjmnhmoaadoor", sum := "34c591c27aaabda20cf759ee0bd527fcd2f36b62d9d92f1465f89cbc23a1e636", func := "reckoner/reckonerlaw18.ProductSquares", spec := "productSquares", inPlace := ["math/bits.Add64", "math/bits.Sub64"], unfollowed := true, recurses := true, named := ["math/bits.deBruijn64tab", "reckoner/fin.more"], apart := false, laid := [("math/bits.deBruijn64tab", laid_math_bits_deBruijn64tab), ("reckoner/fin.more", laid_reckoner_fin_more)] }
def ProductSquaresSaid : Prop := productSquaresRow.holds Tryd.pinned (OpenSpec.ofChange productSquaresSpec)

/-- ITS FALSE NEIGHBOUR: 'it returns false'. Refute it at one input. -/
def productSquaresWrong : ChangeSpec := { name := "productSquares", fn := fun _ => fun
  | [d1, d2, d3] => { results := [.lit (.bool false)], args := [d1, d2, d3] }
  | _ => none }
def ProductSquaresWrongFalsely : Prop := productSquaresRow.holds Tryd.pinned (OpenSpec.ofChange productSquaresWrong)

/-- 'reckonerlaw18.ProductLarge': WHATEVER THE INPUT: true; the input reads as it did. -/
def productLargeSpec : ChangeSpec := { name := "productLarge", fn := fun _ => fun
  | [d1, d2, d3, d4] => { results := [.lit (.bool true)], args := [d1, d2, d3, d4] }
  | _ => none }
def productLargeRow : OpenClaim := { program := "ythpkhmbjmnhmoaadoor", sum := "34c591c27aaabda20cf759ee0bd527fcd2f36b62d9d92f1465f89cbc23a1e636", func := "reckoner/reckonerlaw18.ProductLarge", spec := "productLarge", inPlace := ["math/bits.Add64", "math/bits.Sub64"], unfollowed := true, recurses := true, named := ["math/bits.deBruijn64tab", "reckoner/fin.more"], apart := false, laid := [("math/bits.deBruijn64tab", laid_math_bits_deBruijn64tab), ("reckoner/fin.more", laid_reckoner_fin_more)] }
def ProductLargeSaid : Prop := productLargeRow.holds Tryd.pinned (OpenSpec.ofChange productLargeSpec)

/-- ITS FALSE NEIGHBOUR: 'it returns false'. Refute it at one input. -/
def productLargeWrong : ChangeSpec := { name := "productLarge", fn := fun _ => fun
  | [d1, d2, d3, d4] => { results := [.lit (.bool false)], args := [d1, d2, d3, d4] }
  | _ => none }
def ProductLargeWrongFalsely : Prop := productLargeRow.holds Tryd.pinned (OpenSpec.ofChange productLargeWrong)

/- THE SECOND FORM. 'bulk': how many values and letters a reading holds, each counted each time it is reached (what is shared counts as often as it is met; a slice's spare places count too). A statement '..UptoSaid' is the law's where the arguments, and the package variables that the reading takes, are together of bulk at most 1048576: NARROWER than '..Said'. Prove '..Said' where nothing that the law and all that it calls make is longer than what came in: it says more and counts as full. Else prove '..UptoSaid'. A law counts once. -/
mutual
def uptoBulk {H : Type} : DataW H → Nat
  | .lit (.string bytes) => bytes.length + 1
  | .lit _ => 1
  | .nil => 1
  | .ptr d => uptoBulk d + 1
  | .slice elems spare => uptoBulkAll elems + uptoBulkAll spare + 1
  | .agg parts => uptoBulkAll parts + 1
  | .iface _ d => uptoBulk d + 1
  | .map entries => uptoBulkEntries entries + 1
  | .held _ => 1
def uptoBulkAll {H : Type} : List (DataW H) → Nat
  | [] => 0
  | d :: r => uptoBulk d + uptoBulkAll r
def uptoBulkEntries {H : Type} : List (Lit × DataW H) → Nat
  | [] => 0
  | x :: r => uptoBulkEntry x + uptoBulkEntries r
def uptoBulkEntry {H : Type} : Lit × DataW H → Nat
  | (.string bytes, d) => bytes.length + uptoBulk d + 1
  | (_, d) => uptoBulk d + 1
 end
def uptoSmall : (H : Type) → List (DataW H) → Bool := fun _ ds => decide (uptoBulkAll ds ≤ 1048576)
def OpenSpec.upto (s : _root_.Go.ChangeSpec) : _root_.Go.OpenSpec := { _root_.Go.OpenSpec.ofChange s with cond := some uptoSmall }

/-- 'reckonerlaw18.ProductOrder', WHERE WHAT IT READS IS OF BULK AT MOST 1048576: true; the input reads as it did. -/
def productOrderUptoRow : OpenClaim := { program := "ythpkhmbjmnhmoaadoor", sum := "34c591c27aaabda20cf759ee0bd527fcd2f36b62d9d92f1465f89cbc23a1e636", func := "reckoner/reckonerlaw18.ProductOrder", spec := "productOrder", inPlace := ["math/bits.Add64", "math/bits.Sub64"], unfollowed := true, recurses := true, named := ["math/bits.deBruijn64tab", "reckoner/fin.more"], apart := false, laid := [("math/bits.deBruijn64tab", laid_math_bits_deBruijn64tab), ("reckoner/fin.more", laid_reckoner_fin_more)], narrowed := true }
def ProductOrderUptoSaid : Prop := productOrderUptoRow.holds Tryd.pinned (OpenSpec.upto productOrderSpec)

/-- 'reckonerlaw18.ProductJoins', WHERE WHAT IT READS IS OF BULK AT MOST 1048576: true; the input reads as it did. -/
def productJoinsUptoRow : OpenClaim := { program := "ythpkhmbjmnhmoaadoor", sum := "34c591c27aaabda20cf759ee0bd527fcd2f36b62d9d92f1465f89cbc23a1e636", func := "reckoner/reckonerlaw18.ProductJoins", spec := "productJoins", inPlace := ["math/bits.Add64", "math/bits.Sub64"], unfollowed := true, recurses := true, named := ["math/bits.deBruijn64tab", "reckoner/fin.more"], apart := false, laid := [("math/bits.deBruijn64tab", laid_math_bits_deBruijn64tab), ("reckoner/fin.more", laid_reckoner_fin_more)], narrowed := true }
def ProductJoinsUptoSaid : Prop := productJoinsUptoRow.holds Tryd.pinned (OpenSpec.upto productJoinsSpec)

/-- 'reckonerlaw18.ProductSquares', WHERE WHAT IT READS IS OF BULK AT MOST 1048576: true; the input reads as it did. -/
def productSquaresUptoRow : OpenClaim := { program := "ythpkhmbjmnhmoaadoor", sum := "34c591c27aaabda20cf759ee0bd527fcd2f36b62d9d92f1465f89cbc23a1e636", func := "reckoner/reckonerlaw18.ProductSquares", spec := "productSquares", inPlace := ["math/bits.Add64", "math/bits.Sub64"], unfollowed := true, recurses := true, named := ["math/bits.deBruijn64tab", "reckoner/fin.more"], apart := false, laid := [("math/bits.deBruijn64tab", laid_math_bits_deBruijn64tab), ("reckoner/fin.more", laid_reckoner_fin_more)], narrowed := true }
def ProductSquaresUptoSaid : Prop := productSquaresUptoRow.holds Tryd.pinned (OpenSpec.upto productSquaresSpec)

/-- 'reckonerlaw18.ProductLarge', WHERE WHAT IT READS IS OF BULK AT MOST 1048576: true; the input reads as it did. -/
def productLargeUptoRow : OpenClaim := { program := "ythpkhmbjmnhmoaadoor", sum := "34c591c27aaabda20cf759ee0bd527fcd2f36b62d9d92f1465f89cbc23a1e636", func := "reckoner/reckonerlaw18.ProductLarge", spec := "productLarge", inPlace := ["math/bits.Add64", "math/bits.Sub64"], unfollowed := true, recurses := true, named := ["math/bits.deBruijn64tab", "reckoner/fin.more"], apart := false, laid := [("math/bits.deBruijn64tab", laid_math_bits_deBruijn64tab), ("reckoner/fin.more", laid_reckoner_fin_more)], narrowed := true }
def ProductLargeUptoSaid : Prop := productLargeUptoRow.holds Tryd.pinned (OpenSpec.upto productLargeSpec)

end Rows
end Go.Proofs.YthpkhmbjmnhmoaaDoor
