/-
  NARROWER THAN 'FOR EVERY INPUT', by the rows' own cells (each row's printed sentence says how): ProductMuls: laid · ProductFused: laid · ProductDots: laid · ProductMany: laid · ProductParts: laid · ProductHalves: laid · ProductPowers: laid.
  DERIVED. THE GIVEN ROWS OF THIS SEAT. 7 by the template 'for every input the law returns true; each argument reads behind the call as it read before'; 0 by the template 'total and deterministic' (their statements: YthpkhmbjmnhmoaaGreatDoorTotals.lean).
  GIVEN WITH THE SEED: the statements are not yours to turn. If you find one false, say at which input.
  Laid BY PROGRAM, IN A SANDBOX (cutbox-rows.mjs): the forced cells as the released guide's own fill.sh prints them over the translation 93bc431b20692c4a… (all of the seat's roots in one cut). By AI agents, Wed Nov 11 2026. No macro, syntax, notation, axiom, sorry.
-/
import Derived.Test.YthpkhmbjmnhmoaaGreatDoorChecked
import GoSem.Claim
import GoSem.ClaimJoined
import GoSem.ClaimMapViews
import Derived.JoinedTies
import Derived.KernelRfl
namespace Go.Proofs.YthpkhmbjmnhmoaaGreatDoor
/- THE CELL 'sum', in the pinned program and in every row, IS THE sha256 OF THE DUMP (.gsa) THAT YthpkhmbjmnhmoaaGreatDoorProg.lean LOADS. Nothing in Lean hashes anything: it is a label: what it is worth is what the hold of that sum in a sandbox is worth. -/
noncomputable def Tryz.pinned : Pinned := { name := "ythpkhmbjmnhmoaagreatdoor", sum := "93bc431b20692c4a53d7aff48aadb6dc93ac175bcdb8b9cf36f93547961a6214", checked := Tryz.checked }
namespace Rows
def none {H : Type} : Left H := { results := [], args := [] }

/- WHAT THE LISTED PACKAGE-LEVEL VARIABLES READ AS WHEN THE CALL BEGINS. Each datum BY PROGRAM (the guide's laid-datum.mjs) off the statement by which the dump's own 'gosem.cut.vars' lays the variable. In a bare row this is a premise. The card (YthpkhmbjmnhmoaaGreatDoorCards.lean) ties it to the program's text. -/
def laid_math_bits_deBruijn64tab {H : Type} : DataW H := .agg [.lit (.int .u8 0), .lit (.int .u8 1), .lit (.int .u8 56), .lit (.int .u8 2), .lit (.int .u8 57), .lit (.int .u8 49), .lit (.int .u8 28), .lit (.int .u8 3), .lit (.int .u8 61), .lit (.int .u8 58), .lit (.int .u8 42), .lit (.int .u8 50), .lit (.int .u8 38), .lit (.int .u8 29), .lit (.int .u8 17), .lit (.int .u8 4), .lit (.int .u8 62), .lit (.int .u8 47), .lit (.int .u8 59), .lit (.int .u8 36), .lit (.int .u8 45), .lit (.int .u8 43), .lit (.int .u8 51), .lit (.int .u8 22), .lit (.int .u8 53), .lit (.int .u8 39), .lit (.int .u8 33), .lit (.int .u8 30), .lit (.int .u8 24), .lit (.int .u8 18), .lit (.int .u8 12), .lit (.int .u8 5), .lit (.int .u8 63), .lit (.int .u8 55), .lit (.int .u8 48), .lit (.int .u8 27), .lit (.int .u8 60), .lit (.int .u8 41), .lit (.int .u8 37), .lit (.int .u8 16), .lit (.int .u8 46), .lit (.int .u8 35), .lit (.int .u8 44), .lit (.int .u8 21), .lit (.int .u8 52), .lit (.int .u8 32), .lit (.int .u8 23), .lit (.int .u8 11), .lit (.int .u8 54), .lit (.int .u8 26), .lit (.int .u8 40), .lit (.int .u8 15), .lit (.int .u8 34), .lit (.int .u8 20), .lit (.int .u8 31), .lit (.int .u8 10), .lit (.int .u8 25), .lit (.int .u8 14), .lit (.int .u8 19), .lit (.int .u8 9), .lit (.int .u8 13), .lit (.int .u8 8), .lit (.int .u8 7), .lit (.int .u8 6)]
def laid_reckoner_fin_more {H : Type} : DataW H := .iface "func table" (.agg [.iface "func" (.lit (.string [114, 101, 99, 107, 111, 110, 101, 114, 47, 102, 105, 110, 46, 109, 111, 114, 101, 36, 49])), .iface "func" (.lit (.string [114, 101, 99, 107, 111, 110, 101, 114, 47, 102, 105, 110, 46, 109, 111, 114, 101, 36, 50])), .iface "func" (.lit (.string [114, 101, 99, 107, 111, 110, 101, 114, 47, 102, 105, 110, 46, 109, 111, 114, 101, 36, 51])), .iface "func" (.lit (.string [114, 101, 99, 107, 111, 110, 101, 114, 47, 102, 105, 110, 46, 109, 111, 114, 101, 36, 52])), .iface "func" (.lit (.string [114, 101, 99, 107, 111, 110, 101, 114, 47, 102, 105, 110, 46, 109, 111, 114, 101, 36, 53]))])

/-- 'reckonerlaw18.ProductMuls': WHATEVER THE INPUT: true; the input reads as it did. -/
def productMulsSpec : ChangeSpec := { name := "productMuls", fn := fun _ => fun
  | [d1, d2, d3, d4] => { results := [.lit (.bool true)], args := [d1, d2, d3, d4] }
  | _ => none }
def productMulsRow : OpenClaim := { program := "ythpkhmbjmnhmoaagreatdoor", sum := "93bc431b20692c4a53d7aff48aadb6dc93ac175bcdb8b9cf36f93547961a6214", func := "reckoner/reckonerlaw18.ProductMuls", spec := "productMuls", inPlace := ["math/bits.Add64", "math/bits.Sub64"], unfollowed := true, recurses := true, named := ["math/bits.deBruijn64tab", "reckoner/fin.more"], apart := false, laid := [("math/bits.deBruijn64tab", laid_math_bits_deBruijn64tab), ("reckoner/fin.more", laid_reckoner_fin_more)] }
def ProductMulsSaid : Prop := productMulsRow.holds Tryz.pinned (OpenSpec.ofChange productMulsSpec)

/-- ITS FALSE NEIGHBOUR: 'it returns false'. Refute it at one input. -/
def productMulsWrong : ChangeSpec := { name := "productMuls", fn := fun _ => fun
  | [d1, d2, d3, d4] => { results := [.lit (.bool false)], args := [d1, d2, d3, d4] }
  | _ => none }
def ProductMulsWrongFalsely : Prop := productMulsRow.holds Tryz.pinned (OpenSpec.ofChange productMulsWrong)

/-- 'reckonerlaw18.ProductFused': WHATEVER THE INPUT: true; the input reads as it did. -/
def productFusedSpec : ChangeSpec := { name := "productFused", fn := fun _ => fun
  | [d1, d2, d3, d4, d5] => { results := [.lit (.bool true)], args := [d1, d2, d3, d4, d5] }
  | _ => none }
def productFusedRow : OpenClaim := { program := "ythpkhmbjmnhmoaagreatdoor", sum := "93bc431b20692c4a53d7aff48aadb6dc93ac175bcdb8b9cf36f93547961a6214", func := "reckoner/reckonerlaw18.ProductFused", spec := "productFused", inPlace := ["math/bits.Add64", "math/bits.Sub64"], unfollowed := true, recurses := true, named := ["math/bits.deBruijn64tab", "reckoner/fin.more"], apart := false, laid := [("math/bits.deBruijn64tab", laid_math_bits_deBruijn64tab), ("reckoner/fin.more", laid_reckoner_fin_more)] }
def ProductFusedSaid : Prop := productFusedRow.holds Tryz.pinned (OpenSpec.ofChange productFusedSpec)

/-- ITS FALSE NEIGHBOUR: 'it returns false'. Refute it at one input. -/
def productFusedWrong : ChangeSpec := { name := "productFused", fn := fun _ => fun
  | [d1, d2, d3, d4, d5] => { results := [.lit (.bool false)], args := [d1, d2, d3, d4, d5] }
  | _ => none }
def ProductFusedWrongFalsely : Prop := productFusedRow.holds Tryz.pinned (OpenSpec.ofChange productFusedWrong)

/-- 'reckonerlaw18.ProductDots': WHATEVER THE INPUT: true; the input reads as it did. -/
def productDotsSpec : ChangeSpec := { name := "productDots", fn := fun _ => fun
  | [d1, d2, d3, d4, d5] => { results := [.lit (.bool true)], args := [d1, d2, d3, d4, d5] }
  | _ => none }
def productDotsRow : OpenClaim := { program := "ythpkhmbjmnhmoaagreatdoor", sum := "93bc431b20692c4a53d7aff48aadb6dc93ac175bcdb8b9cf36f93547961a6214", func := "reckoner/reckonerlaw18.ProductDots", spec := "productDots", inPlace := ["math/bits.Add64", "math/bits.Sub64"], unfollowed := true, recurses := true, named := ["math/bits.deBruijn64tab", "reckoner/fin.more"], apart := false, laid := [("math/bits.deBruijn64tab", laid_math_bits_deBruijn64tab), ("reckoner/fin.more", laid_reckoner_fin_more)] }
def ProductDotsSaid : Prop := productDotsRow.holds Tryz.pinned (OpenSpec.ofChange productDotsSpec)

/-- ITS FALSE NEIGHBOUR: 'it returns false'. Refute it at one input. -/
def productDotsWrong : ChangeSpec := { name := "productDots", fn := fun _ => fun
  | [d1, d2, d3, d4, d5] => { results := [.lit (.bool false)], args := [d1, d2, d3, d4, d5] }
  | _ => none }
def ProductDotsWrongFalsely : Prop := productDotsRow.holds Tryz.pinned (OpenSpec.ofChange productDotsWrong)

/-- 'reckonerlaw18.ProductMany': WHATEVER THE INPUT: true; the input reads as it did. -/
def productManySpec : ChangeSpec := { name := "productMany", fn := fun _ => fun
  | [d1, d2, d3, d4] => { results := [.lit (.bool true)], args := [d1, d2, d3, d4] }
  | _ => none }
def productManyRow : OpenClaim := { program := "ythpkhmbjmnhmoaagreatdoor", sum := "93bc431b20692c4a53d7aff48aadb6dc93ac175bcdb8b9cf36f93547961a6214", func := "reckoner/reckonerlaw18.ProductMany", spec := "productMany", inPlace := ["math/bits.Add64", "math/bits.Sub64"], unfollowed := true, recurses := true, named := ["math/bits.deBruijn64tab", "reckoner/fin.more"], apart := false, laid := [("math/bits.deBruijn64tab", laid_math_bits_deBruijn64tab), ("reckoner/fin.more", laid_reckoner_fin_more)] }
def ProductManySaid : Prop := productManyRow.holds Tryz.pinned (OpenSpec.ofChange productManySpec)

/-- ITS FALSE NEIGHBOUR: 'it returns false'. Refute it at one input. -/
def productManyWrong : ChangeSpec := { name := "productMany", fn := fun _ => fun
  | [d1, d2, d3, d4] => { results := [.lit (.bool false)], args := [d1, d2, d3, d4] }
  | _ => none }
def ProductManyWrongFalsely : Prop := productManyRow.holds Tryz.pinned (OpenSpec.ofChange productManyWrong)

/-- 'reckonerlaw18.ProductParts': WHATEVER THE INPUT: true; the input reads as it did. -/
def productPartsSpec : ChangeSpec := { name := "productParts", fn := fun _ => fun
  | [d1, d2, d3] => { results := [.lit (.bool true)], args := [d1, d2, d3] }
  | _ => none }
def productPartsRow : OpenClaim := { program := "ythpkhmbjmnhmoaagreatdoor", sum := "93bc431b20692c4a53d7aff48aadb6dc93ac175bcdb8b9cf36f93547961a6214", func := "reckoner/reckonerlaw18.ProductParts", spec := "productParts", inPlace := ["math/bits.Add64", "math/bits.Sub64"], unfollowed := true, recurses := true, named := ["math/bits.deBruijn64tab", "reckoner/fin.more"], apart := false, laid := [("math/bits.deBruijn64tab", laid_math_bits_deBruijn64tab), ("reckoner/fin.more", laid_reckoner_fin_more)] }
def ProductPartsSaid : Prop := productPartsRow.holds Tryz.pinned (OpenSpec.ofChange productPartsSpec)

/-- ITS FALSE NEIGHBOUR: 'it returns false'. Refute it at one input. -/
def productPartsWrong : ChangeSpec := { name := "productParts", fn := fun _ => fun
  | [d1, d2, d3] => { results := [.lit (.bool false)], args := [d1, d2, d3] }
  | _ => none }
def ProductPartsWrongFalsely : Prop := productPartsRow.holds Tryz.pinned (OpenSpec.ofChange productPartsWrong)

/-- 'reckonerlaw18.ProductHalves': WHATEVER THE INPUT: true; the input reads as it did. -/
def productHalvesSpec : ChangeSpec := { name := "productHalves", fn := fun _ => fun
  | [d1, d2, d3] => { results := [.lit (.bool true)], args := [d1, d2, d3] }
  | _ => none }
def productHalvesRow : OpenClaim := { program := "ythpkhmbjmnhmoaagreatdoor", sum := "93bc431b20692c4a53d7aff48aadb6dc93ac175bcdb8b9cf36f93547961a6214", func := "reckoner/reckonerlaw18.ProductHalves", spec := "productHalves", inPlace := ["math/bits.Add64", "math/bits.Sub64"], unfollowed := true, recurses := true, named := ["math/bits.deBruijn64tab", "reckoner/fin.more"], apart := false, laid := [("math/bits.deBruijn64tab", laid_math_bits_deBruijn64tab), ("reckoner/fin.more", laid_reckoner_fin_more)] }
def ProductHalvesSaid : Prop := productHalvesRow.holds Tryz.pinned (OpenSpec.ofChange productHalvesSpec)

/-- ITS FALSE NEIGHBOUR: 'it returns false'. Refute it at one input. -/
def productHalvesWrong : ChangeSpec := { name := "productHalves", fn := fun _ => fun
  | [d1, d2, d3] => { results := [.lit (.bool false)], args := [d1, d2, d3] }
  | _ => none }
def ProductHalvesWrongFalsely : Prop := productHalvesRow.holds Tryz.pinned (OpenSpec.ofChange productHalvesWrong)

/-- 'reckonerlaw18.ProductPowers': WHATEVER THE INPUT: true; the input reads as it did. -/
def productPowersSpec : ChangeSpec := { name := "productPowers", fn := fun _ => fun
  | [d1, d2, d3, d4] => { results := [.lit (.bool true)], args := [d1, d2, d3, d4] }
  | _ => none }
def productPowersRow : OpenClaim := { program := "ythpkhmbjmnhmoaagreatdoor", sum := "93bc431b20692c4a53d7aff48aadb6dc93ac175bcdb8b9cf36f93547961a6214", func := "reckoner/reckonerlaw18.ProductPowers", spec := "productPowers", inPlace := ["math/bits.Add64", "math/bits.Sub64"], unfollowed := true, recurses := true, named := ["math/bits.deBruijn64tab", "reckoner/fin.more"], apart := false, laid := [("math/bits.deBruijn64tab", laid_math_bits_deBruijn64tab), ("reckoner/fin.more", laid_reckoner_fin_more)] }
def ProductPowersSaid : Prop := productPowersRow.holds Tryz.pinned (OpenSpec.ofChange productPowersSpec)

/-- ITS FALSE NEIGHBOUR: 'it returns false'. Refute it at one input. -/
def productPowersWrong : ChangeSpec := { name := "productPowers", fn := fun _ => fun
  | [d1, d2, d3, d4] => { results := [.lit (.bool false)], args := [d1, d2, d3, d4] }
  | _ => none }
def ProductPowersWrongFalsely : Prop := productPowersRow.holds Tryz.pinned (OpenSpec.ofChange productPowersWrong)

/- THE SECOND FORM. 'bulk': how many values and letters a reading holds, each counted each time it is reached (what is shared counts as often as it is met; a slice's spare places count too). A statement '..UptoSaid' is the law's where the arguments, and the package variables that the reading takes, are together of bulk at most 1048576: NARROWER than '..Said'. Prove '..Said' where nothing that the law and all that it calls make is longer than what came in: it says more and counts as full. Else prove '..UptoSaid'. A law counts once. -/
mutual
def uptoBulk {H : Type} : DataW H → Nat
  | .lit (.string bytes) => bytes.length + 1
  | .lit _ => 1
  | .nil => 1
  | .ptr d => uptoBulk d + 1
  | .slice elems spare => uptoBulkAll elems + uptoBulkAll spare + 1
  | .agg parts => uptoBulkAll parts + 1
  | .iface _ d => uptoBulk d + 1
  | .map entries => uptoBulkEntries entries + 1
  | .held _ => 1
def uptoBulkAll {H : Type} : List (DataW H) → Nat
  | [] => 0
  | d :: r => uptoBulk d + uptoBulkAll r
def uptoBulkEntries {H : Type} : List (Lit × DataW H) → Nat
  | [] => 0
  | x :: r => uptoBulkEntry x + uptoBulkEntries r
def uptoBulkEntry {H : Type} : Lit × DataW H → Nat
  | (.string bytes, d) => bytes.length + uptoBulk d + 1
  | (_, d) => uptoBulk d + 1
 end
def uptoSmall : (H : Type) → List (DataW H) → Bool := fun _ ds => decide (uptoBulkAll ds ≤ 1048576)
def OpenSpec.upto (s : _root_.Go.ChangeSpec) : _root_.Go.OpenSpec := { _root_.Go.OpenSpec.ofChange s with cond := some uptoSmall }

/-- 'reckonerlaw18.ProductMuls', WHERE WHAT IT READS IS OF BULK AT MOST 1048576: true; the input reads as it did. -/
def productMulsUptoRow : OpenClaim := { program := "ythpkhmbjmnhmoaagreatdoor", sum := "93bc431b20692c4a53d7aff48aadb6dc93ac175bcdb8b9cf36f93547961a6214", func := "reckoner/reckonerlaw18.ProductMuls", spec := "productMuls", inPlace := ["math/bits.Add64", "math/bits.Sub64"], unfollowed := true, recurses := true, named := ["math/bits.deBruijn64tab", "reckoner/fin.more"], apart := false, laid := [("math/bits.deBruijn64tab", laid_math_bits_deBruijn64tab), ("reckoner/fin.more", laid_reckoner_fin_more)], narrowed := true }
def ProductMulsUptoSaid : Prop := productMulsUptoRow.holds Tryz.pinned (OpenSpec.upto productMulsSpec)

/-- 'reckonerlaw18.ProductFused', WHERE WHAT IT READS IS OF BULK AT MOST 1048576: true; the input reads as it did. -/
def productFusedUptoRow : OpenClaim := { program := "ythpkhmbjmnhmoaagreatdoor", sum := "93bc431b20692c4a53d7aff48aadb6dc93ac175bcdb8b9cf36f93547961a6214", func := "reckoner/reckonerlaw18.ProductFused", spec := "productFused", inPlace := ["math/bits.Add64", "math/bits.Sub64"], unfollowed := true, recurses := true, named := ["math/bits.deBruijn64tab", "reckoner/fin.more"], apart := false, laid := [("math/bits.deBruijn64tab", laid_math_bits_deBruijn64tab), ("reckoner/fin.more", laid_reckoner_fin_more)], narrowed := true }
def ProductFusedUptoSaid : Prop := productFusedUptoRow.holds Tryz.pinned (OpenSpec.upto productFusedSpec)

/-- 'reckonerlaw18.ProductDots', WHERE WHAT IT READS IS OF BULK AT MOST 1048576: true; the input reads as it did. -/
def productDotsUptoRow : OpenClaim := { program := "ythpkhmbjmnhmoaagreatdoor", sum := "93bc431b20692c4a53d7aff48aadb6dc93ac175bcdb8b9cf36f93547961a6214", func := "reckoner/reckonerlaw18.ProductDots", spec := "productDots", inPlace := ["math/bits.Add64", "math/bits.Sub64"], unfollowed := true, recurses := true, named := ["math/bits.deBruijn64tab", "reckoner/fin.more"], apart := false, laid := [("math/bits.deBruijn64tab", laid_math_bits_deBruijn64tab), ("reckoner/fin.more", laid_reckoner_fin_more)], narrowed := true }
def ProductDotsUptoSaid : Prop := productDotsUptoRow.holds Tryz.pinned (OpenSpec.upto productDotsSpec)

/-- 'reckonerlaw18.ProductMany', WHERE WHAT IT READS IS OF BULK AT MOST 1048576: true; the input reads as it did. -/
def productManyUptoRow : OpenClaim := { program := "ythpkhmbjmnhmoaagreatdoor", sum := "93bc431b20692c4a53d7aff48aadb6dc93ac175bcdb8b9cf36f93547961a6214", func := "reckoner/reckonerlaw18.ProductMany", spec := "productMany", inPlace := ["math/bits.Add64", "math/bits.Sub64"], unfollowed := true, recurses := true, named := ["math/bits.deBruijn64tab", "reckoner/fin.more"], apart := false, laid := [("math/bits.deBruijn64tab", laid_math_bits_deBruijn64tab), ("reckoner/fin.more", laid_reckoner_fin_more)], narrowed := true }
def ProductManyUptoSaid : Prop := productManyUptoRow.holds Tryz.pinned (OpenSpec.upto productManySpec)

/-- 'reckonerlaw18.ProductParts', WHERE WHAT IT READS IS OF BULK AT MOST 1048576: true; the input reads as it did. -/
def productPartsUptoRow : OpenClaim := { program := "ythpkhmbjmnhmoaagreatdoor", sum := "93bc431b20692c4a53d7aff48aadb6dc93ac175bcdb8b9cf36f93547961a6214", func := "reckoner/reckonerlaw18.ProductParts", spec := "productParts", inPlace := ["math/bits.Add64", "math/bits.Sub64"], unfollowed := true, recurses := true, named := ["math/bits.deBruijn64tab", "reckoner/fin.more"], apart := false, laid := [("math/bits.deBruijn64tab", laid_math_bits_deBruijn64tab), ("reckoner/fin.more", laid_reckoner_fin_more)], narrowed := true }
def ProductPartsUptoSaid : Prop := productPartsUptoRow.holds Tryz.pinned (OpenSpec.upto productPartsSpec)

/-- 'reckonerlaw18.ProductHalves', WHERE WHAT IT READS IS OF BULK AT MOST 1048576: true; the input reads as it did. -/
def productHalvesUptoRow : OpenClaim := { program := "ythpkhmbjmnhmoaagreatdoor", sum := "93bc431b20692c4a53d7aff48aadb6dc93ac175bcdb8b9cf36f93547961a6214", func := "reckoner/reckonerlaw18.ProductHalves", spec := "productHalves", inPlace := ["math/bits.Add64", "math/bits.Sub64"], unfollowed := true, recurses := true, named := ["math/bits.deBruijn64tab", "reckoner/fin.more"], apart := false, laid := [("math/bits.deBruijn64tab", laid_math_bits_deBruijn64tab), ("reckoner/fin.more", laid_reckoner_fin_more)], narrowed := true }
def ProductHalvesUptoSaid : Prop := productHalvesUptoRow.holds Tryz.pinned (OpenSpec.upto productHalvesSpec)

/-- 'reckonerlaw18.ProductPowers', WHERE WHAT IT READS IS OF BULK AT MOST 1048576: true; the input reads as it did. -/
def productPowersUptoRow : OpenClaim := { program := "ythpkhmbjmnhmoaagreatdoor", sum := "93bc431b20692c4a53d7aff48aadb6dc93ac175bcdb8b9cf36f93547961a6214", func := "reckoner/reckonerlaw18.ProductPowers", spec := "productPowers", inPlace := ["math/bits.Add64", "math/bits.Sub64"], unfollowed := true, recurses := true, named := ["math/bits.deBruijn64tab", "reckoner/fin.more"], apart := false, laid := [("math/bits.deBruijn64tab", laid_math_bits_deBruijn64tab), ("reckoner/fin.more", laid_reckoner_fin_more)], narrowed := true }
def ProductPowersUptoSaid : Prop := productPowersUptoRow.holds Tryz.pinned (OpenSpec.upto productPowersSpec)

end Rows
end Go.Proofs.YthpkhmbjmnhmoaaGreatDoor
