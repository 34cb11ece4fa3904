/- The law ConvertFormats holds, for every input: any float of up to 40 words of any format, rounded to any other one, with its flags, or the error. Conditions: the two listed package variables hold what the program's text lays (tied by the card). -/
import Derived.Test.YtokgalpflooegaaGreatDoorMk
import Derived.Test.YtokgalpflooegaaGreatDoorCards
import Derived.Test.YtokgalpflooegaaGreatDoorTie
import Derived.SevenTiedAt
/- The law ConvertFormats holds, for every input: any float of up to 40 words of any format, rounded to any other one, with its flags, or the error. Conditions: the two listed package variables hold what the program's text lays (tied by the card). -/
namespace Go.Proofs.YtokgalpflooegaaGreatDoor
set_option linter.unusedVariables false
set_option linter.unusedSimpArgs false
open Go
theorem convertFormats_holds : Rows.ConvertFormatsCardSaid :=
  Claim7.holds_tied_plain_at .later [] [.data, .funcs] true Rows.convertFormatsCard.stood.harness false
    convertFormats.over (fun _ h => by cases h) (by kernel_rfl) (fun _ h => by cases h) convertFormats_row_tie rfl ⟨rfl, rfl⟩ (by kernel_rfl) rfl
    (fun f fn hf hfn => by
      obtain rfl : f = 3 := Option.some.inj ((show Tryz.prog.funcNamed "reckoner/reckonerlaw20.ConvertFormats" = some 3 by kernel_rfl).symm.trans hf) |>.symm
      obtain rfl : fn = Tryz.f3 := (Option.some.inj (Tryz.func3.symm.trans hfn)).symm
      exact ⟨by kernel_rfl, fun j t ht => by
        have hm : t ∈ Tryz.f3.params.toList := by simpa using Array.mem_of_getElem? ht
        have hall : (Tryz.f3.params.toList.all fun u => !Tryz.prog.wantsStandIn u) = true := by kernel_rfl
        exact (show Tryz.prog.wantsStandIn t = false by simpa using List.all_eq_true.1 hall t hm)⟩)
    (by kernel_rfl)
#print axioms convertFormats_holds
end Go.Proofs.YtokgalpflooegaaGreatDoor
