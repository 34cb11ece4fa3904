/- The law ConvertIntegrals holds, for every input: any float of up to 40 words, rounded to an integer of its format, with its flags, or the error. Conditions: the two listed package variables hold what the program's text lays (tied by the card). -/
import Derived.Test.YtokgalpflooegaaGreatDoorMn
import Derived.Test.YtokgalpflooegaaGreatDoorCards
import Derived.Test.YtokgalpflooegaaGreatDoorTie
import Derived.SevenTiedAt
/- The law ConvertIntegrals holds, for every input: any float of up to 40 words, rounded to an integer of its format, with its flags, or the error. Conditions: the two listed package variables hold what the program's text lays (tied by the card). -/
namespace Go.Proofs.YtokgalpflooegaaGreatDoor
set_option linter.unusedVariables false
set_option linter.unusedSimpArgs false
open Go
theorem convertIntegrals_holds : Rows.ConvertIntegralsCardSaid :=
  Claim7.holds_tied_plain_at .later [] [.data, .funcs] true Rows.convertIntegralsCard.stood.harness false
    convertIntegrals.over (fun _ h => by cases h) (by kernel_rfl) (fun _ h => by cases h) convertIntegrals_row_tie rfl ⟨rfl, rfl⟩ (by kernel_rfl) rfl
    (fun f fn hf hfn => by
      obtain rfl : f = 6 := Option.some.inj ((show Tryz.prog.funcNamed "reckoner/reckonerlaw20.ConvertIntegrals" = some 6 by kernel_rfl).symm.trans hf) |>.symm
      obtain rfl : fn = Tryz.f6 := (Option.some.inj (Tryz.func6.symm.trans hfn)).symm
      exact ⟨by kernel_rfl, fun j t ht => by
        have hm : t ∈ Tryz.f6.params.toList := by simpa using Array.mem_of_getElem? ht
        have hall : (Tryz.f6.params.toList.all fun u => !Tryz.prog.wantsStandIn u) = true := by kernel_rfl
        exact (show Tryz.prog.wantsStandIn t = false by simpa using List.all_eq_true.1 hall t hm)⟩)
    (by kernel_rfl)
#print axioms convertIntegrals_holds
end Go.Proofs.YtokgalpflooegaaGreatDoor
