import Derived.Test.YtmjgehbpcchjpaaGreatDoorRowMassRight
import Derived.Test.YtmjgehbpcchjpaaGreatDoorCards
import Derived.Test.YtmjgehbpcchjpaaGreatDoorTie
import Derived.SevenTiedAt
namespace Go.Proofs.YtmjgehbpcchjpaaGreatDoor
theorem massRightCard_holds : Rows.MassRightCardSaid :=
  Claim7.holds_tied_plain_at .later [] [.data, .data, .data] true (true, "1c21576ed4d5b5a45d8f31e30e13736f9281f234c143f2f0301878aba2373b08") false massRight_holds (fun _ h => by cases h) (by kernel_rfl) (fun _ h => by cases h) massRight_row_tie rfl ⟨rfl, rfl⟩ (by kernel_rfl) rfl
    (fun f fn hf hfn => by
      obtain rfl : f = 6 := Option.some.inj ((show Tryz.prog.funcNamed "sortilege/sortilegelaw04.MassRight" = some 6 by kernel_rfl).symm.trans hf) |>.symm
      obtain rfl : fn = Tryz.f6 := (Option.some.inj (Tryz.func6.symm.trans hfn)).symm
      exact ⟨by kernel_rfl, fun j t ht => by
        rw [Tryz.params6] at ht
        have hm := Array.mem_of_getElem? ht
        have hall : ([35, 27].all fun u => !Tryz.prog.wantsStandIn u) = true := by kernel_rfl
        exact (show Tryz.prog.wantsStandIn t = false by simpa using List.all_eq_true.1 hall t (by simpa using hm))⟩)
    (by kernel_rfl)
#print axioms massRightCard_holds
end Go.Proofs.YtmjgehbpcchjpaaGreatDoor
