import Derived.Test.YtmjgehbpcchjpaaGreatDoorRowMassBinds
import Derived.Test.YtmjgehbpcchjpaaGreatDoorCards
import Derived.Test.YtmjgehbpcchjpaaGreatDoorTie
import Derived.SevenTiedAt
namespace Go.Proofs.YtmjgehbpcchjpaaGreatDoor
theorem massBindsCard_holds : Rows.MassBindsCardSaid :=
  Claim7.holds_tied_plain_at .later [] [.data, .data, .data] true (true, "1c21576ed4d5b5a45d8f31e30e13736f9281f234c143f2f0301878aba2373b08") false massBinds_holds (fun _ h => by cases h) (by kernel_rfl) (fun _ h => by cases h) massBinds_row_tie rfl ⟨rfl, rfl⟩ (by kernel_rfl) rfl
    (fun f fn hf hfn => by
      obtain rfl : f = 10 := Option.some.inj ((show Tryz.prog.funcNamed "sortilege/sortilegelaw04.MassBinds" = some 10 by kernel_rfl).symm.trans hf) |>.symm
      obtain rfl : fn = Tryz.f10 := (Option.some.inj (Tryz.func10.symm.trans hfn)).symm
      exact ⟨by kernel_rfl, fun j t ht => by
        rw [Tryz.params10] at ht
        have hm := Array.mem_of_getElem? ht
        have hall : ([35, 22].all fun u => !Tryz.prog.wantsStandIn u) = true := by kernel_rfl
        exact (show Tryz.prog.wantsStandIn t = false by simpa using List.all_eq_true.1 hall t (by simpa using hm))⟩)
    (by kernel_rfl)
#print axioms massBindsCard_holds
end Go.Proofs.YtmjgehbpcchjpaaGreatDoor
