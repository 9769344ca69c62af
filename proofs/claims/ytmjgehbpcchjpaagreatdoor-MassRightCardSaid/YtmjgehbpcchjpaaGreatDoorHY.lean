import Derived.Test.YtmjgehbpcchjpaaGreatDoorHW
import Derived.Test.YtmjgehbpcchjpaaGreatDoorHT
import Derived.Test.YtmjgehbpcchjpaaGreatDoorHN
namespace Go.Proofs.YtmjgehbpcchjpaaGreatDoor
open Go Go.Proofs Go.Proofs.YtmjgehbpcchjpaaGreatDoor.E
set_option linter.unusedSimpArgs false
set_option linter.unusedVariables false
theorem uq {m : Ms} (hr : eE m = true) : ∀ p ∈ m.parts, 0 < p.w.q := by
 intro p hp
 unfold eE kV at hr
 simp only [Bool.and_eq_true, List.all_eq_true, List.mem_range] at hr
 obtain ⟨i, hi, rfl⟩ := List.mem_iff_getElem.1 hp
 have h := hr.1.1 i hi
 rw [gE hi] at h
 simp only [Bool.and_eq_true, decide_eq_true_eq] at h
 exact h.1.2
end Go.Proofs.YtmjgehbpcchjpaaGreatDoor
