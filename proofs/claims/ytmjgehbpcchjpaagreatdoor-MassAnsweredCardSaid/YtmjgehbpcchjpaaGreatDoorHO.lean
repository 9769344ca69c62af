import Derived.Test.YtmjgehbpcchjpaaGreatDoorHN
namespace Go.Proofs.YtmjgehbpcchjpaaGreatDoor
open Go Go.Proofs Go.Proofs.YtmjgehbpcchjpaaGreatDoor.E
set_option linter.unusedSimpArgs false
set_option linter.unusedVariables false
def nzP (l : List Part) : List Part := l.filter fun p => decide (p.w.q ≠ 0)
theorem sgnR_zero_iff {r : Rat} : sgnR r = 0 ↔ r = 0 := by
 unfold sgnR cmpR
 constructor
 ·intro h
  by_cases h1 : r < 0
  ·rw [if_pos h1] at h; omega
  ·rw [if_neg h1] at h
   by_cases h2 : 0 < r
   ·rw [if_pos h2] at h; omega
   ·grind
 ·rintro rfl; simp
end Go.Proofs.YtmjgehbpcchjpaaGreatDoor

namespace Go.Proofs.YtmjgehbpcchjpaaGreatDoor
open Go Go.Proofs Go.Proofs.YtmjgehbpcchjpaaGreatDoor.E
set_option linter.unusedSimpArgs false
set_option linter.unusedVariables false
end Go.Proofs.YtmjgehbpcchjpaaGreatDoor
