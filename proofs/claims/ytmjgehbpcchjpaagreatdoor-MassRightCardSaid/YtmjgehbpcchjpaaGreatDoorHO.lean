import Derived.Test.YtmjgehbpcchjpaaGreatDoorHN
namespace Go.Proofs.YtmjgehbpcchjpaaGreatDoor
open Go Go.Proofs Go.Proofs.YtmjgehbpcchjpaaGreatDoor.E
set_option linter.unusedSimpArgs false
set_option linter.unusedVariables false
theorem gl {r : Rat} : cH r = 0 ↔ r = 0 := by
 unfold cH gf
 constructor
 ·intro h
  by_cases h1 : r < 0
  ·rw [if_pos h1] at h; omega
  ·rw [if_neg h1] at h
   by_cases h2 : 0 < r
   ·rw [if_pos h2] at h; omega
   ·grind
 ·rintro rfl; simp
end Go.Proofs.YtmjgehbpcchjpaaGreatDoor
