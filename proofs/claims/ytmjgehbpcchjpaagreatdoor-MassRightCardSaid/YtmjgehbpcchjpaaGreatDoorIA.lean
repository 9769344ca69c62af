import Derived.Test.YtmjgehbpcchjpaaGreatDoorHZ
import Derived.Test.YtmjgehbpcchjpaaGreatDoorHW
namespace Go.Proofs.YtmjgehbpcchjpaaGreatDoor
open Go Go.Proofs Go.Proofs.YtmjgehbpcchjpaaGreatDoor.E
set_option linter.unusedSimpArgs false
set_option linter.unusedVariables false
theorem Elts.toDs {l : List V} (h : Elts l) (σ : Sto) : toDs σ l = some l := by
 induction l with
 | nil => rfl
 | cons a l ih =>
   obtain ⟨r, rfl⟩ := h a (by simp)
   have := ih fun y hy => h y (by simp [hy])
   simp only [E.toDs, this]
   rfl
theorem Elts.rchs {l : List V} (h : Elts l) (σ : Sto) : rchs σ l = [] := by
 unfold E.rchs
 rw [List.flatMap_eq_nil_iff]
 intro y hy
 obtain ⟨r, rfl⟩ := h y hy
 rfl
theorem Elts.rchP {l : List V} (h : Elts l) (σ : Sto) (n : Nat) : l.flatMap (rchP σ n) = [] := by
 rw [List.flatMap_eq_nil_iff]
 intro y hy
 obtain ⟨r, rfl⟩ := h y hy
 cases n <;> rfl
def hsum (h : Tr → Rat) (l : List Part) : Rat := fa (fun p => h p.v * p.w.q) l
end Go.Proofs.YtmjgehbpcchjpaaGreatDoor
