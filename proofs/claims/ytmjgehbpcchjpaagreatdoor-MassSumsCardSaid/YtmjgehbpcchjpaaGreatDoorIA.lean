import Derived.Test.YtmjgehbpcchjpaaGreatDoorHZ
import Derived.Test.YtmjgehbpcchjpaaGreatDoorHW
namespace Go.Proofs.YtmjgehbpcchjpaaGreatDoor
open Go Go.Proofs Go.Proofs.YtmjgehbpcchjpaaGreatDoor.E
set_option linter.unusedSimpArgs false
set_option linter.unusedVariables false
theorem Elts.toDs {l : List V} (h : Elts l) (σ : Sto) : toDs σ l = some l := by
 induction l with
 | nil => rfl
 | cons a l ih =>
   obtain ⟨r, rfl⟩ := h a (by simp)
   have := ih fun y hy => h y (by simp [hy])
   simp only [E.toDs, this]
   rfl
theorem Elts.rchs {l : List V} (h : Elts l) (σ : Sto) : rchs σ l = [] := by
 unfold E.rchs
 rw [List.flatMap_eq_nil_iff]
 intro y hy
 obtain ⟨r, rfl⟩ := h y hy
 rfl
theorem Elts.rchP {l : List V} (h : Elts l) (σ : Sto) (n : Nat) : l.flatMap (rchP σ n) = [] := by
 rw [List.flatMap_eq_nil_iff]
 intro y hy
 obtain ⟨r, rfl⟩ := h y hy
 cases n <;> rfl
def hsum (h : Tr → Rat) (l : List Part) : Rat := sumBy (fun p => h p.v * p.w.q) l
theorem flat_len {α : Type} {f : α → List Part} {b : Nat} : ∀ {L : List α}, (∀ x ∈ L, (f x).length ≤ b) → (L.map f).flatten.length ≤ L.length * b
 | [], _ => by simp
 | a :: L, h => by
   have h1 := h a (by simp)
   have h2 := flat_len (L := L) fun x hx => h x (by simp [hx])
   rw [List.map_cons, List.flatten_cons, List.length_append, List.length_cons, Nat.succ_mul]; omega
end Go.Proofs.YtmjgehbpcchjpaaGreatDoor
