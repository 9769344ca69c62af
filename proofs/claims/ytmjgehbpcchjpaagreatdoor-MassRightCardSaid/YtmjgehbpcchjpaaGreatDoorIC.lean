import Derived.Test.YtmjgehbpcchjpaaGreatDoorHZ
namespace Go.Proofs.YtmjgehbpcchjpaaGreatDoor
open Go Go.Proofs Go.Proofs.YtmjgehbpcchjpaaGreatDoor.E
set_option linter.unusedSimpArgs false
set_option linter.unusedVariables false
structure BJ (A : Ms) (q : Nat) (τ : Sto) : Prop where
 res : E.look τ 0 = some ⟨.own, 16, [aU]⟩
 out : E.look τ 1 = some ⟨.own, 16, [bA q A.parts.length :: ay A.rf A.lo A.f0 A.f1 A.f2]⟩
 prt : A.parts ≠ [] → E.look τ q = some (obL A.parts)
 q2 : A.parts ≠ [] → q ≠ 0 ∧ q ≠ 1
 shut : cA τ
theorem BJ.step {A y A' : Ms} {q : Nat} {τ τ1 : Sto} (I : BJ A q τ) (h1 : ∀ o, o < am τ → E.look τ1 o = E.look τ o) (h2 : am τ ≤ am τ1) (hs : cA τ1) (hp : A'.parts = A.parts ++ y.parts) :
 BJ A' (m9 τ1 q y.parts) (ac (gh τ1 q A.parts y.parts) 1 ⟨.own, 16, [bA (m9 τ1 q y.parts) A'.parts.length :: ay A'.rf A'.lo A'.f0 A'.f1 A'.f2]⟩) := by
 have f0 := cr I.res
 have f1 := cr I.out
 have hq : A.parts ≠ [] → E.look τ1 q = some (obL A.parts) := fun h => by rw [h1 q (cr (I.prt h))]; exact I.prt h
 refine ⟨?_, ?_, fun h => ?_, fun h => ?_, ?_⟩
 ·rw [ai, if_neg (by omega), oL (fun h => (I.q2 h).1.symm) (by omega), h1 0 f0]; exact I.res
 ·rw [ai, if_pos rfl]
 ·have h' : A.parts ++ y.parts ≠ [] := by rw [← hp]; exact h
  rw [ai, if_neg (iS (fun h => (I.q2 h).2) h' (by omega)), hp]
  exact iT hq h'
 ·have h' : A.parts ++ y.parts ≠ [] := by rw [← hp]; exact h
  exact ⟨iS (fun h => (I.q2 h).1) h' (by omega), iS (fun h => (I.q2 h).2) h' (by omega)⟩
 ·refine gZ (oM hs) fun r hr z hz => ?_
  simp only [List.mem_singleton] at hr; subst hr
  rcases List.mem_cons.1 hz with rfl | hz
  ·by_cases n0 : A'.parts.length = 0
   ·rw [n0, aF]; simp [V.within]
   ·have h' : A.parts ++ y.parts ≠ [] := by rw [← hp]; exact fun h => n0 (by rw [h]; rfl)
    rw [az n0, bB, ai]
    split
    ·rfl
    ·rw [iT hq h']; rfl
  ·exact cI _ _ _ _ _ z hz _
end Go.Proofs.YtmjgehbpcchjpaaGreatDoor
