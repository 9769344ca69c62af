import Derived.Test.YtmjgehbpcchjpaaGreatDoorHZ
namespace Go.Proofs.YtmjgehbpcchjpaaGreatDoor
open Go Go.Proofs Go.Proofs.YtmjgehbpcchjpaaGreatDoor.E
set_option linter.unusedSimpArgs false
set_option linter.unusedVariables false
structure BJ (A : Ms) (q : Nat) (τ : Sto) : Prop where
 res : E.look τ 0 = some ⟨.own, 16, [zero16]⟩
 out : E.look τ 1 = some ⟨.own, 16, [grown q A.parts.length :: tailC A.rf A.lo A.f0 A.f1 A.f2]⟩
 prt : A.parts ≠ [] → E.look τ q = some (obL A.parts)
 q2 : A.parts ≠ [] → q ≠ 0 ∧ q ≠ 1
 shut : Shut τ
theorem BJ.step {A y A' : Ms} {q : Nat} {τ τ1 : Sto} (I : BJ A q τ) (h1 : ∀ o, o < fresh τ → E.look τ1 o = E.look τ o) (h2 : fresh τ ≤ fresh τ1) (hs : Shut τ1) (hp : A'.parts = A.parts ++ y.parts) :
 BJ A' (gthN τ1 q y.parts) (setOb (gthS τ1 q A.parts y.parts) 1 ⟨.own, 16, [grown (gthN τ1 q y.parts) A'.parts.length :: tailC A'.rf A'.lo A'.f0 A'.f1 A'.f2]⟩) := by
 have f0 := lt_fresh I.res
 have f1 := lt_fresh I.out
 have hq : A.parts ≠ [] → E.look τ1 q = some (obL A.parts) := fun h => by rw [h1 q (lt_fresh (I.prt h))]; exact I.prt h
 refine ⟨?_, ?_, fun h => ?_, fun h => ?_, ?_⟩
 ·rw [look_setOb, if_neg (by omega), gthS_look (fun h => (I.q2 h).1.symm) (by omega), h1 0 f0]; exact I.res
 ·rw [look_setOb, if_pos rfl]
 ·have h' : A.parts ++ y.parts ≠ [] := by rw [← hp]; exact h
  rw [look_setOb, if_neg (gthN_ne (fun h => (I.q2 h).2) h' (by omega)), hp]
  exact gthS_list hq h'
 ·have h' : A.parts ++ y.parts ≠ [] := by rw [← hp]; exact h
  exact ⟨gthN_ne (fun h => (I.q2 h).1) h' (by omega), gthN_ne (fun h => (I.q2 h).2) h' (by omega)⟩
 ·refine shut_sg (gthS_shut hs) fun r hr z hz => ?_
  simp only [List.mem_singleton] at hr; subst hr
  rcases List.mem_cons.1 hz with rfl | hz
  ·by_cases n0 : A'.parts.length = 0
   ·rw [n0, grown_zero]; simp [V.within]
   ·have h' : A.parts ++ y.parts ≠ [] := by rw [← hp]; exact fun h => n0 (by rw [h]; rfl)
    rw [grown_pos n0, within_ref, look_setOb]
    split
    ·rfl
    ·rw [gthS_list hq h']; rfl
  ·exact tail_in _ _ _ _ _ z hz _
end Go.Proofs.YtmjgehbpcchjpaaGreatDoor
