import Derived.Test.YtmjgehbpcchjpaaGreatDoorHZ
namespace Go.Proofs.YtmjgehbpcchjpaaGreatDoor
open Go Go.Proofs Go.Proofs.YtmjgehbpcchjpaaGreatDoor.E
set_option linter.unusedSimpArgs false
set_option linter.unusedVariables false
def ilV (l : List Int) : V := .dat (l.map fun x => [.int .i64 x])
structure BJ (A : Ms) (q : Nat) (τ : Sto) : Prop where
 res : E.look τ 0 = some ⟨.own, 16, [az]⟩
 out : E.look τ 1 = some ⟨.own, 16, [bl q A.parts.length :: am A.rf A.lo A.f0 A.f1 A.f2]⟩
 prt : A.parts ≠ [] → E.look τ q = some (obL A.parts)
 q2 : A.parts ≠ [] → q ≠ 0 ∧ q ≠ 1
 shut : bV τ
theorem BJ.step {A y A' : Ms} {q : Nat} {τ τ1 : Sto} (I : BJ A q τ) (h1 : ∀ o, o < fresh τ → E.look τ1 o = E.look τ o) (h2 : fresh τ ≤ fresh τ1) (hs : bV τ1) (hp : A'.parts = A.parts ++ y.parts) :
 BJ A' (iS τ1 q y.parts) (ag (ee τ1 q A.parts y.parts) 1 ⟨.own, 16, [bl (iS τ1 q y.parts) A'.parts.length :: am A'.rf A'.lo A'.f0 A'.f1 A'.f2]⟩) := by
 have f0 := bt I.res
 have f1 := bt I.out
 have hq : A.parts ≠ [] → E.look τ1 q = some (obL A.parts) := fun h => by rw [h1 q (bt (I.prt h))]; exact I.prt h
 refine ⟨?_, ?_, fun h => ?_, fun h => ?_, ?_⟩
 ·rw [ab, if_neg (by omega), fc (fun h => (I.q2 h).1.symm) (by omega), h1 0 f0]; exact I.res
 ·rw [ab, if_pos rfl]
 ·have h' : A.parts ++ y.parts ≠ [] := by rw [← hp]; exact h
  rw [ab, if_neg (iE (fun h => (I.q2 h).2) h' (by omega)), hp]
  exact fa hq h'
 ·have h' : A.parts ++ y.parts ≠ [] := by rw [← hp]; exact h
  exact ⟨iE (fun h => (I.q2 h).1) h' (by omega), iE (fun h => (I.q2 h).2) h' (by omega)⟩
 ·refine eW (kH hs) fun r hr z hz => ?_
  simp only [List.mem_singleton] at hr; subst hr
  rcases List.mem_cons.1 hz with rfl | hz
  ·by_cases n0 : A'.parts.length = 0
   ·rw [n0, aF]; simp [V.within]
   ·have h' : A.parts ++ y.parts ≠ [] := by rw [← hp]; exact fun h => n0 (by rw [h]; rfl)
    rw [ax n0, bA, ab]
    split
    ·rfl
    ·rw [fa hq h']; rfl
  ·exact bL _ _ _ _ _ z hz _
def mixL (ms : List Ms) (odds : List Int) (S : Int) (i : Nat) : Sl := ((((((Sl.empty.set 45 (.int .i64 i)).set 44 (.int .i64 ms.length)).set 43 (.dat (ms.map msC))).set 9 (.ptr 1 0 0)).set 6 (.int .i64 S)).set 4 (.ptr 0 0 0)).set 1 (ilV odds)
theorem BJ.weak {A : Ms} {q i : Nat} {τ : Sto} {ms : List Ms} {odds : List Int} {s : Int} {S : Sl} (I : BJ A q τ) (h : Sub (mixL ms odds s i) S) : Weak [] (mixL ms odds s i) τ S τ := by
 refine aO h (Has.refl _) (by simp) ?_ I.shut
 unfold mixL ilV
 have s1 : (E.look τ 0).isSome = true := by rw [I.res]; rfl
 have s2 : (E.look τ 1).isSome = true := by rw [I.out]; rfl
 repeat (first | exact ac | refine ah (by first | (simp; done) | (rw [ch]; first | exact s1 | exact s2)) ?_)
end Go.Proofs.YtmjgehbpcchjpaaGreatDoor
