/- Joined texts: CCou5, DQ, DX, CCou6, CCou7, CCou8. -/
import Derived.Test.YtipbefckimdkkaaGreatGP
import Derived.Test.YtipbefckimdkkaaGreatGG
import Derived.Test.YtipbefckimdkkaaGreatGD
namespace Go.Proofs.YtipbefckimdkkaaGreat
open Go Go.Proofs Go.Proofs.YtipbefckimdkkaaGreat.E
set_option linter.unusedSimpArgs false
set_option linter.unusedVariables false
def Rise (l : List Part) : Prop := ∀ i j (hi : i < l.length) (hj : j < l.length), i < j → cmpT l[i].v l[j].v < 0
theorem rise_of {l : List Part} (h : rightP l = true) : Rise l := by
  have h1 : ∀ i (hi : i + 1 < l.length), cmpT (l[i]'(by omega)).v l[i + 1].v < 0 := by
    intro i hi
    simp [rightP] at h
    have := h.1.2 (i + 1) hi
    rw [partAt_eq hi] at this
    simp at this
    exact this.2
  intro i j hi hj hij
  induction j with
  | zero => omega
  | succ j ih =>
    by_cases e : i = j
    · subst e; exact h1 i hj
    · exact cmpT_trans (ih (by omega) (by omega)) (h1 j hj)
theorem toD_partC (σ : Sto) (n : Nat) (p : Part) : mapO (toD σ (n + 1)) (partC p) = some (partC p) := by
  cases p with
  | mk v w => cases v; simp [partC, cells_mk, Raw.c]
end Go.Proofs.YtipbefckimdkkaaGreat

namespace Go.Proofs.YtipbefckimdkkaaGreat
open Go Go.Proofs Go.Proofs.YtipbefckimdkkaaGreat.E
set_option linter.unusedSimpArgs false
set_option linter.unusedVariables false
def Norm (l : List Part) : Prop := ∀ p ∈ l, p.w = rawOf p.w.q
structure Good (l : List Part) : Prop where
  ok : ∀ p ∈ l, p.Ok 1000000
  le : l.length ≤ 60
  ne : l ≠ []
  norm : Norm l
  pos : ∀ p ∈ l, 0 < p.w.q
  rise : Rise l
  one : sumQ l = 1
theorem good_of {l : List Part} (h : rightP l = true) (ho : ∀ p ∈ l, p.Ok 1000000) : Good l := by
  have hr := rise_of h
  have h0 := h
  simp [rightP] at h
  have hat : ∀ i (hi : i < l.length), l[i].w.right = true ∧ 0 < l[i].w.q := by
    intro i hi
    have := h.1.2 i hi
    rw [partAt_eq hi] at this
    simp at this
    exact ⟨this.1.1.2, this.1.2⟩
  refine ⟨ho, h.1.1, ?_, ?_, ?_, hr, h.2⟩
  · rintro rfl; simp [rightP, sumQ] at h0
  · intro p hp
    obtain ⟨i, hi, rfl⟩ := List.getElem_of_mem hp
    exact (Raw.right_iff (ho _ (List.getElem_mem hi)).w).1 (hat i hi).1
  · intro p hp
    obtain ⟨i, hi, rfl⟩ := List.getElem_of_mem hp
    exact (hat i hi).2
end Go.Proofs.YtipbefckimdkkaaGreat

namespace Go.Proofs.YtipbefckimdkkaaGreat
open Go Go.Proofs Go.Proofs.YtipbefckimdkkaaGreat.E
set_option linter.unusedSimpArgs false
set_option linter.unusedVariables false
end Go.Proofs.YtipbefckimdkkaaGreat

namespace Go.Proofs.YtipbefckimdkkaaGreat
open Go Go.Proofs Go.Proofs.YtipbefckimdkkaaGreat.E
set_option linter.unusedSimpArgs false
set_option linter.unusedVariables false
end Go.Proofs.YtipbefckimdkkaaGreat

namespace Go.Proofs.YtipbefckimdkkaaGreat
open Go Go.Proofs Go.Proofs.YtipbefckimdkkaaGreat.E
set_option linter.unusedSimpArgs false
set_option linter.unusedVariables false
end Go.Proofs.YtipbefckimdkkaaGreat

namespace Go.Proofs.YtipbefckimdkkaaGreat
open Go Go.Proofs Go.Proofs.YtipbefckimdkkaaGreat.E
set_option linter.unusedSimpArgs false
set_option linter.unusedVariables false
end Go.Proofs.YtipbefckimdkkaaGreat
