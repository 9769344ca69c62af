/- The best coupling is one, and no coupling has less off the diagonal; plain. -/
import Derived.Test.YtnneehniendnfaaGreatJDJ
namespace Go.Proofs.YtnneehniendnfaaGreat
open Go Go.Proofs Go.Proofs.YtnneehniendnfaaGreat.E
set_option linter.unusedSimpArgs false
set_option linter.unusedVariables false
theorem up_at {G : List Pq} (h : Up G) {p : Pq} (hp : p ∈ G) : valA G p.A p.B = p.q := by
  induction G with
  | nil => simp at hp
  | cons g G ih =>
    unfold Up at h
    rw [List.pairwise_cons] at h
    rw [valA_cons]
    simp only [List.mem_cons] at hp
    rcases hp with rfl | hp
    · rw [if_pos ⟨rfl, rfl⟩, valA_above h.1]; grind
    · have hk := h.1 p hp
      rw [if_neg (by unfold ltk at hk; omega), ih h.2 hp]; grind
end Go.Proofs.YtnneehniendnfaaGreat
