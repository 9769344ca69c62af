/- Joined texts: CRefB, CPut, CPair, CRBest. -/
import Derived.Test.YtnneehniendnfaaGreatGU
import Derived.Test.YtnneehniendnfaaGreatGS
namespace Go.Proofs.YtnneehniendnfaaGreat
open Go Go.Proofs Go.Proofs.YtnneehniendnfaaGreat.E
set_option linter.unusedSimpArgs false
set_option linter.unusedVariables false
end Go.Proofs.YtnneehniendnfaaGreat

namespace Go.Proofs.YtnneehniendnfaaGreat
open Go Go.Proofs Go.Proofs.YtnneehniendnfaaGreat.E
set_option linter.unusedSimpArgs false
set_option linter.unusedVariables false
structure PutInv (L : List Pq) (x : Pq) (K : Nat) (i : Nat) (done : Bool) (M : List Pq) : Prop where
  le : i ≤ L.length
  up : Up M
  pos : ∀ p ∈ M, 0 < p.q
  fit : ∀ p ∈ M, Fits p.q K
  no : done = false → M = L.take i ∧ ∀ p ∈ M, ltk p x
  yes : done = true → (∀ A B, valA M A B = valA (L.take i) A B + valA [x] A B) ∧ (∀ m ∈ M, ∀ t (ht : t < L.length), i ≤ t → ltk m L[t]) ∧ (∀ t (ht : t < L.length), i ≤ t → ltk x L[t]) ∧ M ≠ []
  len : M.length ≤ i + 1
section
variable {L : List Pq} {x : Pq} {K i : Nat} {M : List Pq}
theorem up_app {M : List Pq} {p : Pq} (h : Up M) (hp : ∀ m ∈ M, ltk m p) : Up (M ++ [p]) := by
  unfold Up at *
  rw [List.pairwise_append]
  exact ⟨h, by simp, fun a ha b hb => by simp only [List.mem_singleton] at hb; subst hb; exact hp a ha⟩
theorem valA_take {L : List Pq} {i : Nat} (hi : i < L.length) (A B : Int) : valA (L.take (i + 1)) A B = valA (L.take i) A B + valA [L[i]] A B := by
  rw [List.take_succ_eq_append_getElem hi, valA_append]
theorem below_at {L : List Pq} (hL : Up L) {i : Nat} (hi : i < L.length) : ∀ p ∈ L.take i, ltk p L[i] := by
  intro p hp
  obtain ⟨j, hj, rfl⟩ := List.getElem_of_mem hp
  simp at hj
  rw [List.getElem_take]
  exact List.pairwise_iff_getElem.1 hL j i (by omega) hi (by omega)
theorem above_at {L : List Pq} (hL : Up L) {i : Nat} (hi : i < L.length) : ∀ t (ht : t < L.length), i + 1 ≤ t → ltk L[i] L[t] := fun t ht h => List.pairwise_iff_getElem.1 hL i t hi ht (by omega)
theorem PutInv.pass (h : PutInv L x K i false M) (hL : Up L) (hp : ∀ p ∈ L, 0 < p.q) (hf : ∀ p ∈ L, Fits p.q K) (hi : i < L.length) (hk : ltk L[i] x) : PutInv L x K (i + 1) false (M ++ [L[i]]) := by
  obtain ⟨n1, n2⟩ := h.no rfl
  refine ⟨hi, up_app h.up (by rw [n1]; exact below_at hL hi), fun p hp' => ?_, fun p hp' => ?_, fun _ => ⟨by rw [n1, List.take_succ_eq_append_getElem hi], fun p hp' => ?_⟩, by simp, by have := h.len; simp; omega⟩
  · rcases List.mem_append.1 hp' with hp' | hp'
    · exact h.pos p hp'
    · simp only [List.mem_singleton] at hp'; subst hp'; exact hp _ (List.getElem_mem hi)
  · rcases List.mem_append.1 hp' with hp' | hp'
    · exact h.fit p hp'
    · simp only [List.mem_singleton] at hp'; subst hp'; exact hf _ (List.getElem_mem hi)
  · rcases List.mem_append.1 hp' with hp' | hp'
    · exact n2 p hp'
    · simp only [List.mem_singleton] at hp'; subst hp'; exact hk
theorem PutInv.same (h : PutInv L x K i false M) (hL : Up L) (hp : ∀ p ∈ L, 0 < p.q) (hx : 0 < x.q) (hi : i < L.length) (hf : Fits (L[i].q + x.q) K) (hk : L[i].A = x.A ∧ L[i].B = x.B) : PutInv L x K (i + 1) true (M ++ [⟨L[i].A, L[i].B, L[i].q + x.q⟩]) := by
  obtain ⟨n1, n2⟩ := h.no rfl
  have hl : ∀ q : Pq, ltk q L[i] → ltk q ⟨L[i].A, L[i].B, L[i].q + x.q⟩ := fun q hq => hq
  refine ⟨hi, up_app h.up fun m hm => ?_, fun p hp' => ?_, fun p hp' => ?_, by simp, fun _ => ⟨fun A B => ?_, fun m hm t ht hit => ?_, fun t ht hit => ?_, by simp⟩, by have := h.len; simp; omega⟩
  · rw [n1] at hm; exact hl m (below_at hL hi m hm)
  · rcases List.mem_append.1 hp' with hp' | hp'
    · exact h.pos p hp'
    · simp only [List.mem_singleton] at hp'; subst hp'
      have := hp _ (List.getElem_mem hi)
      show 0 < L[i].q + x.q
      grind
  · rcases List.mem_append.1 hp' with hp' | hp'
    · exact h.fit p hp'
    · simp only [List.mem_singleton] at hp'; subst hp'; exact hf
  · rw [valA_append, valA_take hi, n1, valA_cons, valA_cons, valA_cons, valA_nil]
    by_cases e : L[i].A = A ∧ L[i].B = B
    · have e2 : x.A = A ∧ x.B = B := by omega
      rw [if_pos e, if_pos e, if_pos e2]; grind
    · have e2 : ¬ (x.A = A ∧ x.B = B) := by omega
      rw [if_neg e, if_neg e, if_neg e2]; grind
  · rcases List.mem_append.1 hm with hm | hm
    · rw [n1] at hm; exact ltk_trans (below_at hL hi m hm) (above_at hL hi t ht hit)
    · simp only [List.mem_singleton] at hm; subst hm
      exact above_at hL hi t ht hit
  · have := above_at hL hi t ht hit
    unfold ltk at *; omega
end
end Go.Proofs.YtnneehniendnfaaGreat

namespace Go.Proofs.YtnneehniendnfaaGreat
open Go Go.Proofs Go.Proofs.YtnneehniendnfaaGreat.E
set_option linter.unusedSimpArgs false
set_option linter.unusedVariables false
def lv (L : List Pq) : V := if L = [] then .nils else .dat (L.map Pq.c)
theorem E.has_of {σ1 σ' : Sto} (h : ∀ p ∈ σ1, E.look σ' p.1 = some p.2) : Has σ1 σ' := fun o x ho => h (o, x) (look_mem ho)
theorem weak_two {S1 S : Sl} {x y : List Rat} {σ' : Sto} (h1 : Sub S1 S) (h2 : E.look σ' 0 = some (obR x)) (h3 : E.look σ' 1 = some (obR y)) (h4 : SIn (fun o => (E.look [(0, obR x), (1, obR y)] o).isSome) S1) : Weak [0, 1] S1 [(0, obR x), (1, obR y)] S σ' := by
  refine weak_gen h1 (E.has_of fun p hp => ?_) (by simp [E.look]) h4 (shut_of ?_)
  · simp only [List.mem_cons, List.not_mem_nil, or_false] at hp
    rcases hp with rfl | rfl <;> assumption
  · intro p hp r hr y' hy
    simp only [List.mem_cons, List.not_mem_nil, or_false] at hp
    rcases hp with rfl | rfl
    · exact plain_R _ r hr y' hy _
    · exact plain_R _ r hr y' hy _
end Go.Proofs.YtnneehniendnfaaGreat

namespace Go.Proofs.YtnneehniendnfaaGreat
open Go Go.Proofs Go.Proofs.YtnneehniendnfaaGreat.E
set_option linter.unusedSimpArgs false
set_option linter.unusedVariables false
end Go.Proofs.YtnneehniendnfaaGreat
