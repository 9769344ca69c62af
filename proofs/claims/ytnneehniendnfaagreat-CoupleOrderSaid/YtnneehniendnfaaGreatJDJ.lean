/- How many pairs, and how large; plain. -/
import Derived.Test.YtnneehniendnfaaGreatGU
namespace Go.Proofs.YtnneehniendnfaaGreat
open Go Go.Proofs Go.Proofs.YtnneehniendnfaaGreat.E
set_option linter.unusedSimpArgs false
set_option linter.unusedVariables false
theorem gr_few : ∀ (f : Nat) {x y : List Rat} {n m e i k : Nat}, (x.length - i) + (y.length - k) ≤ f → Rest x y n m e → e + (gr x y i k).length ≤ 20 ∧ ∀ p ∈ gr x y i k, 0 < p.q ∧ Fits p.q 4194304 := by
  intro f
  induction f with
  | zero =>
    intro x y n m e i k hf hr
    rw [gr_end (by omega)]
    exact ⟨by simpa using hr.e, by simp⟩
  | succ f ih =>
    intro x y n m e i k hf hr
    by_cases h : i < x.length ∧ k < y.length
    · obtain ⟨hi, hk⟩ := h
      have nx := hr.nx _ (List.getElem_mem hi)
      have ny := hr.ny _ (List.getElem_mem hk)
      by_cases hx : x[i] = 0
      · rw [gr_row hi hk hx ny]; exact ih (by omega) hr
      by_cases hy : y[k] = 0
      · rw [gr_col hi hk hx nx hy]; exact ih (by omega) hr
      have px : 0 < x[i] := by grind
      have py : 0 < y[k] := by grind
      have em := hr.emit hi hk px py
      have pw := hr.pow
      have wf := minR_fits (hr.fx _ (List.getElem_mem hi)) (hr.fy _ (List.getElem_mem hk))
      rw [gr_step hi hk, if_pos (minR_pos px py)]
      have key : ∀ g : List Pq, (e + 1) + g.length ≤ 20 ∧ (∀ p ∈ g, 0 < p.q ∧ Fits p.q 4194304) → e + ([(⟨i, k, minR x[i] y[k]⟩ : Pq)] ++ g).length ≤ 20 ∧ ∀ p ∈ [(⟨i, k, minR x[i] y[k]⟩ : Pq)] ++ g, 0 < p.q ∧ Fits p.q 4194304 := by
        rintro g ⟨g1, g2⟩
        refine ⟨by simp; omega, fun p hp => ?_⟩
        rcases List.mem_append.1 hp with hp | hp
        · simp only [List.mem_singleton] at hp; subst hp
          exact ⟨minR_pos px py, wf.mono (by omega)⟩
        · exact g2 p hp
      split
      · exact key _ (ih (by simp; omega) em)
      · exact key _ (ih (by simp; omega) em)
    · rw [gr_end h]
      exact ⟨by simpa using hr.e, by simp⟩
end Go.Proofs.YtnneehniendnfaaGreat
