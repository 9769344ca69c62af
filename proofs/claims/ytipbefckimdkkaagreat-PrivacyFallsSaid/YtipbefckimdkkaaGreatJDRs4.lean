/- The loss between its corners; in plain Lean. -/
import Derived.Test.YtipbefckimdkkaaGreatIH
import Derived.Test.YtipbefckimdkkaaGreatHC
namespace Go.Proofs.YtipbefckimdkkaaGreat
open Go Go.Proofs Go.Proofs.YtipbefckimdkkaaGreat.E
set_option linter.unusedSimpArgs false
set_option linter.unusedVariables false
theorem lin_term {w t c d x : Rat} (hw : 0 < w) (ht : 0 ≤ t) (hcd : c < d) (h1 : c ≤ x) (h2 : x ≤ d) (hq : t = 0 ∨ w / t ≤ c ∨ d ≤ w / t) :
 posR (w - x * t) = posR (w - c * t) + (x - c) / (d - c) * (posR (w - d * t) - posR (w - c * t)) := by
 by_cases t0 : t = 0
 ·subst t0
  simp only [Rat.mul_zero]
  have e : posR (w - 0) - posR (w - 0) = 0 := by grind
  rw [e, Rat.mul_zero, Rat.add_zero]
 have tp : 0 < t := by grind
 have ew : w = w / t * t := by
  rw [Rat.div_def, Rat.mul_assoc, Rat.inv_mul_cancel _ t0, Rat.mul_one]
 have mono : ∀ {p q : Rat}, p ≤ q → p * t ≤ q * t := fun h => Rat.mul_le_mul_of_nonneg_right h (Rat.le_of_lt tp)
 rcases hq with h | h | h
 ·exact absurd h t0
 ·have a1 := mono h
  rw [← ew] at a1
  have a2 := mono h1
  have a3 := mono h2
  rw [posR_neg (r := w - x * t) (by grind), posR_neg (r := w - c * t) (by grind), posR_neg (r := w - d * t) (by grind)]
  have e : (0 : Rat) - 0 = 0 := by grind
  rw [e, Rat.mul_zero, Rat.add_zero]
 ·have a1 := mono h
  rw [← ew] at a1
  have a2 := mono h1
  have a3 := mono h2
  rw [posR_of (r := w - x * t) (by grind), posR_of (r := w - c * t) (by grind), posR_of (r := w - d * t) (by grind)]
  have e1 : w - d * t - (w - c * t) = (d - c) * (-t) := by grind
  have e2 : d - c ≠ 0 := by grind
  rw [e1, Rat.div_def, Rat.mul_assoc, ← Rat.mul_assoc (d - c)⁻¹, Rat.inv_mul_cancel _ e2, Rat.one_mul]
  grind
section
variable {a b : List Part}
theorem rts_of_mem {p : Part} (hp : p ∈ a) (h0 : wtQ b p.v ≠ 0) : p.w.q / wtQ b p.v ∈ rtsQ a b := List.mem_filterMap.2 ⟨p, hp, by rw [if_neg h0]⟩
theorem rest_lin (ga : Good a) (gb : Good b) {k : Nat} (hk : k + 1 < (ratesQ a b).length) {x : Rat} (h1 : (ratesQ a b)[k] ≤ x) (h2 : x ≤ (ratesQ a b)[k + 1]) :
 restQ a b x = restQ a b (ratesQ a b)[k] + (x - (ratesQ a b)[k]) / ((ratesQ a b)[k + 1] - (ratesQ a b)[k]) * (restQ a b (ratesQ a b)[k + 1] - restQ a b (ratesQ a b)[k]) := by
 have hR := ratesQ_rts a b
 have hlt := asc_lt hR.asc hk (show k < k + 1 by omega)
 have hn := hR.next (k := k) (by omega)
 rw [List.getElem?_eq_getElem hk] at hn
 have sp := nextQ_eq (last := (ratesQ a b)[k]) (rtsQ a b)
 rw [hn] at sp
 obtain ⟨_, _, sp3⟩ := sp
 generalize (ratesQ a b)[k] = c at *
 generalize (ratesQ a b)[k + 1] = d at *
 unfold restQ
 rw [← sumBy_sub, ← sumBy_mul, ← sumBy_add]
 refine sumBy_congr fun p hp => lin_term (ga.pos p hp) (wtQ_nn gb.pos p.v) hlt h1 h2 ?_
 by_cases h0 : wtQ b p.v = 0
 ·exact .inl h0
 ·refine .inr ?_
  by_cases hc : c < p.w.q / wtQ b p.v
  ·exact .inr (sp3 _ (rts_of_mem hp h0) hc)
  ·exact .inl (Rat.not_lt.1 hc)
theorem term_zero {w t x : Rat} (ht : 0 < t) (h : w / t ≤ x) : posR (w - x * t) = 0 := by
 have ew : w = w / t * t := by
  rw [Rat.div_def, Rat.mul_assoc, Rat.inv_mul_cancel _ (by grind), Rat.mul_one]
 have := Rat.mul_le_mul_of_nonneg_right h (Rat.le_of_lt ht)
 rw [← ew] at this
 exact posR_neg (by grind)
theorem term_pos {w t x : Rat} (ht : 0 < t) (h : x < w / t) : 0 < posR (w - x * t) := by
 have ew : w = w / t * t := by
  rw [Rat.div_def, Rat.mul_assoc, Rat.inv_mul_cancel _ (by grind), Rat.mul_one]
 have := Rat.mul_lt_mul_of_pos_right h ht
 rw [← ew] at this
 rw [posR_of (by grind)]
 grind
theorem max_ge {r : Rat} (h : r ∈ rtsQ a b) : r ≤ maxQ (rtsQ a b) := (maxQ_spec (l := rtsQ a b) (m := 1)).2.1 r h
theorem rest_flat (ga : Good a) (gb : Good b) {x : Rat} (h : maxQ (rtsQ a b) ≤ x) : restQ a b x = restQ a b (maxQ (rtsQ a b)) := by
 unfold restQ
 refine sumBy_congr fun p hp => ?_
 by_cases h0 : wtQ b p.v = 0
 ·rw [h0, Rat.mul_zero, Rat.mul_zero]
 ·have tp : 0 < wtQ b p.v := by have := wtQ_nn gb.pos p.v; grind
  have hm := max_ge (rts_of_mem hp h0)
  rw [term_zero tp (Rat.le_trans hm h), term_zero tp hm]
theorem sumBy_ge {α : Type} {f : α → Rat} : ∀ {l : List α} {x : α}, (∀ y ∈ l, 0 ≤ f y) → x ∈ l → f x ≤ sumBy f l
 | [], x, _, h => by simp at h
 | y :: l, x, h0, h => by
   rw [sumBy_cons]
   have hn := sumBy_nn (f := f) (l := l) fun z hz => h0 z (List.mem_cons_of_mem _ hz)
   have hy := h0 y (by simp)
   rcases List.mem_cons.1 h with rfl | h
   ·grind
   ·have := sumBy_ge (f := f) (fun z hz => h0 z (List.mem_cons_of_mem _ hz)) h
    grind
theorem rest_zero (ga : Good a) (gb : Good b) (hal : allQ a b = true) {x : Rat} (h1 : 1 ≤ x) : restQ a b x = 0 ↔ maxQ (rtsQ a b) ≤ x := by
 have wt : ∀ p ∈ a, 0 < wtQ b p.v := fun p hp => by
  have h := List.all_eq_true.1 hal p hp
  have := wtQ_nn gb.pos p.v
  simp at h
  grind
 constructor
 ·intro h
  refine Rat.not_lt.1 fun hlt => ?_
  rcases (maxQ_spec (l := rtsQ a b) (m := 1)).2.2 with e | e
  ·have e' : maxQ (rtsQ a b) = 1 := e
   grind
  ·have e' : maxQ (rtsQ a b) ∈ rtsQ a b := e
   obtain ⟨p, hp, ep⟩ := rts_mem e'
   rw [ep] at hlt
   have h2 := sumBy_ge (f := fun p : Part => posR (p.w.q - x * wtQ b p.v)) (l := a) (fun y _ => posR_nn _) hp
   have h3 := term_pos (wt p hp) hlt
   have e3 : sumBy (fun p : Part => posR (p.w.q - x * wtQ b p.v)) a = 0 := h
   rw [e3] at h2
   grind
 ·intro h
  have e : restQ a b x = sumBy (fun _ => (0 : Rat)) a := sumBy_congr fun p hp => term_zero (wt p hp) (Rat.le_trans (max_ge (rts_of_mem hp (by have := wt p hp; grind))) h)
  rw [e, sumBy_zero]
theorem rest_some (ga : Good a) (hal : allQ a b = false) (x : Rat) : restQ a b x ≠ 0 := fun h => by
 obtain ⟨p, hp, h0⟩ := List.all_eq_false.1 hal
 simp at h0
 have h2 := sumBy_ge (f := fun p : Part => posR (p.w.q - x * wtQ b p.v)) (l := a) (fun y _ => posR_nn _) hp
 have e3 : sumBy (fun p : Part => posR (p.w.q - x * wtQ b p.v)) a = 0 := h
 rw [e3] at h2
 have hw := ga.pos p hp
 simp only [h0, Rat.mul_zero] at h2
 have e4 : p.w.q - 0 = p.w.q := by grind
 rw [e4, posR_of (Rat.le_of_lt hw)] at h2
 grind
theorem rest_falls (gb : Good b) {x y : Rat} (h : x ≤ y) : restQ a b y ≤ restQ a b x := by
 unfold restQ
 refine sumBy_le fun p hp => ?_
 have h1 := Rat.mul_le_mul_of_nonneg_right h (wtQ_nn gb.pos p.v)
 refine posR_le ?_ (posR_nn _)
 refine Rat.le_trans ?_ (posR_ge _)
 grind
theorem rest_apart (a b : List Part) : restQ a b 1 = apartQ a b := by
 unfold restQ apartQ
 refine sumBy_congr fun p _ => ?_
 rw [Rat.one_mul]
theorem rawOf_rightT (r : Rat) : (rawOf r).right = true := (Raw.right_iff (k := max (digs r.num.natAbs).length (digs r.den).length) (rawOf_ok ⟨Nat.le_max_left _ _, Nat.le_max_right _ _⟩)).2 (by rw [rawOf_q])
theorem curve_corners (sa : Sm a) (sb : Sm b) : cornersB (curveQ a b) = true := by
 have hR := ratesQ_rts a b
 have hl : (curveQ a b).length = (ratesQ a b).length := by simp [curveQ]
 have hp := rates_pos a b
 unfold cornersB
 rw [Bool.and_eq_true]
 constructor
 ·refine List.all_eq_true.2 fun i hi => ?_
  have hi' := List.mem_range.1 hi
  have hir : i < (ratesQ a b).length := by omega
  rw [corAt_eq hi']
  have e : ∀ j (hj : j < (curveQ a b).length), (curveQ a b)[j] = corQ a b ((ratesQ a b)[j]'(by omega)) := fun j hj => by simp [curveQ]
  rw [e i hi', e (i - 1) (by omega)]
  have h1 : ratedB (rawOf (ratesQ a b)[i]) = true := by
   unfold ratedB
   rw [rawOf_rightT, rawOf_q]
   simp
   exact rates_one (List.getElem_mem hir)
  rw [h1, rawOf_rightT]
  simp only [Bool.true_and, Bool.or_eq_true, decide_eq_true_eq, rawOf_q]
  by_cases i0 : i = 0
  ·exact .inl i0
  ·exact .inr (asc_lt hR.asc hir (show i - 1 < i by omega))
 ·rw [List.getElem?_eq_getElem (show 0 < (curveQ a b).length by omega)]
  have e : (curveQ a b)[0]'(by omega) = corQ a b ((ratesQ a b)[0]) := by simp [curveQ]
  rw [e]
  simp only [rawOf_q, decide_eq_true_eq]
  exact hR.head hp
theorem curve_at (ga : Good a) (gb : Good b) {x v : Rat} (h : atV (curveQ a b) x v) : v = restQ a b x := by
 have hR := ratesQ_rts a b
 have hl : (curveQ a b).length = (ratesQ a b).length := by simp [curveQ]
 have e : ∀ j (hj : j < (curveQ a b).length), (curveQ a b)[j] = corQ a b ((ratesQ a b)[j]'(by omega)) := fun j hj => by simp [curveQ]
 obtain ⟨m, hm, m1, m2, rfl⟩ := h
 have n1 := m1 m hm (Nat.le_refl _)
 rw [e m hm, rawOf_q] at n1
 by_cases h2 : m + 1 < (curveQ a b).length
 ·have n2 := m2 (m + 1) h2 (by omega)
  rw [e _ h2, rawOf_q] at n2
  rw [dif_pos h2, rest_lin ga gb (by omega) n1 (Rat.le_of_lt n2)]
  unfold lerp
  rw [e m hm, e _ h2]
  simp only [rawOf_q]
 ·rw [dif_neg h2, e m hm, rawOf_q]
  have em : m = (ratesQ a b).length - 1 := by omega
  subst em
  rw [hR.last (by omega)] at n1 ⊢
  exact (rest_flat ga gb n1).symm
end
end Go.Proofs.YtipbefckimdkkaaGreat
