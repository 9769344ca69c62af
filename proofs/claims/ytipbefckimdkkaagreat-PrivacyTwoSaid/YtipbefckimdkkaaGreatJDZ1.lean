/- The loss of two independent outputs, in plain Lean. -/
import Derived.Test.YtipbefckimdkkaaGreatHA
import Derived.Test.YtipbefckimdkkaaGreatHF
namespace Go.Proofs.YtipbefckimdkkaaGreat
open Go Go.Proofs Go.Proofs.YtipbefckimdkkaaGreat.E
set_option linter.unusedSimpArgs false
set_option linter.unusedVariables false
theorem sumBy_flat {α β : Type} {f : β → Rat} (g : α → List β) (l : List α) : sumBy f (l.flatMap g) = sumBy (fun x => sumBy f (g x)) l := by
  induction l with
  | nil => rfl
  | cons a l ih => rw [List.flatMap_cons, sumBy_append, sumBy_cons, ih]
theorem sumBy_joint {f : Part → Rat} (a b : List Part) : sumBy f (jointL a b) = sumBy (fun p => sumBy (fun q => f (jnt p q)) b) a := by
  unfold jointL
  rw [sumBy_flat]
  refine sumBy_congr fun p _ => ?_
  unfold rowJ
  rw [sumBy_map]
theorem jnt_q (p q : Part) : (jnt p q).w.q = p.w.q * q.w.q := rawOf_q _
theorem jnt_v_iff (p q : Part) (u v : Tr) : (jnt p q).v = .mk 3 0 [u, v] ↔ (p.v = u ∧ q.v = v) := by
  unfold jnt; simp
theorem wtQ_sum {l : List Part} (hd : Dist l) (v : Tr) : wtQ l v = sumBy (fun p => if p.v = v then p.w.q else 0) l := by
  rw [wtQ_at, ← sum_one hd]
theorem wtQ_joint {b d : List Part} (hb : Dist b) (hd : Dist d) (hj : Dist (jointL b d)) (u v : Tr) : wtQ (jointL b d) (.mk 3 0 [u, v]) = wtQ b u * wtQ d v := by
  rw [wtQ_sum hj, sumBy_joint, wtQ_sum hb, wtQ_sum hd]
  have e : ∀ p ∈ b, sumBy (fun q => if (jnt p q).v = .mk 3 0 [u, v] then (jnt p q).w.q else 0) d = sumBy (fun q => if q.v = v then q.w.q else 0) d * (if p.v = u then p.w.q else 0) := by
    intro p _
    rw [Rat.mul_comm, ← sumBy_mul]
    refine sumBy_congr fun q _ => ?_
    rw [jnt_q]
    by_cases h1 : p.v = u
    · by_cases h2 : q.v = v
      · rw [if_pos ((jnt_v_iff ..).2 ⟨h1, h2⟩), if_pos h1, if_pos h2]
      · rw [if_neg (fun h => h2 ((jnt_v_iff ..).1 h).2), if_neg h2, Rat.mul_zero]
    · rw [if_neg (fun h => h1 ((jnt_v_iff ..).1 h).1), if_neg h1, Rat.zero_mul]
  rw [sumBy_congr e, sumBy_mul, Rat.mul_comm]
theorem two_le {p q b d r s : Rat} (hp : 0 ≤ p) (hq : 0 ≤ q) (hb : 0 ≤ b) (hd : 0 ≤ d) (hr : 0 ≤ r) (hs : 0 ≤ s) : posR (p * q - r * s * (b * d)) ≤ q * posR (p - r * b) + p * posR (q - s * d) := by
  have n1 := posR_nn (p - r * b)
  have n2 := posR_nn (q - s * d)
  have m1 := mul_nn hq n1
  have m2 := mul_nn hp n2
  have g1 := posR_ge (p - r * b)
  have g2 := posR_ge (q - s * d)
  refine posR_le ?_ (by grind)
  have hrb := mul_nn hr hb
  have hsd := mul_nn hs hd
  have e : r * s * (b * d) = (r * b) * (s * d) := by grind
  rw [e]
  generalize posR (p - r * b) = x at *
  generalize posR (q - s * d) = y at *
  generalize r * b = t at *
  generalize s * d = w at *
  by_cases h : t ≤ p
  · have k1 := mul_le_l hq g1
    have k2 := mul_le_l (show 0 ≤ p - t by grind) n2
    have k3 := mul_le_l hrb g2
    grind
  · have k1 := mul_le_l hp g2
    have k2 := mul_le_l (show 0 ≤ t - p by grind) hsd
    grind
theorem rest_two {a b c d : List Part} (ga : Good a) (gb : Good b) (gc : Good c) (gd : Good d) (gj : Good (jointL b d)) {r s : Rat} (hr : 0 ≤ r) (hs : 0 ≤ s) : restQ (jointL a c) (jointL b d) (r * s) ≤ restQ a b r + restQ c d s := by
  unfold restQ
  rw [sumBy_joint]
  have step : ∀ p ∈ a, sumBy (fun q => posR ((jnt p q).w.q - r * s * wtQ (jointL b d) (jnt p q).v)) c ≤ posR (p.w.q - r * wtQ b p.v) + sumBy (fun p => posR (p.w.q - s * wtQ d p.v)) c * p.w.q := by
    intro p hp
    have h1 : sumBy (fun q => posR ((jnt p q).w.q - r * s * wtQ (jointL b d) (jnt p q).v)) c ≤ sumBy (fun q => posR (p.w.q - r * wtQ b p.v) * q.w.q + p.w.q * posR (q.w.q - s * wtQ d q.v)) c := by
      refine sumBy_le fun q hq => ?_
      have ew : wtQ (jointL b d) (jnt p q).v = wtQ b p.v * wtQ d q.v := wtQ_joint (dist_of gb.rise) (dist_of gd.rise) (dist_of gj.rise) p.v q.v
      rw [jnt_q, ew, Rat.mul_comm (posR (p.w.q - r * wtQ b p.v))]
      have p0 := ga.pos p hp
      have q0 := gc.pos q hq
      exact two_le (by grind) (by grind) (wtQ_nn gb.pos _) (wtQ_nn gd.pos _) hr hs
    refine Rat.le_trans h1 ?_
    rw [sumBy_add, sumBy_mul, sumBy_mul, ← sumQ_by, gc.one, Rat.mul_one, Rat.mul_comm p.w.q]
    exact Rat.le_refl
  refine Rat.le_trans (sumBy_le step) ?_
  rw [sumBy_add, sumBy_mul, ← sumQ_by, ga.one, Rat.mul_one]
  exact Rat.le_refl
end Go.Proofs.YtipbefckimdkkaaGreat
