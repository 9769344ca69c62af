import Derived.Test.YtmjgehbpcchjpaaGreatDoorIM
import Derived.Test.YtmjgehbpcchjpaaGreatDoorHW
import Derived.Test.YtmjgehbpcchjpaaGreatDoorHY
namespace Go.Proofs.YtmjgehbpcchjpaaGreatDoor
open Go Go.Proofs Go.Proofs.YtmjgehbpcchjpaaGreatDoor.E
set_option linter.unusedSimpArgs false
set_option linter.unusedVariables false
def fv (q : Rat) : Nat := if q = 0 then 0 else 1
theorem pL {n : Nat} : ∀ b ∈ kX n, b ≠ 10 := fun b hb e => by
 have := q7 b hb
 subst e
 exact absurd this (by decide)
theorem ratL_10 (r : Raw) : ∀ b ∈ ll r, b ≠ 10 := fun b hb => by
 unfold ll jF at hb
 rcases List.mem_append.1 hb with hb | hb
 ·split at hb
  ·rcases List.mem_cons.1 hb with rfl | hb
   ·decide
   ·exact pL b hb
  ·exact pL b hb
 ·split at hb
  ·cases hb
  ·rcases List.mem_cons.1 hb with rfl | hb
   ·decide
   ·exact pL b hb
theorem qp {l : List UInt8} (h : ∀ b ∈ l, b ≠ 10) : l.count 10 = 0 := List.count_eq_zero.2 fun hm => h _ hm rfl
theorem ey {w : List UInt8} (q : Rat) (h : ∀ b ∈ w, b ≠ 10) : (cY w q).count 10 = fv q := by
 unfold cY fv
 split
 ·rfl
 ·rw [List.count_append, List.count_append, List.count_append, qp h, qp (ratL_10 _)]
  decide
theorem lP : ∀ {l : List Part}, (∀ p ∈ l, p.w.q ≠ 0) → (dT l).count 10 = l.length
 | [], _ => rfl
 | a :: l, h => by
   have h1 := h a (by simp)
   have h2 := lP (l := l) fun x hx => h x (by simp [hx])
   unfold dT at h2 ⊢
   rw [List.flatMap_cons, List.count_append, ey _ (fun b hb => valL_ten b hb), h2, List.length_cons, fv, if_neg h1]
   omega
theorem count_ms (m : Ms) : (msL m).count 10 = (cN m.parts).length + fv m.rf.q + fv m.lo.q + fv m.f0.q + fv m.f1.q + fv m.f2.q := by
 unfold msL
 rw [List.count_append, List.count_append, List.count_append, List.count_append, List.count_append, lP (fun p hp => by rw [(fX hp).1, bw]; exact (fX hp).2), ey _ (by decide), ey _ (by decide), ey _ (by decide), ey _ (by decide), ey _ (by decide)]
structure Rgt (m : Ms) : Prop where
 v : ∀ p ∈ m.parts, gk p.v = true
 w : ∀ p ∈ m.parts, 0 ≤ p.w.q
 rf : 0 ≤ m.rf.q
 lo : 0 ≤ m.lo.q
 f0 : 0 ≤ m.f0.q
 f1 : 0 ≤ m.f1.q
 f2 : 0 ≤ m.f2.q
theorem j8 {x : Raw} {k : Nat} (hx : x.Ok k) (h : cQ x = true) : 0 ≤ x.q := by
 unfold cQ at h
 obtain ⟨h1, h2⟩ := (Bool.and_eq_true _ _).mp h
 have e := j7 hx h1
 rw [h2] at e
 have e2 : 0 ≤ cH x.q := by simpa using e
 have h3 : ¬ x.q < 0 := fun h => by rw [d7 h] at e2; omega
 exact Rat.not_lt.1 h3
theorem nn_fine {q : Rat} {k : Nat} (hf : Fits q k) (h : 0 ≤ q) : cQ (ap q) = true := by
 unfold cQ
 have r : (ap q).right = true := (Raw.right_iff (cu hf)).2 (by rw [bw])
 have e := j7 (cu hf) r
 rw [r, ← e, bw]
 have : ¬ cH q < 0 := fun h2 => by
  by_cases h3 : q = 0
  ·rw [h3, d9] at h2; omega
  ·rw [e9 (by grind)] at h2; omega
 simp; omega
theorem o4 {m : Ms} {k : Nat} (hm : m.Ok k) (hr : eE m = true) : Rgt m := by
 have w := uq hr
 unfold eE kV at hr
 simp only [Bool.and_eq_true, List.all_eq_true, List.mem_range] at hr
 refine ⟨fun p hp => ?_, fun p hp => Rat.le_of_lt (w p hp), j8 hm.rf hr.2.1, j8 hm.lo hr.2.2, j8 hm.f0 hr.1.2.1.1, j8 hm.f1 hr.1.2.1.2, j8 hm.f2 hr.1.2.2⟩
 obtain ⟨i, hi, rfl⟩ := List.mem_iff_getElem.1 hp
 have h := hr.1.1 i hi
 rw [gE hi] at h
 simp only [Bool.and_eq_true, decide_eq_true_eq] at h
 exact h.1.1.1
theorem tq {l : List Part} (h : ∀ p ∈ l, 0 ≤ p.w.q) (v : Tr) : 0 ≤ aP l v := by
 induction l with
 | nil => exact Rat.le_refl
 | cons a l ih =>
   have h1 := h a (by simp)
   have h2 := ih fun p hp => h p (by simp [hp])
   rw [cc]
   split
   ·exact Rat.add_nonneg h1 h2
   ·rw [Rat.zero_add]; exact h2
theorem Rgt.nrm {m : Ms} (h : Rgt m) : Rgt (bf m) := by
 refine ⟨fun p hp => ?_, fun p hp => ?_, ?_, ?_, ?_, ?_, ?_⟩
 ·obtain ⟨q, hq, e⟩ := fI hp
  rw [← e]; exact h.v q hq
 ·rw [(fX hp).1, bw]; exact tq h.w _
 all_goals (simp only [bf, bw]; first | exact h.rf | exact h.lo | exact h.f0 | exact h.f1 | exact h.f2)
theorem Rgt.scl {m : Ms} {r : Rat} (h : Rgt m) (hr : 0 ≤ r) : Rgt (fP m r) := by
 refine ⟨fun p hp => ?_, fun p hp => ?_, ?_, ?_, ?_, ?_, ?_⟩
 ·obtain ⟨q, hq, rfl⟩ := List.mem_map.1 hp
  exact h.v q hq
 ·obtain ⟨q, hq, rfl⟩ := List.mem_map.1 hp
  simp only [bw]; exact Rat.mul_nonneg (h.w q hq) hr
 all_goals (simp only [fP, bw]; refine Rat.mul_nonneg ?_ hr; first | exact h.rf | exact h.lo | exact h.f0 | exact h.f1 | exact h.f2)
theorem Rgt.add {m n : Ms} (h : Rgt m) (k : Rgt n) : Rgt (fo m n) := by
 refine ⟨fun p hp => ?_, fun p hp => ?_, ?_, ?_, ?_, ?_, ?_⟩
 ·rcases List.mem_append.1 hp with hp | hp
  ·exact h.v p hp
  ·exact k.v p hp
 ·rcases List.mem_append.1 hp with hp | hp
  ·exact h.w p hp
  ·exact k.w p hp
 all_goals simp only [fo, bw]
 ·exact Rat.add_nonneg h.rf k.rf
 ·exact Rat.add_nonneg h.lo k.lo
 ·exact Rat.add_nonneg h.f0 k.f0
 ·exact Rat.add_nonneg h.f1 k.f1
 ·exact Rat.add_nonneg h.f2 k.f2
theorem Rgt.right {m : Ms} {k : Nat} (h : Rgt m) (ok : (bf m).Ok k) : eE (bf m) = true := by
 have f : ∀ {x : Raw}, (ap x.q).Ok k → 0 ≤ x.q → cQ (ap x.q) = true := fun {x} hx h0 => by
  have r := Raw.fits (k := max 1 k) (x := ap x.q) ⟨hx.dn, hx.dd, Nat.le_trans hx.ln (by omega), Nat.le_trans hx.ld (by omega)⟩ (by omega)
  rw [bw] at r
  exact nn_fine r h0
 unfold eE kV
 simp only [Bool.and_eq_true, List.all_eq_true, List.mem_range]
 refine ⟨⟨fun i hi => ?_, ⟨f ok.f0 h.f0, f ok.f1 h.f1⟩, f ok.f2 h.f2⟩, f ok.rf h.rf, f ok.lo h.lo⟩
 have mem := List.getElem_mem hi
 obtain ⟨q, hq, e⟩ := fI mem
 have w := fX mem
 have wo := (ok.parts _ mem).2
 rw [gE hi]
 simp only [Bool.and_eq_true, decide_eq_true_eq, Bool.or_eq_true]
 refine ⟨⟨⟨e ▸ h.v q hq, ?_⟩, ?_⟩, ?_⟩
 ·rw [Raw.right_iff wo]
  have e := w.1
  have e3 : (bf m).parts[i].w.q = aP m.parts (bf m).parts[i].v := by rw [e, bw]
  rw [e3]; exact e
 ·have e2 : (bf m).parts[i].w.q = aP m.parts (bf m).parts[i].v := by rw [show (bf m).parts[i].w = _ from w.1, bw]
  rw [e2]
  have w1 := tq h.w (bf m).parts[i].v
  have w2 := w.2
  change ¬ aP m.parts (bf m).parts[i].v = 0 at w2
  grind
 ·by_cases h0 : i = 0
  ·exact .inl h0
  ·refine .inr ?_
   rw [dif_pos (by omega)]
   simp only [decide_eq_true_eq]
   exact List.pairwise_iff_getElem.1 (normP_up m.parts) (i - 1) i _ _ (by omega)
end Go.Proofs.YtmjgehbpcchjpaaGreatDoor
