import Derived.Test.YtmjgehbpcchjpaaGreatDoorHW
import Derived.Test.YtmjgehbpcchjpaaGreatDoorHT
import Derived.Test.YtmjgehbpcchjpaaGreatDoorHN
namespace Go.Proofs.YtmjgehbpcchjpaaGreatDoor
open Go Go.Proofs Go.Proofs.YtmjgehbpcchjpaaGreatDoor.E
set_option linter.unusedSimpArgs false
set_option linter.unusedVariables false
theorem right_pos {m : Ms} (hr : rightM m = true) : ∀ p ∈ m.parts, 0 < p.w.q := by
 intro p hp
 unfold rightM listOK at hr
 simp only [Bool.and_eq_true, List.all_eq_true, List.mem_range] at hr
 obtain ⟨i, hi, rfl⟩ := List.mem_iff_getElem.1 hp
 have h := hr.1.1 i hi
 rw [partAt_eq hi] at h
 simp only [Bool.and_eq_true, decide_eq_true_eq] at h
 exact h.1.2
theorem right_lo {m : Ms} {k : Nat} (hm : m.Ok k) (hr : rightM m = true) : 0 ≤ m.lo.q := by
 unfold rightM fineR at hr
 simp only [Bool.and_eq_true] at hr
 have h := hr.2.2
 have e := fine_fit hm.lo h.1
 rw [h.2] at e
 have e2 : 0 ≤ sgnR m.lo.q := by simpa using e
 have h3 : ¬ m.lo.q < 0 := fun h => by rw [sgnR_of_neg h] at e2; omega
 exact Rat.not_lt.1 h3
theorem psum_nonneg {l : List Part} (h : ∀ p ∈ l, 0 < p.w.q) : 0 ≤ psum l := by
 induction l with
 | nil => exact Rat.le_refl
 | cons a l ih =>
   rw [psum_cons]
   have h1 := h a (by simp)
   have h2 := ih fun p hp => h p (by simp [hp])
   grind
theorem wsum_bet {l : List Part} (h : ∀ p ∈ l, 0 < p.w.q) (v : Tr) : 0 ≤ wsum l v ∧ wsum l v ≤ psum l := by
 induction l with
 | nil => exact ⟨Rat.le_refl, Rat.le_refl⟩
 | cons a l ih =>
   rw [psum_cons, wsum_cons]
   have h1 := h a (by simp)
   have h2 := ih fun p hp => h p (by simp [hp])
   split <;> grind
def accM (m : Ms) (l : List Part) (w : Rat) : Ms := ⟨m.parts ++ sclP l w, m.rf, rawOf 0, m.f0, m.f1, m.f2⟩
def foundM (m : Ms) (l : List Part) (w : Rat) (i : Nat) : Ms := if i = 0 then accM m [] w else normM (accM m (l.take i) w)
theorem wsum_accM (m : Ms) (l : List Part) (w : Rat) (v : Tr) : wsum (accM m l w).parts v = wsum m.parts v + wsum l v * w := by
 show wsum (m.parts ++ sclP l w) v = _
 rw [wsum_append, wsum_sclP]
theorem psum_accM (m : Ms) (l : List Part) (w : Rat) : psum (accM m l w).parts = psum m.parts + psum l * w := by
 show psum (m.parts ++ sclP l w) = _
 rw [psum_append, psum_sclP]
theorem wsum_foundM (m : Ms) (l : List Part) (w : Rat) (i : Nat) (v : Tr) : wsum (foundM m l w i).parts v = wsum m.parts v + wsum (l.take i) v * w := by
 unfold foundM
 split
 ·rename_i h; subst h; rw [wsum_accM, List.take_zero]
 ·rw [wsum_normM, wsum_accM]
theorem psum_foundM (m : Ms) (l : List Part) (w : Rat) (i : Nat) : psum (foundM m l w i).parts = psum m.parts + psum (l.take i) * w := by
 unfold foundM
 split
 ·rename_i h; subst h; rw [psum_accM, List.take_zero]
 ·show psum (normP _) = _
  rw [psum_normP, psum_accM]
theorem foundM_q (m : Ms) (l : List Part) (w : Rat) (i : Nat) : (foundM m l w i).rf.q = m.rf.q ∧ (foundM m l w i).lo.q = 0 ∧ (foundM m l w i).f0.q = m.f0.q ∧ (foundM m l w i).f1.q = m.f1.q ∧ (foundM m l w i).f2.q = m.f2.q := by
 unfold foundM
 split
 ·exact ⟨rfl, rawOf_q _, rfl, rfl, rfl⟩
 ·rw [normM_rf, normM_lo, normM_f0, normM_f1, normM_f2]
  exact ⟨rfl, rawOf_q _, rfl, rfl, rfl⟩
theorem found_step {m : Ms} {l : List Part} {w : Rat} {i : Nat} (h : i < l.length) : normM (addM (foundM m l w i) (normM (sclM (normM (onM 0 0 l[i].v l[i].w)) w))) = foundM m l w (i + 1) := by
 have e : foundM m l w (i + 1) = normM (accM m (l.take (i + 1)) w) := if_neg (by omega)
 rw [e]
 have e2 : ∀ v, wsum (l.take (i + 1)) v = wsum (l.take i) v + (if l[i].v = v then l[i].w.q else 0) := fun v => by
  rw [List.take_succ_eq_append_getElem h, wsum_append, wsum_cons, wsum_nil, Rat.add_zero]
 obtain ⟨q1, q2, q3, q4, q5⟩ := foundM_q m l w i
 have eo : onM 0 0 l[i].v l[i].w = ⟨[⟨l[i].v, l[i].w⟩], rawOf 0, rawOf 0, rawOf 0, rawOf 0, rawOf 0⟩ := if_pos rfl
 have z : (rawOf 0).q = 0 := rawOf_q 0
 have ea : (accM m (l.take (i + 1)) w).lo.q = 0 := rawOf_q _
 refine normM_ext ⟨fun v => ?_, ?_, ?_, ?_, ?_, ?_⟩
 ·rw [wsum_addM, wsum_foundM, wsum_normM, wsum_sclM, wsum_normM, wsum_accM, e2, eo]
  show _ + wsum [_] v * w = _
  rw [wsum_cons, wsum_nil]; dsimp only; grind
 ·rw [addM_rf, normM_rf, sclM_rf, normM_rf, q1, eo]; show _ + (rawOf 0).q * w = m.rf.q; rw [z]; grind
 ·rw [addM_lo, normM_lo, sclM_lo, normM_lo, q2, eo, ea]; show _ + (rawOf 0).q * w = _; rw [z]; grind
 ·rw [addM_f0, normM_f0, sclM_f0, normM_f0, q3, eo]; show _ + (rawOf 0).q * w = m.f0.q; rw [z]; grind
 ·rw [addM_f1, normM_f1, sclM_f1, normM_f1, q4, eo]; show _ + (rawOf 0).q * w = m.f1.q; rw [z]; grind
 ·rw [addM_f2, normM_f2, sclM_f2, normM_f2, q5, eo]; show _ + (rawOf 0).q * w = m.f2.q; rw [z]; grind
theorem div_mono {a b c : Rat} (hc : 0 < c) (h : a ≤ b) : a / c ≤ b / c := by
 rw [Rat.div_def, Rat.div_def]; exact Rat.mul_le_mul_of_nonneg_right h (Rat.le_of_lt (Rat.inv_pos.2 hc))
theorem div_nn {a c : Rat} (hc : 0 ≤ c) (h : 0 ≤ a) : 0 ≤ a / c := by
 by_cases h0 : c = 0
 ·subst h0; rw [Rat.div_def, Rat.inv_zero, Rat.mul_zero]; exact Rat.le_refl
 ·have hp : 0 < c := by grind
  have := div_mono hp h
  rwa [Rat.div_def, Rat.zero_mul] at this
theorem found_bet {m : Ms} {l : List Part} {lo : Rat} (hm : ∀ p ∈ m.parts, 0 < p.w.q) (hl : ∀ p ∈ l, 0 < p.w.q) (h0 : 0 ≤ lo) (hQ : psum l ≠ 0) (hT : psum m.parts + lo ≠ 0) (v : Tr) :
 wsum m.parts v / (psum m.parts + lo) ≤ (wsum m.parts v + wsum l v * (lo / psum l)) / (psum m.parts + lo) ∧ (wsum m.parts v + wsum l v * (lo / psum l)) / (psum m.parts + lo) ≤ (wsum m.parts v + lo) / (psum m.parts + lo) := by
 have p1 := psum_nonneg hm
 have p2 := psum_nonneg hl
 obtain ⟨w1, w2⟩ := wsum_bet hl v
 have hP : 0 < psum m.parts + lo := by grind
 have d := div_nn p2 h0
 have e1 : psum l * (lo / psum l) = lo := by rw [Rat.mul_comm]; exact Rat.div_mul_cancel hQ
 have m1 := Rat.mul_nonneg w1 d
 have m2 := Rat.mul_le_mul_of_nonneg_right w2 d
 rw [e1] at m2
 exact ⟨div_mono hP (by grind), div_mono hP (by grind)⟩
end Go.Proofs.YtmjgehbpcchjpaaGreatDoor
