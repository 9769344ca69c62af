/- Joined texts: DG, CSort, CGath. -/
import Derived.Test.YtnneehniendnfaaGreatGS
import Derived.Test.YtnneehniendnfaaGreatGD
import Derived.Test.YtnneehniendnfaaGreatGR
import Derived.Test.YtnneehniendnfaaGreatGP
namespace Go.Proofs.YtnneehniendnfaaGreat
open Go Go.Proofs Go.Proofs.YtnneehniendnfaaGreat.E
set_option linter.unusedSimpArgs false
set_option linter.unusedVariables false
structure Pq where
  A : Int
  B : Int
  q : Rat
def Pq.pr (p : Pq) : Pr := ⟨p.A, p.B, rawOf p.q⟩
abbrev Pq.c (p : Pq) : List V := prC p.pr
def ltk (p q : Pq) : Prop := p.A < q.A ∨ (p.A = q.A ∧ p.B < q.B)
instance (p q : Pq) : Decidable (ltk p q) := inferInstanceAs (Decidable (_ ∨ _))
theorem cmp_ltk (p q : Pq) : cmpPr p.pr q.pr < 0 ↔ ltk p q := cmpPr_neg _ _
theorem ltk_trans {p q r : Pq} (h : ltk p q) (k : ltk q r) : ltk p r := by unfold ltk at *; omega
theorem cmp_zero (p q : Pq) : cmpPr p.pr q.pr = 0 ↔ p.A = q.A ∧ p.B = q.B := by
  unfold cmpPr; rw [orI_zero, cmpI_zero, cmpI_zero]; rfl
def valA (L : List Pq) (A B : Int) : Rat := sumBy (fun p => if p.A = A ∧ p.B = B then p.q else 0) L
theorem valA_nil (A B : Int) : valA [] A B = 0 := rfl
theorem valA_cons (p : Pq) (L : List Pq) (A B : Int) : valA (p :: L) A B = (if p.A = A ∧ p.B = B then p.q else 0) + valA L A B := sumBy_cons _ _
theorem valA_append (L M : List Pq) (A B : Int) : valA (L ++ M) A B = valA L A B + valA M A B := sumBy_append _ _
theorem valA_none {L : List Pq} {A B : Int} (h : ∀ p ∈ L, ¬ (p.A = A ∧ p.B = B)) : valA L A B = 0 := by
  have : valA L A B = sumBy (fun _ => 0) L := sumBy_congr fun p hp => if_neg (h p hp)
  rw [this, sumBy_zero]
theorem valA_nonneg {L : List Pq} (h : ∀ p ∈ L, 0 < p.q) (A B : Int) : 0 ≤ valA L A B := by
  have := sumBy_le (f := fun _ : Pq => (0 : Rat)) (g := fun p => if p.A = A ∧ p.B = B then p.q else 0) (l := L) fun p hp => by
    have := h p hp; split <;> grind
  rwa [sumBy_zero] at this
theorem valA_above {p : Pq} {L : List Pq} (h : ∀ q ∈ L, ltk p q) : valA L p.A p.B = 0 := valA_none fun q hq e => by
  have := h q hq; unfold ltk at this; omega
def Up (L : List Pq) : Prop := L.Pairwise ltk
theorem up_uniq : ∀ {L M : List Pq}, Up L → Up M → (∀ p ∈ L, 0 < p.q) → (∀ p ∈ M, 0 < p.q) → (∀ A B, valA L A B = valA M A B) → L = M := by
  intro L
  induction L with
  | nil =>
    intro M _ _ _ pM h
    cases M with
    | nil => rfl
    | cons m M =>
      have h1 := h m.A m.B
      rw [valA_nil, valA_cons, if_pos ⟨rfl, rfl⟩] at h1
      have h2 := pM m (by simp)
      have h3 := valA_nonneg (L := M) (fun p hp => pM p (by simp [hp])) m.A m.B
      grind
  | cons l L ih =>
    intro M uL uM pL pM h
    unfold Up at uL uM
    rw [List.pairwise_cons] at uL
    have hl := h l.A l.B
    rw [valA_cons, if_pos ⟨rfl, rfl⟩, valA_above uL.1] at hl
    have l0 := pL l (by simp)
    cases M with
    | nil => rw [valA_nil] at hl; grind
    | cons m M =>
      rw [List.pairwise_cons] at uM
      have hm := h m.A m.B
      rw [valA_cons (p := m), if_pos ⟨rfl, rfl⟩, valA_above uM.1] at hm
      have m0 := pM m (by simp)
      by_cases c1 : ltk l m
      · rw [valA_none (L := m :: M)] at hl
        · grind
        · intro q hq e
          simp only [List.mem_cons] at hq
          rcases hq with rfl | hq
          · unfold ltk at c1; omega
          · have := ltk_trans c1 (uM.1 q hq); unfold ltk at this; omega
      by_cases c2 : ltk m l
      · rw [valA_none (L := l :: L)] at hm
        · grind
        · intro q hq e
          simp only [List.mem_cons] at hq
          rcases hq with rfl | hq
          · unfold ltk at c2; omega
          · have := ltk_trans c2 (uL.1 q hq); unfold ltk at this; omega
      have ek : l.A = m.A ∧ l.B = m.B := by unfold ltk at c1 c2; omega
      rw [valA_cons, if_pos ⟨ek.1.symm, ek.2.symm⟩] at hl
      have hz : valA M l.A l.B = 0 := by rw [ek.1, ek.2]; exact valA_above uM.1
      rw [hz] at hl
      have e : l = m := by
        cases l; cases m; simp only [Pq.mk.injEq]
        simp at ek hl ⊢
        exact ⟨ek.1, ek.2, by grind⟩
      subst e
      rw [ih uL.2 uM.2 (fun p hp => pL p (by simp [hp])) (fun p hp => pM p (by simp [hp])) fun A B => by
        have := h A B
        rw [valA_cons, valA_cons] at this
        grind]
def Sorted (L : List Pq) : Prop := L.Pairwise fun p q => ¬ ltk q p
theorem up_snoc {L : List Pq} {p : Pq} (h : Up L) (hp : ∀ q, L.getLast? = some q → ltk q p) : Up (L ++ [p]) := by
  unfold Up at *
  rw [List.pairwise_append]
  refine ⟨h, by simp, fun a ha b hb => ?_⟩
  simp only [List.mem_singleton] at hb; subst hb
  rcases List.eq_nil_or_concat L with rfl | ⟨M, m, rfl⟩
  · simp at ha
  · have hl := hp m (by simp)
    simp only [List.concat_eq_append] at h ha
    rw [List.pairwise_append] at h
    simp only [List.mem_append, List.mem_singleton] at ha
    rcases ha with ha | rfl
    · exact ltk_trans (h.2.2 a ha m (by simp)) hl
    · exact hl
end Go.Proofs.YtnneehniendnfaaGreat

namespace Go.Proofs.YtnneehniendnfaaGreat
open Go Go.Proofs Go.Proofs.YtnneehniendnfaaGreat.E
set_option linter.unusedSimpArgs false
set_option linter.unusedVariables false
def insAt (S : List Pq) (x : Pq) (j : Nat) (R : List Pq) : List Pq := S.take j ++ x :: (S.drop j ++ R)
theorem insAt_len {S : List Pq} {x : Pq} {j : Nat} {R : List Pq} (h : j ≤ S.length) : (insAt S x j R).length = S.length + 1 + R.length := by
  simp [insAt]; omega
theorem insAt_at {S : List Pq} {x : Pq} {j : Nat} {R : List Pq} (h : j ≤ S.length) : (insAt S x j R)[j]? = some x := by
  unfold insAt
  rw [List.getElem?_append_right (by simp; omega)]
  simp [Nat.min_eq_left h]
theorem insAt_before {S : List Pq} {x : Pq} {j : Nat} {R : List Pq} (h0 : 0 < j) (h : j ≤ S.length) : (insAt S x j R)[j - 1]? = some (S[j - 1]'(by omega)) := by
  unfold insAt
  rw [List.getElem?_append_left (by simp; omega), List.getElem?_take_of_lt (by omega), List.getElem?_eq_getElem]
theorem insAt_swap {S : List Pq} {x : Pq} {j : Nat} {R : List Pq} (h0 : 0 < j) (h : j ≤ S.length) : ((insAt S x j R).set j (S[j - 1]'(by omega))).set (j - 1) x = insAt S x (j - 1) R := by
  apply List.ext_getElem?
  intro i
  have hl : (insAt S x j R).length = S.length + 1 + R.length := insAt_len h
  rw [List.getElem?_set, List.getElem?_set]
  simp only [List.length_set, hl]
  by_cases e1 : j - 1 = i
  · subst e1
    rw [if_pos rfl, if_pos (by omega), insAt_at (by omega)]
  · rw [if_neg e1]
    by_cases e2 : j = i
    · subst e2
      rw [if_pos rfl, if_pos (by omega)]
      unfold insAt
      rw [List.getElem?_append_right (by simp; omega)]
      have e3 : j - (S.take (j - 1)).length = 1 := by simp; omega
      rw [e3, List.getElem?_cons_succ, List.drop_eq_getElem_cons (show j - 1 < S.length by omega), List.cons_append, List.getElem?_cons_zero]
    · rw [if_neg e2]
      unfold insAt
      by_cases e3 : i < j - 1
      · rw [List.getElem?_append_left (by simp; omega), List.getElem?_append_left (by simp; omega), List.getElem?_take_of_lt (by omega), List.getElem?_take_of_lt (by omega)]
      · rw [List.getElem?_append_right (by simp; omega), List.getElem?_append_right (by simp; omega)]
        have l1 : (S.take j).length = j := by simp; omega
        have l2 : (S.take (j - 1)).length = j - 1 := by simp; omega
        rw [l1, l2]
        obtain ⟨m, rfl⟩ : ∃ m, i = j + 1 + m := ⟨i - (j + 1), by omega⟩
        have e4 : j + 1 + m - j = m + 1 := by omega
        have e5 : j + 1 + m - (j - 1) = m + 1 + 1 := by omega
        rw [e4, e5, List.getElem?_cons_succ, List.getElem?_cons_succ, List.drop_eq_getElem_cons (show j - 1 < S.length by omega)]
        have e6 : j - 1 + 1 = j := by omega
        rw [e6, List.cons_append, List.getElem?_cons_succ]
theorem insAt_val (S : List Pq) (x : Pq) (j : Nat) (A B : Int) : valA (insAt S x j []) A B = valA S A B + valA [x] A B := by
  unfold insAt
  rw [List.append_nil, valA_append, valA_cons, ← List.take_append_drop j S]
  rw [valA_append, List.take_append_drop, valA_cons, valA_nil]
  grind
theorem insAt_sorted {S : List Pq} {x : Pq} {j : Nat} (hS : Sorted S) (h : j ≤ S.length) (h1 : ∀ t ∈ S.drop j, ltk x t) (h2 : j = 0 ∨ ∃ h0 : j - 1 < S.length, ¬ ltk x S[j - 1]) : Sorted (insAt S x j []) := by
  unfold insAt Sorted
  rw [List.append_nil, List.pairwise_append, List.pairwise_cons]
  have hS' := hS
  unfold Sorted at hS'
  rw [← List.take_append_drop j S, List.pairwise_append] at hS'
  have h3 : ∀ t ∈ S.take j, ¬ ltk x t := by
    intro t ht
    rcases h2 with h2 | ⟨h0, h2⟩
    · subst h2; simp at ht
    · obtain ⟨i, hi, rfl⟩ := List.getElem_of_mem ht
      rw [List.getElem_take]
      by_cases e : i = j - 1
      · subst e; exact h2
      · simp at hi
        have := List.pairwise_iff_getElem.1 hS i (j - 1) (by omega) (by omega) (by omega)
        unfold ltk at *; omega
  refine ⟨hS'.1, ⟨fun t ht => ?_, hS'.2.1⟩, fun t ht u hu => ?_⟩
  · have := h1 t ht; unfold ltk at *; omega
  · simp only [List.mem_cons] at hu
    rcases hu with rfl | hu
    · exact h3 t ht
    · exact hS'.2.2 t ht u hu
theorem insAt_mem {S : List Pq} {x : Pq} {j : Nat} {R : List Pq} {p : Pq} (h : p ∈ insAt S x j R) : p ∈ S ∨ p = x ∨ p ∈ R := by
  unfold insAt at h
  simp only [List.mem_append, List.mem_cons] at h
  rcases h with h | h | h | h
  · exact .inl (List.mem_of_mem_take h)
  · exact .inr (.inl h)
  · exact .inl (List.mem_of_mem_drop h)
  · exact .inr (.inr h)
abbrev obP (L : List Pq) : Ob := ⟨.own, 5, L.map Pq.c⟩
theorem plain_P (L : List Pq) : Plain (obP L).cells := by
  intro r hr y hy p
  obtain ⟨x, _, rfl⟩ := List.mem_map.1 hr
  exact prC_within _ y hy
section
variable {σ : Sto} {o : Nat} {L : List Pq}
set_option maxHeartbeats 4000000 in
theorem insertion_sort (hn : 0 < L.length) (hl : L.length ≤ 1000) (ho : E.look σ o = some (obP L)) (hs : Shut σ) :
    CallX Tryz.prog F.slices_insertionSortCmpFunc_Pair [.ref o 0 L.length, .int .i64 0, .int .i64 L.length, .clo F.couple_compare []] σ
      (fun v s => v = .tup [] ∧ ∃ M : List Pq, s = setOb σ o (obP M) ∧ M.length = L.length ∧ Sorted M ∧ (∀ A B, valA M A B = valA L A B) ∧ ∀ p ∈ M, p ∈ L) := by
  refine callX_by F.slices_insertionSortCmpFunc_Pair_ok ?_
  unfold F.slices_insertionSortCmpFunc_Pair_c
  simp
  rw [wrap64 (x := 1) (by omega) (by omega)]
  have hoK : (E.look σ o).isSome = true := by rw [ho]; rfl
  refine wm_loop (fun g : Nat × List Pq => (((((Sl.empty.set 8 (.int .i64 g.1)).set 3 (.clo F.couple_compare [])).set 2 (.int .i64 L.length)).set 1 (.int .i64 0)).set 0 (.ref o 0 L.length), setOb σ o (obP (g.2 ++ L.drop g.1))))
    (fun g => 1 ≤ g.1 ∧ g.1 ≤ L.length ∧ g.2.length = g.1 ∧ Sorted g.2 ∧ (∀ A B, valA g.2 A B = valA (L.take g.1) A B) ∧ ∀ p ∈ g.2, p ∈ L) (fun g => L.length - g.1) (1, L.take 1) ?_ ?_ ?_
  · refine ⟨by omega, by omega, by simp; omega, ?_, fun A B => rfl, fun p hp => List.mem_of_mem_take hp⟩
    dsimp only
    cases L with
    | nil => simp at hn
    | cons a l => simp [Sorted]
  · refine weak_gen ?_ ?_ (keep_set keys_look) ?_ (shut_set hs (plain_P _))
    · repeat (first | exact sub_empty | refine sub_set (by simp) ?_)
    · intro p x
      rw [look_setOb]
      simp only [List.take_append_drop]
      split
      · rename_i e; rw [e, ho]; exact id
      · exact id
    · repeat (first | exact sin_empty | refine sin_set (by simp [V.within]) ?_)
  rintro ⟨i, D⟩ ⟨h1, h2, h3, h4, h5, h6⟩
  dsimp only at h1 h2 h3 h4 h5 h6
  by_cases hi : i < L.length
  · simp [hi]
    generalize hx : L[i] = x
    have hdr : L.drop i = x :: L.drop (i + 1) := by rw [← hx]; exact List.drop_eq_getElem_cons hi
    have e0 : D ++ L.drop i = insAt D x i (L.drop (i + 1)) := by
      have a1 : D.take i = D := List.take_of_length_le (by omega)
      have a2 : D.drop i = [] := List.drop_eq_nil_of_le (by omega)
      unfold insAt
      rw [hdr, a1, a2, List.nil_append]
    refine wm_loop (fun j : Nat => ((((((Sl.empty.set 9 (.int .i64 j)).set 8 (.int .i64 i)).set 3 (.clo F.couple_compare [])).set 2 (.int .i64 L.length)).set 1 (.int .i64 0)).set 0 (.ref o 0 L.length), setOb σ o (obP (insAt D x j (L.drop (i + 1))))))
      (fun j => j ≤ i ∧ ∀ t ∈ D.drop j, ltk x t) (fun j => j) i ⟨by omega, fun t ht => by rw [List.drop_eq_nil_of_le (by omega)] at ht; simp at ht⟩ ?_ ?_
    · refine weak_gen ?_ ?_ (keep_set keys_look) ?_ (shut_set hs (plain_P _))
      · repeat (first | exact sub_empty | refine sub_set (by simp) ?_)
      · rw [e0]; exact Has.refl _
      · repeat (first | exact sin_empty | refine sin_set (by simp [V.within]) ?_)
    rintro j ⟨hj, ht⟩
    have hlen : (insAt D x j (L.drop (i + 1))).length = L.length := by rw [insAt_len (by omega)]; simp; omega
    have hend : (j = 0 ∨ ∃ h0 : j - 1 < D.length, ¬ ltk x D[j - 1]) → Again (σ.map (·.1)) (fun g : Nat × List Pq => (((((Sl.empty.set 8 (.int .i64 g.1)).set 3 (.clo F.couple_compare [])).set 2 (.int .i64 L.length)).set 1 (.int .i64 0)).set 0 (.ref o 0 L.length), setOb σ o (obP (g.2 ++ L.drop g.1))))
        (fun g => 1 ≤ g.1 ∧ g.1 ≤ L.length ∧ g.2.length = g.1 ∧ Sorted g.2 ∧ (∀ A B, valA g.2 A B = valA (L.take g.1) A B) ∧ ∀ p ∈ g.2, p ∈ L) (fun g => L.length - g.1) (i, D)
        (((((Sl.empty.set 8 (.int .i64 (i + 1))).set 3 (.clo F.couple_compare [])).set 2 (.int .i64 L.length)).set 1 (.int .i64 0)).set 0 (.ref o 0 L.length)) (setOb σ o (obP (insAt D x j (L.drop (i + 1))))) := by
      intro hx0
      refine ⟨(i + 1, insAt D x j []), ⟨by dsimp only; omega, by dsimp only; omega, by dsimp only; rw [insAt_len (by omega)]; simp; omega, insAt_sorted h4 (by omega) ht hx0, fun A B => ?_, fun p hp => ?_⟩, by dsimp only; omega, ?_⟩
      · dsimp only
        rw [insAt_val, h5, List.take_succ_eq_append_getElem hi, valA_append, hx]
      · rcases insAt_mem hp with hp | hp | hp
        · exact h6 p hp
        · rw [hp, ← hx]; exact List.getElem_mem hi
        · simp at hp
      · have e1 : insAt D x j [] ++ L.drop (i + 1) = insAt D x j (L.drop (i + 1)) := by simp [insAt]
        refine weak_gen ?_ ?_ (keep_set keys_look) ?_ (shut_set hs (plain_P _))
        · repeat (first | exact sub_empty | refine sub_set (by simp) ?_)
        · show Has (setOb σ o (obP (insAt D x j [] ++ L.drop (i + 1)))) _
          rw [e1]; exact Has.refl _
        · repeat (first | exact sin_empty | refine sin_set (by simp [V.within]) ?_)
    by_cases hj0 : j = 0
    · subst hj0
      simp
      rw [wrap64 (by omega) (by omega)]
      exact hend (.inl rfl)
    · have q0 : (0 : Int) < j := by omega
      have q1 : 0 < j := by omega
      have q2 : j < L.length := by omega
      have q3 : j - 1 < L.length := by omega
      have e1 : ((j : Int) - 1).toNat = j - 1 := by omega
      have g1 := insAt_at (S := D) (x := x) (R := L.drop (i + 1)) (show j ≤ D.length by omega)
      have g2 := insAt_before (S := D) (x := x) (R := L.drop (i + 1)) q1 (show j ≤ D.length by omega)
      have hdj : j - 1 < D.length := by omega
      have g3 : ∀ h, (insAt D x j (L.drop (i + 1)))[j]'h = x := fun h => by rw [List.getElem?_eq_getElem h] at g1; exact Option.some.inj g1
      have g4 : ∀ h, (insAt D x j (L.drop (i + 1)))[j - 1]'h = D[j - 1] := fun h => by rw [List.getElem?_eq_getElem h] at g2; exact Option.some.inj g2
      have hsw := insAt_swap (x := x) (R := L.drop (i + 1)) q1 (show j ≤ D.length by omega)
      simp [q0, q1, q2, q3, hlen, g3, g4]
      repeat simp (disch := omega) [wrap64, if_pos, e1, q0, q1, q2, q3, hlen, g3, g4]
      refine ⟨_, _, ⟨rfl, rfl⟩, callXK_of (couple_compare x.pr D[j - 1].pr) (by simp [toD_prC]) ?_⟩
      by_cases hc : ltk x D[j - 1]
      · have c1 := (cmp_ltk _ _).2 hc
        simp [c1]
        repeat simp (disch := omega) [wrap64, if_pos, e1, q0, q1, q2, q3, hlen, g3, g4]
        have d5 : ∀ p : Pq, List.drop 5 p.c = [] := fun _ => rfl
        have e2 : (j : Int) - 1 = ((j - 1 : Nat) : Int) := by omega
        have e3 : ((List.map Pq.c (insAt D x j (L.drop (i + 1)))).set j (prC D[j - 1].pr)).set (j - 1) (prC x.pr) = List.map Pq.c (insAt D x (j - 1) (L.drop (i + 1))) := by
          rw [← hsw, List.map_set, List.map_set]
        rw [d5, d5, List.append_nil, List.append_nil, e3, e2]
        refine ⟨j - 1, ⟨by omega, fun t ht' => ?_⟩, by dsimp only; omega, ?_⟩
        · rw [List.drop_eq_getElem_cons hdj] at ht'
          have e4 : j - 1 + 1 = j := by omega
          rw [e4] at ht'
          simp only [List.mem_cons] at ht'
          rcases ht' with rfl | ht'
          · exact hc
          · exact ht t ht'
        · refine weak_gen ?_ ?_ (keep_set keys_look) ?_ (shut_set hs (plain_P _))
          · repeat (first | exact sub_empty | refine sub_set (by simp) ?_)
          · intro p y
            simp only [look_setOb]
            split <;> exact id
          · repeat (first | exact sin_empty | refine sin_set (by simp [V.within]) ?_)
      · have c1 : ¬ cmpPr x.pr D[j - 1].pr < 0 := fun h => hc ((cmp_ltk _ _).1 h)
        simp [c1]
        rw [wrap64 (by omega) (by omega)]
        exact hend (.inr ⟨hdj, hc⟩)
  · simp [hi]
    have hil : i = L.length := by omega
    subst hil
    have e1 : D ++ L.drop L.length = D := by simp
    refine doneX_gen (r := .tup []) (l := []) (by simp) (by simp) rfl (Has.refl _) (keep_set keys_look) (shut_set hs (plain_P _)) (by simp) ⟨rfl, D, by rw [e1], h3, h4, fun A B => ?_, h6⟩
    rw [h5, List.take_length]
theorem insertion_none {n : Nat} {a : Int} (ha : 0 ≤ a ∧ a < 1000000) (ho : (E.look σ o).isSome = true) (hs : Shut σ) :
    CallX Tryz.prog F.slices_insertionSortCmpFunc_Pair [.ref o 0 n, .int .i64 a, .int .i64 a, .clo F.couple_compare []] σ (fun v s => v = .tup [] ∧ s = σ) := by
  refine callX_by F.slices_insertionSortCmpFunc_Pair_ok ?_
  unfold F.slices_insertionSortCmpFunc_Pair_c
  simp
  rw [wrap64 (by omega) (by omega)]
  refine wm_loop (fun g : Nat => (((((Sl.empty.set 8 (.int .i64 (a + 1))).set 3 (.clo F.couple_compare [])).set 2 (.int .i64 a)).set 1 (.int .i64 a)).set 0 (.ref o 0 n), σ)) (fun _ => True) (fun g => g) 0 trivial ?_ ?_
  · refine weak_gen ?_ (Has.refl _) keys_look ?_ hs
    · repeat (first | exact sub_empty | refine sub_set (by simp) ?_)
    · repeat (first | exact sin_empty | refine sin_set (by first | (simp [V.within, ho]; done) | simp) ?_)
  rintro g -
  have : ¬ a + 1 < a := by omega
  simp [this]
  exact doneX_gen (r := .tup []) (l := []) (by simp) (by simp) rfl (Has.refl _) keys_look hs (by simp) ⟨rfl, rfl⟩
set_option maxHeartbeats 4000000 in
theorem sort_stable (hn : 0 < L.length) (hl : L.length ≤ 20) (ho : E.look σ o = some (obP L)) (hs : Shut σ) :
    CallX Tryz.prog F.slices_SortStableFunc_Pair_Pair [.ref o 0 L.length, .clo F.couple_compare []] σ
      (fun v s => v = .tup [] ∧ ∃ M : List Pq, s = setOb σ o (obP M) ∧ M.length = L.length ∧ Sorted M ∧ (∀ A B, valA M A B = valA L A B) ∧ ∀ p ∈ M, p ∈ L) := by
  have inner : CallX Tryz.prog F.slices_stableCmpFunc_Pair [.ref o 0 L.length, .int .i64 L.length, .clo F.couple_compare []] σ
      (fun v s => v = .tup [] ∧ ∃ M : List Pq, s = setOb σ o (obP M) ∧ M.length = L.length ∧ Sorted M ∧ (∀ A B, valA M A B = valA L A B) ∧ ∀ p ∈ M, p ∈ L) := by
    refine callX_by F.slices_stableCmpFunc_Pair_ok ?_
    unfold F.slices_stableCmpFunc_Pair_c
    simp
    have hoK : (E.look σ o).isSome = true := by rw [ho]; rfl
    refine wm_loop (fun g : Option (List Pq) => (((((((Sl.empty.set 8 (.int .i64 (if g.isSome then 40 else 20))).set 7 (.int .i64 (if g.isSome then 20 else 0))).set 6 (.int .i64 20)).set 2 (.clo F.couple_compare [])).set 1 (.int .i64 L.length)).set 0 (.ref o 0 L.length)), match g with | some M => setOb σ o (obP M) | none => σ))
      (fun g => match g with | some M => L.length = 20 ∧ M.length = L.length ∧ Sorted M ∧ (∀ A B, valA M A B = valA L A B) ∧ ∀ p ∈ M, p ∈ L | none => True) (fun g => if g.isSome then 0 else 1) none trivial ?_ ?_
    · refine weak_gen ?_ (Has.refl _) keys_look ?_ hs
      · repeat (first | exact sub_empty | refine sub_set (by simp) ?_)
      · repeat (first | exact sin_empty | refine sin_set (by first | (simp [V.within, hoK]; done) | simp) ?_)
    intro g hg
    cases g with
    | none =>
      by_cases h20 : L.length = 20
      · have q : (20 : Int) ≤ L.length := by omega
        simp [q]
        have hins := insertion_sort hn (by omega) ho hs
        rw [show (L.length : Int) = 20 by omega] at hins
        refine callK_X hins ?_
        rintro r s ⟨rfl, M, rfl, m1, m2, m3, m4⟩
        simp
        rw [wrap64 (by omega) (by omega)]
        refine ⟨some M, ⟨h20, m1, m2, m3, m4⟩, by simp, ?_⟩
        refine weak_gen ?_ (Has.refl _) (keep_set keys_look) ?_ (shut_set hs (plain_P _))
        · repeat (first | exact sub_empty | refine sub_set (by simp) ?_)
        · repeat (first | exact sin_empty | refine sin_set (by simp [V.within]) ?_)
      · have q : ¬ (20 : Int) ≤ L.length := by omega
        simp [q]
        refine callK_X (insertion_sort hn (by omega) ho hs) ?_
        rintro r s ⟨rfl, M, rfl, m1, m2, m3, m4⟩
        simp
        refine wm_loop (fun g : Nat => ((((Sl.empty.set 6 (.int .i64 20)).set 2 (.clo F.couple_compare [])).set 1 (.int .i64 L.length)).set 0 (.ref o 0 L.length), setOb σ o (obP M))) (fun _ => True) (fun g => g) 0 trivial ?_ ?_
        · refine weak_gen ?_ (Has.refl _) (keep_set keys_look) ?_ (shut_set hs (plain_P _))
          · repeat (first | exact sub_empty | refine sub_set (by simp) ?_)
          · repeat (first | exact sin_empty | refine sin_set (by simp [V.within]) ?_)
        rintro g -
        have : ¬ (20 : Int) < L.length := by omega
        simp [this]
        exact doneX_gen (r := .tup []) (l := []) (by simp) (by simp) rfl (Has.refl _) (keep_set keys_look) (shut_set hs (plain_P _)) (by simp) ⟨rfl, M, rfl, m1, m2, m3, m4⟩
    | some M =>
      dsimp only at hg
      have q : ¬ (40 : Int) ≤ L.length := by omega
      obtain ⟨h20, m1, m2, m3, m4⟩ := hg
      simp [q]
      have hins := insertion_none (σ := setOb σ o (obP M)) (o := o) (n := L.length) (a := 20) (by omega) (by simp) (shut_set hs (plain_P _))
      rw [show (L.length : Int) = 20 by omega]
      refine callK_X hins ?_
      rintro r s ⟨rfl, rfl⟩
      simp
      rw [show (20 : Int) = L.length by omega]
      refine wm_loop (fun g : Nat => ((((Sl.empty.set 6 (.int .i64 L.length)).set 2 (.clo F.couple_compare [])).set 1 (.int .i64 L.length)).set 0 (.ref o 0 L.length), setOb σ o (obP M))) (fun _ => True) (fun g => g) 0 trivial ?_ ?_
      · refine weak_gen ?_ (Has.refl _) (keep_set keys_look) ?_ (shut_set hs (plain_P _))
        · repeat (first | exact sub_empty | refine sub_set (by simp) ?_)
        · repeat (first | exact sin_empty | refine sin_set (by simp [V.within]) ?_)
      rintro g -
      have : ¬ (20 : Int) < L.length := by omega
      simp [this]
      exact doneX_gen (r := .tup []) (l := []) (by simp) (by simp) rfl (Has.refl _) (keep_set keys_look) (shut_set hs (plain_P _)) (by simp) ⟨rfl, M, rfl, m1, m2, m3, m4⟩
  refine callX_by F.slices_SortStableFunc_Pair_Pair_ok ?_
  unfold F.slices_SortStableFunc_Pair_Pair_c
  simp
  refine callK_X inner ?_
  rintro r s ⟨rfl, M, rfl, h1, h2, h3, h4⟩
  simp
  exact doneX_gen (r := .tup []) (l := []) (by simp) (by simp) rfl (Has.refl _) (keep_set keys_look) (shut_set hs (plain_P _)) (by simp) ⟨rfl, M, rfl, h1, h2, h3, h4⟩
end
end Go.Proofs.YtnneehniendnfaaGreat

namespace Go.Proofs.YtnneehniendnfaaGreat
open Go Go.Proofs Go.Proofs.YtnneehniendnfaaGreat.E
set_option linter.unusedSimpArgs false
set_option linter.unusedVariables false
def gathStore (σ : Sto) (o : Nat) (M : List Pq) (q : Nat) (G : List Pq) : Sto := if G = [] then setOb σ o (obP M) else setOb (setOb σ o (obP M)) q (obP G)
theorem gathStore_nil (σ : Sto) (o : Nat) (M : List Pq) (q : Nat) : gathStore σ o M q [] = setOb σ o (obP M) := rfl
theorem gathStore_pos {σ : Sto} {o : Nat} {M : List Pq} {q : Nat} {G : List Pq} (h : G ≠ []) : gathStore σ o M q G = setOb (setOb σ o (obP M)) q (obP G) := if_neg h
theorem gathStore_shut {σ : Sto} (hs : Shut σ) (o : Nat) (M : List Pq) (q : Nat) (G : List Pq) : Shut (gathStore σ o M q G) := by
  unfold gathStore; split
  · exact shut_set hs (plain_P _)
  · exact shut_set (shut_set hs (plain_P _)) (plain_P _)
theorem gathStore_keep (σ : Sto) (o : Nat) (M : List Pq) (q : Nat) (G : List Pq) : ∀ k ∈ σ.map (·.1), (E.look (gathStore σ o M q G) k).isSome = true := by
  unfold gathStore; split
  · exact keep_set keys_look
  · exact keep_set (keep_set keys_look)
theorem gath_o {σ : Sto} {o : Nat} {M : List Pq} {q : Nat} {G : List Pq} : (E.look (gathStore σ o M q G) o).isSome = true := by
  unfold gathStore; split
  · simp
  · rw [look_setOb]; split <;> simp
theorem gath_q {σ : Sto} {o : Nat} {M : List Pq} {q : Nat} {G : List Pq} (h : G ≠ []) : (E.look (gathStore σ o M q G) q).isSome = true := by
  rw [gathStore_pos h]; simp
structure GInv (σ : Sto) (K : Nat) (M : List Pq) (q i : Nat) (G : List Pq) : Prop where
  le : i ≤ M.length
  up : Up G
  val : ∀ A B, valA G A B = valA (M.take i) A B
  pos : ∀ p ∈ G, 0 < p.q
  fit : ∀ p ∈ G, Fits p.q (i * (K + 1))
  low : ∀ l ∈ G, ∀ t (ht : t < M.length), i ≤ t → ¬ ltk M[t] l
  len : G.length ≤ i
  new : fresh σ ≤ q
  ne : 0 < i → G ≠ []
theorem GInv.app {σ : Sto} {K : Nat} {M : List Pq} {q q' i : Nat} {G : List Pq} (h : GInv σ K M q i G) (hi : i < M.length) (hs : Sorted M) (hp : 0 < M[i].q) (hf : Fits M[i].q K) (hk : ∀ l, G.getLast? = some l → ¬ (l.A = M[i].A ∧ l.B = M[i].B)) (hq : q ≤ q') : GInv σ K M q' (i + 1) (G ++ [M[i]]) := by
  refine ⟨hi, up_snoc h.up fun l hl => ?_, fun A B => ?_, fun p hp' => ?_, fun p hp' => ?_, fun l hl t ht hit => ?_, by have := h.len; simp; exact this, Nat.le_trans h.new hq, fun _ => by simp⟩
  · have h1 := h.low l (List.mem_of_getLast? hl) i hi (Nat.le_refl _)
    have h2 := hk l hl
    unfold ltk at *; omega
  · rw [valA_append, h.val, List.take_succ_eq_append_getElem hi, valA_append]
  · simp only [List.mem_append, List.mem_singleton] at hp'
    rcases hp' with hp' | rfl
    · exact h.pos p hp'
    · exact hp
  · simp only [List.mem_append, List.mem_singleton] at hp'
    rcases hp' with hp' | rfl
    · exact (h.fit p hp').mono (Nat.mul_le_mul_right _ (by omega))
    · exact hf.mono (by rw [Nat.succ_mul]; omega)
  · simp only [List.mem_append, List.mem_singleton] at hl
    rcases hl with hl | rfl
    · exact h.low l hl t ht (by omega)
    · exact List.pairwise_iff_getElem.1 hs i t hi ht (by omega)
theorem GInv.add {σ : Sto} {K : Nat} {M : List Pq} {q i : Nat} {I : List Pq} {l : Pq} (h : GInv σ K M q i (I ++ [l])) (hi : i < M.length) (hs : Sorted M) (hp : 0 < M[i].q) (hf : Fits M[i].q K) (hk : l.A = M[i].A ∧ l.B = M[i].B) : GInv σ K M q (i + 1) (I ++ [⟨l.A, l.B, l.q + M[i].q⟩]) := by
  refine ⟨hi, ?_, fun A B => ?_, fun p hp' => ?_, fun p hp' => ?_, fun m hm t ht hit => ?_, by have := h.len; simp at this ⊢; omega, h.new, fun _ => by simp⟩
  · have hu := h.up
    unfold Up at hu ⊢
    rw [List.pairwise_append] at hu ⊢
    refine ⟨hu.1, by simp, fun a ha b hb => ?_⟩
    simp only [List.mem_singleton] at hb; subst hb
    exact hu.2.2 a ha l (by simp)
  · have hv := h.val A B
    have e0 : valA (M.take (i + 1)) A B = valA (M.take i) A B + valA [M[i]] A B := by rw [List.take_succ_eq_append_getElem hi, valA_append]
    rw [e0, ← hv, valA_append, valA_append, valA_cons, valA_cons, valA_cons, valA_nil]
    by_cases e : l.A = A ∧ l.B = B
    · have e2 : M[i].A = A ∧ M[i].B = B := by omega
      rw [if_pos e, if_pos e, if_pos e2]; grind
    · have e2 : ¬ (M[i].A = A ∧ M[i].B = B) := by omega
      rw [if_neg e, if_neg e, if_neg e2]; grind
  · simp only [List.mem_append, List.mem_singleton] at hp'
    rcases hp' with hp' | rfl
    · exact h.pos p (by simp [hp'])
    · have := h.pos l (by simp)
      show 0 < l.q + M[i].q
      grind
  · simp only [List.mem_append, List.mem_singleton] at hp'
    rcases hp' with hp' | rfl
    · exact (h.fit p (by simp [hp'])).mono (Nat.mul_le_mul_right _ (by omega))
    · exact (fits_add (h.fit l (by simp)) hf).mono (by rw [Nat.succ_mul]; omega)
  · simp only [List.mem_append, List.mem_singleton] at hm
    rcases hm with hm | rfl
    · exact h.low m (by simp [hm]) t ht (by omega)
    · have h1 := h.low l (by simp) t ht (by omega)
      unfold ltk at *; simpa using h1
theorem P_set_last (I : List Pq) (l : Pq) (x : List V) : ((I ++ [l]).map Pq.c).set I.length x = I.map Pq.c ++ [x] := by
  rw [List.map_append, List.set_append_right _ _ (by simp)]; simp
section
variable {σ : Sto} {o : Nat} {L : List Pq} {K : Nat}
set_option maxHeartbeats 8000000 in
theorem couple_gathered (hn : 0 < L.length) (hl : L.length ≤ 20) (hK : K ≤ 50000000) (hf : ∀ p ∈ L, 0 < p.q ∧ Fits p.q K) (ho : E.look σ o = some (obP L)) (hs : Shut σ) :
    CallX Tryz.prog F.couple_gathered [.ref o 0 L.length] σ
      (fun v s => ∃ q G, v = .ref q 0 G.length ∧ G ≠ [] ∧ E.look s q = some (obP G) ∧ Up G ∧ (∀ A B, valA G A B = valA L A B) ∧ (∀ p ∈ G, 0 < p.q) ∧ G.length ≤ 20) := by
  have hoN := lt_fresh ho
  refine callX_by F.couple_gathered_ok ?_
  unfold F.couple_gathered_c
  simp
  refine callK_X (sort_stable hn hl ho hs) ?_
  rintro r s ⟨rfl, M, rfl, m1, m2, m3, m4⟩
  have hf' : ∀ p ∈ M, 0 < p.q ∧ Fits p.q K := fun p hp => hf p (m4 p hp)
  have hnM : 0 < M.length := by omega
  have hlM : M.length ≤ 20 := by omega
  rw [← m1]
  clear hn hl
  generalize hN : fresh σ = N at *
  simp
  refine wm_loop (fun g : Nat × Nat × List Pq => ((((Sl.empty.set 11 (.int .i64 g.1)).set 10 (.int .i64 M.length)).set 9 (.ref o 0 M.length)).set 3 (grown g.2.1 g.2.2.length), gathStore σ o M g.2.1 g.2.2))
    (fun g => GInv σ K M g.2.1 g.1 g.2.2) (fun g => M.length - g.1) (0, N, []) ?_ ?_ ?_
  · exact ⟨by omega, by simp [Up], fun A B => rfl, by simp, by simp, by simp, by simp, by dsimp only; omega, fun h => absurd h (Nat.lt_irrefl _)⟩
  · refine weak_gen (σ1 := gathStore σ o M N []) ?_ (Has.refl _) (gathStore_keep _ _ _ _ _) ?_ (gathStore_shut hs _ _ _ _)
    · simp only [List.length_nil, grown_zero]
      repeat (first | exact sub_empty | refine sub_set (by simp) ?_)
    · simp only [List.length_nil, grown_zero]
      repeat (first | exact sin_empty | refine sin_set (by first | (simp only [V.within]; exact gath_o) | (simp only [V.within]; exact gath_q (by simp)) | simp) ?_)
  rintro ⟨i, q, G⟩ ⟨h1, h2, h3, h4, h5, h6, h7, h8, h9⟩
  dsimp only at h1 h2 h3 h4 h5 h6 h7 h8 h9
  rw [hN] at h8
  by_cases hi : i < M.length
  · have hmi := hf' _ (List.getElem_mem hi)
    by_cases hG : G = []
    · subst hG
      have hi0 : i = 0 := Nat.eq_zero_of_not_pos fun h => h9 h rfl
      subst hi0
      simp (disch := omega) [hi, gathStore_nil, grown_zero, fresh_set, hN, Nat.max_eq_left, Nat.max_eq_right, if_neg, if_pos]
      rw [wrap64 (x := -1) (by omega) (by omega)]
      simp (disch := omega) [fresh_set, hN, Nat.max_eq_left, Nat.max_eq_right, if_neg, if_pos]
      rw [wrap64 (by omega) (by omega)]
      have inv := GInv.app (q' := N + 2) ⟨h1, h2, h3, h4, h5, h6, h7, by rw [hN]; omega, h9⟩ hi m2 hmi.1 hmi.2 (fun l hl => by simp at hl) (q := N) (by omega)
      refine ⟨(1, N + 2, [M[0]]), inv, by dsimp only; omega, ?_⟩
      refine weak_gen (σ1 := gathStore σ o M (N + 2) [M[0]]) ?_ ?_ (gathStore_keep _ _ _ _ _) ?_ (gathStore_shut hs _ _ _ _)
      · simp only [List.length_singleton, grown_pos (show 1 ≠ 0 by omega)]
        repeat (first | exact sub_empty | refine sub_set (by simp) ?_)
      · intro p x
        rw [gathStore_pos (by simp)]
        simp only [look_setOb]
        have hnew : ∀ k, N ≤ k → E.look σ k = none := fun k hk => look_fresh σ k (by rw [hN]; exact hk)
        by_cases a1 : p = N + 2
        · subst a1; simp [obP]
        · by_cases a2 : p = o
          · subst a2; simp (disch := omega) [if_neg, obP]
          · intro hp
            rw [if_neg a1, if_neg a2] at hp
            have : p < N := Nat.lt_of_not_le fun hle => by rw [hnew p hle] at hp; simp at hp
            simp (disch := omega) [if_neg, a2, hp]
      · simp only [List.length_singleton, grown_pos (show 1 ≠ 0 by omega)]
        repeat (first | exact sin_empty | refine sin_set (by first | (simp only [V.within]; exact gath_o) | (simp only [V.within]; exact gath_q (by simp)) | simp) ?_)
    · have hg0 : G.length ≠ 0 := fun h => hG (List.length_eq_zero_iff.1 h)
      have hgl : G.length - 1 < G.length := by omega
      have e1 : ((G.length : Int) - 1).toNat = G.length - 1 := by omega
      have q0 : (0 : Int) ≤ (G.length : Int) - 1 := by omega
      have q1 : (1 : Int) ≤ G.length := by omega
      simp (disch := omega) [hi, gathStore_pos hG, grown_pos hg0, fresh_set, hN, Nat.max_eq_left, Nat.max_eq_right, if_neg, if_pos]
      rw [wrap64 (x := (G.length : Int) - 1) (by omega) (by omega)]
      simp (disch := omega) [q0, q1, e1, hgl, fresh_set, hN, Nat.max_eq_left, Nat.max_eq_right, if_neg, if_pos]
      refine callFK_of (couple_compare G[G.length - 1].pr M[i].pr) (by simp [toD_prC]) ?_
      by_cases hz : cmpPr G[G.length - 1].pr M[i].pr = 0
      · simp (disch := omega) [hz, q0, q1, e1, hgl, fresh_set, hN, Nat.max_eq_left, Nat.max_eq_right, if_neg, if_pos]
        have lim : i * (K + 1) ≤ 20 * 50000001 := Nat.mul_le_mul (by omega) (by omega)
        have okl : (rawOf G[G.length - 1].q).Ok (2 ^ 31) := rawOf_ok ((h5 _ (List.getElem_mem hgl)).mono (by omega))
        have okm : (rawOf M[i].q).Ok (2 ^ 31) := rawOf_ok (hmi.2.mono (by omega))
        refine callFK_of (ratio_Add okl okm) (by simp [toD_rawc, raw_v, Pq.pr]) ?_
        simp (disch := omega) [ratV, raw_v, rawOf_q, q0, q1, e1, hgl, fresh_set, hN, Nat.max_eq_left, Nat.max_eq_right, if_neg, if_pos]
        rw [wrap64 (by omega) (by omega)]
        rcases List.eq_nil_or_concat G with hg | ⟨I, l, hg⟩
        · exact (hG hg).elim
        rw [List.concat_eq_append] at hg
        subst hg
        have eL : ∀ hh, (I ++ [l])[(I ++ [l]).length - 1]'hh = l := fun hh => by simp
        have eN : (I ++ [l]).length - 1 = I.length := by simp
        have hkey : l.A = M[i].A ∧ l.B = M[i].B := by
          have := (cmp_zero _ _).1 hz
          rwa [eL] at this
        have erow : List.take 2 l.c ++ ((rawOf (l.q + M[i].q)).c ++ List.drop 5 l.c) = Pq.c ⟨l.A, l.B, l.q + M[i].q⟩ := rfl
        have inv := GInv.add ⟨h1, h2, h3, h4, h5, h6, h7, by rw [hN]; exact h8, h9⟩ hi m2 hmi.1 hmi.2 hkey
        rw [eL, erow, eN, P_set_last]
        refine ⟨(i + 1, q, I ++ [⟨l.A, l.B, l.q + M[i].q⟩]), inv, by dsimp only; omega, ?_⟩
        have hGM : I ++ [(⟨l.A, l.B, l.q + M[i].q⟩ : Pq)] ≠ [] := by simp
        have hGl : (I ++ [(⟨l.A, l.B, l.q + M[i].q⟩ : Pq)]).length = (I ++ [l]).length := by simp
        refine weak_gen (σ1 := gathStore σ o M q (I ++ [⟨l.A, l.B, l.q + M[i].q⟩])) ?_ ?_ (gathStore_keep _ _ _ _ _) ?_ (gathStore_shut hs _ _ _ _)
        · simp only [hGl, grown_pos hg0]
          repeat (first | exact sub_empty | refine sub_set (by simp) ?_)
        · intro p x
          rw [gathStore_pos hGM]
          simp only [look_setOb]
          have hnew : ∀ k, N ≤ k → E.look σ k = none := fun k hk => look_fresh σ k (by rw [hN]; exact hk)
          by_cases a1 : p = q
          · subst a1; simp [obP]
          · by_cases a2 : p = o
            · subst a2; simp (disch := omega) [if_neg, obP]
            · intro hp
              rw [if_neg a1, if_neg a2] at hp
              have : p < N := Nat.lt_of_not_le fun hle => by rw [hnew p hle] at hp; simp at hp
              simp (disch := omega) [if_neg, a2, hp]
        · simp only [hGl, grown_pos hg0]
          repeat (first | exact sin_empty | refine sin_set (by first | (simp only [V.within]; exact gath_o) | (simp only [V.within]; exact gath_q hGM) | simp) ?_)
      · simp (disch := omega) [hz, q0, q1, e1, hgl, fresh_set, hN, Nat.max_eq_left, Nat.max_eq_right, if_neg, if_pos]
        rw [wrap64 (by omega) (by omega)]
        have inv := GInv.app (q' := q + 3) ⟨h1, h2, h3, h4, h5, h6, h7, by rw [hN]; exact h8, h9⟩ hi m2 hmi.1 hmi.2 (fun l hl => by
          rw [List.getLast?_eq_getElem?, List.getElem?_eq_getElem hgl] at hl
          injection hl with hl
          rw [← hl]
          exact fun h => hz ((cmp_zero _ _).2 h)) (by omega)
        have hGM : G ++ [M[i]] ≠ [] := by simp
        have hGl : (G ++ [M[i]]).length = G.length + 1 := by simp
        refine ⟨(i + 1, q + 3, G ++ [M[i]]), inv, by dsimp only; omega, ?_⟩
        refine weak_gen (σ1 := gathStore σ o M (q + 3) (G ++ [M[i]])) ?_ ?_ (gathStore_keep _ _ _ _ _) ?_ (gathStore_shut hs _ _ _ _)
        · simp only [hGl, grown_pos (show G.length + 1 ≠ 0 by omega)]
          repeat (first | exact sub_empty | refine sub_set (by simp) ?_)
        · intro p x
          rw [gathStore_pos hGM]
          simp only [look_setOb]
          have hnew : ∀ k, N ≤ k → E.look σ k = none := fun k hk => look_fresh σ k (by rw [hN]; exact hk)
          by_cases a1 : p = q + 3
          · subst a1; simp [obP]
          · by_cases a2 : p = o
            · subst a2; simp (disch := omega) [if_neg, obP]
            · intro hp
              rw [if_neg a1, if_neg a2] at hp
              have : p < N := Nat.lt_of_not_le fun hle => by rw [hnew p hle] at hp; simp at hp
              simp (disch := omega) [if_neg, a2, hp]
        · simp only [hGl, grown_pos (show G.length + 1 ≠ 0 by omega)]
          repeat (first | exact sin_empty | refine sin_set (by first | (simp only [V.within]; exact gath_o) | (simp only [V.within]; exact gath_q hGM) | simp) ?_)
  · have hil : i = M.length := by omega
    subst hil
    have hG : G ≠ [] := h9 hnM
    have hg0 : G.length ≠ 0 := fun h => hG (List.length_eq_zero_iff.1 h)
    simp [hi, gathStore_pos hG, grown_pos hg0]
    refine doneX_gen (r := .ref q 0 G.length) (l := [.ref q 0 G.length]) (by simp) (by simp) rfl (Has.refl _) (keep_set (keep_set keys_look)) (shut_set (shut_set hs (plain_P _)) (plain_P _)) (by simp [V.within]) ⟨q, G, rfl, hG, by simp, h2, fun A B => ?_, h4, by omega⟩
    rw [h3, List.take_length, m3]
end
end Go.Proofs.YtnneehniendnfaaGreat
