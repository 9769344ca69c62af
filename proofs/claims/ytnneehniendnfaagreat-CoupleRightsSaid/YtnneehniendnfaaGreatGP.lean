/- Joined texts: CCou3, CCou4. -/
import Derived.Test.YtnneehniendnfaaGreatGO
/- Couplings, by contract: is it a coupling? The program's side. -/
namespace Go.Proofs.YtnneehniendnfaaGreat
open Go Go.Proofs Go.Proofs.YtnneehniendnfaaGreat.E
set_option linter.unusedSimpArgs false
set_option linter.unusedVariables false

theorem cmp_Or (x y : Int) : CallD Tryz.prog F.cmp_Or_int [.dat [[.int .i64 x], [.int .i64 y]]] (· = .int .i64 (orI x y)) := by
  refine callD_by F.cmp_Or_int_ok ?_
  unfold F.cmp_Or_int_c orI
  simp
  refine wm_loop (fun g : Nat => ((((Sl.empty.set 8 (.int .i64 g)).set 7 (.int .i64 2)).set 6 (.dat [[.int .i64 x], [.int .i64 y]])).set 3 (.int .i64 0), [])) (fun g => g ≤ 2 ∧ (0 < g → x = 0) ∧ (1 < g → y = 0)) (fun g => 2 - g) 0 ⟨by omega, by omega, by omega⟩ ?_ ?_
  · exact weak_p (by repeat (first | exact sub_empty | refine sub_set (by simp) ?_)) (by repeat (first | exact sin_empty | refine sin_set (by simp) ?_))
  rintro i ⟨hi, hx, hy⟩
  match i, hi with
  | 0, _ =>
    by_cases h : x = 0
    · simp [h]
      rw [wrap64 (by omega) (by omega)]
      refine ⟨1, ⟨by omega, by omega⟩, by dsimp only; omega, ?_⟩
      exact weak_p (by repeat (first | exact sub_empty | refine sub_set (by simp) ?_)) (by repeat (first | exact sin_empty | refine sin_set (by simp) ?_))
    · simp [h]
  | 1, _ =>
    have := hx (by omega)
    subst this
    by_cases h : y = 0
    · simp [h]
      rw [wrap64 (by omega) (by omega)]
      refine ⟨2, by omega, by dsimp only; omega, ?_⟩
      exact weak_p (by repeat (first | exact sub_empty | refine sub_set (by simp) ?_)) (by repeat (first | exact sin_empty | refine sin_set (by simp) ?_))
    · simp [h]
  | 2, _ =>
    have h1 := hx (by omega)
    have h2 := hy (by omega)
    subst h1; subst h2
    simp

theorem E.toD_ref {σ : Sto} {o n k es : Nat} {st : St} {l : List (List V)} (h : E.look σ o = some ⟨st, es, l⟩) (hs : st ≠ .dead) (he : es ≠ 0) (hl : l.length = n) (h0 : n ≠ 0) (hd : ∀ r ∈ l, mapO (toD σ k) r = some r) : toD σ (k + 1) (.ref o 0 n) = some (.dat l) := by
  rw [← grown_pos h0]; exact toD_grown (fun _ => h) hs he hl hd

theorem E.toD_clo0 (σ : Sto) (f : Nat) : toD σ 12 (.clo f []) = some (.clo f []) := (rfl)

theorem couple_compare (p q : Pr) : CallD Tryz.prog F.couple_compare [.agg (prC p), .agg (prC q)] (· = .int .i64 (cmpPr p q)) := by
  refine callD_by F.couple_compare_ok ?_
  unfold F.couple_compare_c cmpPr
  simp [setOb, List.filter_cons]
  refine callFK_of (cmp_Compare p.A q.A) (by simp) ?_
  simp
  refine callFK_of (cmp_Compare p.B q.B) (by simp) ?_
  simp [setOb, List.filter_cons]
  refine callFK_of (cmp_Or (cmpI p.A q.A) (cmpI p.B q.B)) ?_ ?_
  · simp
    rw [E.toD_ref (k := 11) (st := .own) (es := 1) (l := [[.int .i64 (cmpI p.A q.A)], [.int .i64 (cmpI p.B q.B)]]) (by simp [E.look]) (by simp) (by simp) (by simp) (by simp) (by simp)]
  simp

set_option maxHeartbeats 4000000 in
theorem couple_Couples {a b : List Part} {ps : List Pr} (ha : a.length ≤ 1000) (hb : b.length ≤ 1000) (hp : ps.length ≤ 1000) (oa : ∀ p ∈ a, p.Ok 1000000) (ob : ∀ p ∈ b, p.Ok 1000000) (op : ∀ p ∈ ps, p.w.Ok 1000000) :
    CallD Tryz.prog F.couple_Couples [pl a, pl b, prl ps] (· = .bool (couplesP a b ps)) := by
  refine callD_by F.couple_Couples_ok ?_
  unfold F.couple_Couples_c couplesP
  simp
  refine callK_of (couple_Right (by omega) oa) (by simp) ?_
  cases hra : rightP a with
  | false => simp
  | true =>
  simp
  refine callK_of (couple_Right (by omega) ob) (by simp) ?_
  cases hrb : rightP b with
  | false => simp
  | true =>
  have na : a.length ≠ 0 := by
    intro h; have : a = [] := List.length_eq_zero_iff.1 h
    subst this; simp [rightP, sumQ] at hra
  have nb : b.length ≠ 0 := by
    intro h; have : b = [] := List.length_eq_zero_iff.1 h
    subst this; simp [rightP, sumQ] at hrb
  have na' : a ≠ [] := fun h => na (by simp [h])
  have nb' : b ≠ [] := fun h => nb (by simp [h])
  simp
  refine callK_X (couple_weights (by omega) oa) ?_
  rintro r s ⟨rfl, rfl⟩
  simp [took, na', grown_pos na]
  refine callK_X (couple_weights (by omega) ob) ?_
  rintro r s ⟨rfl, rfl⟩
  simp [took, na', nb', grown_pos nb, setOb, List.filter_cons]
  rw [rowsOf_nil a Pr.A, rowsOf_nil b Pr.B]
  refine wm_loop (fun g : Nat => ((((((((Sl.empty.set 25 (.int .i64 g)).set 24 (.int .i64 ps.length)).set 23 (prl ps)).set 8 (.ref 1 0 b.length)).set 7 (.ref 0 0 a.length)).set 2 (prl ps)).set 1 (pl b)).set 0 (pl a), [(0, ⟨.own, 3, (rowsOf a Pr.A (ps.take g)).map Raw.c⟩), (1, ⟨.own, 3, (rowsOf b Pr.B (ps.take g)).map Raw.c⟩)]))
    (fun g => g ≤ ps.length ∧ ∀ j, j < g → okAt a.length b.length ps j = true) (fun g => ps.length - g) 0 ⟨by omega, fun j h => by omega⟩ ?_ ?_
  · refine weak_obs ?_ (by simp) (by repeat (first | exact sin_empty | refine sin_set (by simp) ?_)) ?_
    · repeat (first | exact sub_empty | refine sub_set (by simp) ?_)
    · simp
      refine ⟨fun x hx y hy => rawc_within _ y hy, fun x hx y hy => rawc_within _ y hy⟩
  rintro i ⟨hi, hb⟩
  by_cases h1 : i < ps.length
  · have okw : ps[i].w.Ok (2 ^ 33) := ⟨(op _ (List.getElem_mem h1)).dn, (op _ (List.getElem_mem h1)).dd, Nat.le_trans (op _ (List.getElem_mem h1)).ln (by omega), Nat.le_trans (op _ (List.getElem_mem h1)).ld (by omega)⟩
    have okw' : ps[i].w.Ok (2 ^ 31) := ⟨(op _ (List.getElem_mem h1)).dn, (op _ (List.getElem_mem h1)).dd, Nat.le_trans (op _ (List.getElem_mem h1)).ln (by omega), Nat.le_trans (op _ (List.getElem_mem h1)).ld (by omega)⟩
    have hpa := okAt_eq (a := a.length) (b := b.length) h1
    have bad : okAt a.length b.length ps i = false → (List.range ps.length).all (okAt a.length b.length ps) = false := fun h => by
      rw [List.all_eq_false]; exact ⟨i, by simpa using h1, by simp [h]⟩
    simp [h1, setOb, List.filter_cons]
    have vb : ¬ (0 ≤ ps[i].A ∧ ps[i].A < a.length ∧ 0 ≤ ps[i].B ∧ ps[i].B < b.length) → (List.range ps.length).all (okAt a.length b.length ps) = false := fun h => bad (by rw [hpa, decide_eq_false h]; rfl)
    refine Classical.byCases (p := i = 0) (fun h0 => ?_) (fun h0 => ?_)
    · have h0' : ¬ 0 < i := by omega
      have hord : ordB ps i = true := by rw [h0]; rfl
      simp [h0']
      by_cases hA0 : ps[i].A < 0
      · simp [vb (by omega), hA0]
      by_cases hA1 : (a.length : Int) ≤ ps[i].A
      · simp [vb (by omega), hA0, hA1]
      by_cases hB0 : ps[i].B < 0
      · simp [vb (by omega), hA0, hA1, hB0]
      by_cases hB1 : (b.length : Int) ≤ ps[i].B
      · simp [vb (by omega), hA0, hA1, hB0, hB1]
      simp [hA0, hA1, hB0, hB1]
      refine callFK_of (ratio_Right okw) (by simp [toD_rawc, raw_v]) ?_
      cases hr : ps[i].w.right with
      | false => simp [bad (by rw [hpa, hr]; simp)]
      | true =>
      simp
      refine callFK_of (ratio_Sign okw) (by simp [toD_rawc, raw_v]) ?_
      by_cases hq : ¬ 0 < ps[i].w.q
      · have h2 := sgnR_pos_iff.2 hq
        simp [bad (by rw [hpa]; simp [hq]), h2]
      have hq := Decidable.not_not.1 hq
      have h2 : ¬ sgnR ps[i].w.q ≤ 0 := fun h => sgnR_pos_iff.1 h hq
      obtain ⟨A, eA⟩ : ∃ A : Nat, ps[i].A = A := ⟨ps[i].A.toNat, by omega⟩
      obtain ⟨B, eB⟩ : ∃ B : Nat, ps[i].B = B := ⟨ps[i].B.toNat, by omega⟩
      have lA : A < a.length := by omega
      have lB : B < b.length := by omega
      simp [h2, eA, eB, lA, lB, setOb, List.filter_cons]
      refine callFK_of (ratio_Sub (rawOf_ok (left_fits (f := Pr.A) oa op hp A hi)) okw') (by simp [toD_rawc, raw_v]) ?_
      simp [ratV, raw_v, rawOf_q, eA, eB, lA, lB, setOb, List.filter_cons]
      refine callFK_of (ratio_Sub (rawOf_ok (left_fits (f := Pr.B) ob op hp B hi)) okw') (by simp [toD_rawc, raw_v]) ?_
      simp [ratV, raw_v, rawOf_q, eA, eB, lA, lB, setOb, List.filter_cons, offs, V.off]
      have eb : (List.map Raw.c (rowsOf b Pr.B (List.take i ps))).set B (rawOf (left b Pr.B (List.take i ps) B - ps[i].w.q)).c = List.map Raw.c (rowsOf b Pr.B (List.take (i + 1) ps)) := by
        rw [rowsOf_snoc h1 eB, List.map_set]
      have ea : (List.map Raw.c (rowsOf a Pr.A (List.take i ps))).set A (rawOf (left a Pr.A (List.take i ps) A - ps[i].w.q)).c = List.map Raw.c (rowsOf a Pr.A (List.take (i + 1) ps)) := by
        rw [rowsOf_snoc h1 eA, List.map_set]
      rw [ea, eb, wrap64 (by omega) (by omega)]
      refine ⟨i + 1, ⟨h1, fun j hj => ?_⟩, by dsimp only; omega, ?_⟩
      · by_cases e : j = i
        · rw [e, hpa, decide_eq_true (show 0 ≤ ps[i].A ∧ ps[i].A < a.length ∧ 0 ≤ ps[i].B ∧ ps[i].B < b.length by omega), hr, hord, decide_eq_true hq]; rfl
        · exact hb j (by omega)
      · refine weak_obs ?_ (by simp) (by repeat (first | exact sin_empty | refine sin_set (by simp) ?_)) ?_
        · repeat (first | exact sub_empty | refine sub_set (by simp) ?_)
        · simp
          refine ⟨fun x hx y hy => rawc_within _ y hy, fun x hx y hy => rawc_within _ y hy⟩
    · have h0'' : 0 < i := by omega
      have hi1 : i - 1 < ps.length := by omega
      have e1 : ((i : Int) - 1).toNat = i - 1 := by omega
      have h0' : (0 : Int) < i := by omega
      simp [h0, h0', h0'']
      repeat simp (disch := omega) [wrap64, if_pos, e1]
      refine callFK_of (couple_compare (ps[i - 1]'hi1) ps[i]) (by simp [toD_prC]) ?_
      by_cases hc : ¬ cmpPr (ps[i - 1]'hi1) ps[i] < 0
      · have hc' : 0 ≤ cmpPr (ps[i - 1]'hi1) ps[i] := by omega
        have := bad (by rw [hpa, ordB_pos h1 h0]; simp [hc])
        simp [this, hc']
      have hc := Decidable.not_not.1 hc
      have hc' : ¬ 0 ≤ cmpPr (ps[i - 1]'hi1) ps[i] := by omega
      have hord : ordB ps i = true := by rw [ordB_pos h1 h0]; simp [hc]
      simp [hc']
      by_cases hA0 : ps[i].A < 0
      · simp [vb (by omega), hA0]
      by_cases hA1 : (a.length : Int) ≤ ps[i].A
      · simp [vb (by omega), hA0, hA1]
      by_cases hB0 : ps[i].B < 0
      · simp [vb (by omega), hA0, hA1, hB0]
      by_cases hB1 : (b.length : Int) ≤ ps[i].B
      · simp [vb (by omega), hA0, hA1, hB0, hB1]
      simp [hA0, hA1, hB0, hB1]
      refine callFK_of (ratio_Right okw) (by simp [toD_rawc, raw_v]) ?_
      cases hr : ps[i].w.right with
      | false => simp [bad (by rw [hpa, hr]; simp)]
      | true =>
      simp
      refine callFK_of (ratio_Sign okw) (by simp [toD_rawc, raw_v]) ?_
      by_cases hq : ¬ 0 < ps[i].w.q
      · have h2 := sgnR_pos_iff.2 hq
        simp [bad (by rw [hpa]; simp [hq]), h2]
      have hq := Decidable.not_not.1 hq
      have h2 : ¬ sgnR ps[i].w.q ≤ 0 := fun h => sgnR_pos_iff.1 h hq
      obtain ⟨A, eA⟩ : ∃ A : Nat, ps[i].A = A := ⟨ps[i].A.toNat, by omega⟩
      obtain ⟨B, eB⟩ : ∃ B : Nat, ps[i].B = B := ⟨ps[i].B.toNat, by omega⟩
      have lA : A < a.length := by omega
      have lB : B < b.length := by omega
      simp [h2, eA, eB, lA, lB, setOb, List.filter_cons]
      refine callFK_of (ratio_Sub (rawOf_ok (left_fits (f := Pr.A) oa op hp A hi)) okw') (by simp [toD_rawc, raw_v]) ?_
      simp [ratV, raw_v, rawOf_q, eA, eB, lA, lB, setOb, List.filter_cons]
      refine callFK_of (ratio_Sub (rawOf_ok (left_fits (f := Pr.B) ob op hp B hi)) okw') (by simp [toD_rawc, raw_v]) ?_
      simp [ratV, raw_v, rawOf_q, eA, eB, lA, lB, setOb, List.filter_cons, offs, V.off]
      have eb : (List.map Raw.c (rowsOf b Pr.B (List.take i ps))).set B (rawOf (left b Pr.B (List.take i ps) B - ps[i].w.q)).c = List.map Raw.c (rowsOf b Pr.B (List.take (i + 1) ps)) := by
        rw [rowsOf_snoc h1 eB, List.map_set]
      have ea : (List.map Raw.c (rowsOf a Pr.A (List.take i ps))).set A (rawOf (left a Pr.A (List.take i ps) A - ps[i].w.q)).c = List.map Raw.c (rowsOf a Pr.A (List.take (i + 1) ps)) := by
        rw [rowsOf_snoc h1 eA, List.map_set]
      rw [ea, eb, wrap64 (by omega) (by omega)]
      refine ⟨i + 1, ⟨h1, fun j hj => ?_⟩, by dsimp only; omega, ?_⟩
      · by_cases e : j = i
        · rw [e, hpa, decide_eq_true (show 0 ≤ ps[i].A ∧ ps[i].A < a.length ∧ 0 ≤ ps[i].B ∧ ps[i].B < b.length by omega), hr, hord, decide_eq_true hq]; rfl
        · exact hb j (by omega)
      · refine weak_obs ?_ (by simp) (by repeat (first | exact sin_empty | refine sin_set (by simp) ?_)) ?_
        · repeat (first | exact sub_empty | refine sub_set (by simp) ?_)
        · simp
          refine ⟨fun x hx y hy => rawc_within _ y hy, fun x hx y hy => rawc_within _ y hy⟩
  · have hil : i = ps.length := by omega
    subst hil
    have hall : (List.range ps.length).all (okAt a.length b.length ps) = true := by
      rw [List.all_eq_true]; intro j hj; exact hb j (by simpa using hj)
    simp [h1, hall]
    have et : List.take b.length (List.map Raw.c (rowsOf b Pr.B ps)) = List.map Raw.c (rowsOf b Pr.B ps) := List.take_of_length_le (by simp)
    have lr := rowsOf_length b Pr.B ps
    rw [et]
    cases er : rowsOf b Pr.B ps with
    | nil => rw [er] at lr; exact (nb lr.symm).elim
    | cons y r =>
    rw [er] at lr
    simp at lr
    simp [lr, setOb, List.filter_cons]
    rw [if_pos (by omega)]
    simp
    refine callK_of (contains_Ratio (l := rowsOf a Pr.A ps ++ rowsOf b Pr.B ps) (p := fun x => decide (0 < x.num.length)) (by simp; omega) (fun _ _ => couple_Couples_1)) ?_ ?_
    · simp
      rw [E.toD_ref (k := 11) (st := .own) (es := 3) (l := (rowsOf a Pr.A ps ++ rowsOf b Pr.B ps).map Raw.c) (by simp [E.look, er]) (by simp) (by simp) (by simp) (by omega) (fun r hr => by obtain ⟨x, _, rfl⟩ := List.mem_map.1 hr; exact toD_rawc _ _ _), E.toD_clo0]
      simp [F.couple_Couples_1]
    rw [List.any_append]
    simp
    rw [rows_clear, rows_clear]
end Go.Proofs.YtnneehniendnfaaGreat

/- Couplings, by contract: is it a coupling? The reference's side. -/
namespace Go.Proofs.YtnneehniendnfaaGreat
open Go Go.Proofs Go.Proofs.YtnneehniendnfaaGreat.E
set_option linter.unusedSimpArgs false
set_option linter.unusedVariables false

set_option maxHeartbeats 8000000 in
theorem ref35_Couples {a b : List Part} {ps : List Pr} (ha : a.length ≤ 1000) (hb : b.length ≤ 1000) (hp : ps.length ≤ 1000) (oa : ∀ p ∈ a, p.Ok 1000000) (ob : ∀ p ∈ b, p.Ok 1000000) (op : ∀ p ∈ ps, p.w.Ok 1000000) :
    CallD Tryz.prog F.ref35_Couples [pl a, pl b, prl ps] (· = .bool (couplesP a b ps)) := by
  refine callD_by F.ref35_Couples_ok ?_
  unfold F.ref35_Couples_c couplesP
  simp
  refine callK_of (ref35_Right (by omega) oa) (by simp) ?_
  cases hra : rightP a with
  | false => simp
  | true =>
  simp
  refine callK_of (ref35_Right (by omega) ob) (by simp) ?_
  cases hrb : rightP b with
  | false => simp
  | true =>
  simp [setOb, List.filter_cons]
  refine wm_loop (fun g : Nat => ((((((Sl.empty.set 27 (.int .i64 g)).set 26 (.int .i64 ps.length)).set 25 (prl ps)).set 2 (prl ps)).set 1 (pl b)).set 0 (pl a), []))
    (fun g => g ≤ ps.length ∧ ∀ j, j < g → okAt a.length b.length ps j = true) (fun g => ps.length - g) 0 ⟨by omega, fun j h => by omega⟩ ?_ ?_
  · exact weak_p (by repeat (first | exact sub_empty | refine sub_set (by simp) ?_)) (by repeat (first | exact sin_empty | refine sin_set (by simp) ?_))
  rintro i ⟨hi, hb⟩
  by_cases h1 : i < ps.length
  · have okw : ps[i].w.Ok (2 ^ 33) := ⟨(op _ (List.getElem_mem h1)).dn, (op _ (List.getElem_mem h1)).dd, Nat.le_trans (op _ (List.getElem_mem h1)).ln (by omega), Nat.le_trans (op _ (List.getElem_mem h1)).ld (by omega)⟩
    have hpa := okAt_eq (a := a.length) (b := b.length) h1
    have bad : okAt a.length b.length ps i = false → (List.range ps.length).all (okAt a.length b.length ps) = false := fun h => by
      rw [List.all_eq_false]; exact ⟨i, by simpa using h1, by simp [h]⟩
    have vb : ¬ (0 ≤ ps[i].A ∧ ps[i].A < a.length ∧ 0 ≤ ps[i].B ∧ ps[i].B < b.length) → (List.range ps.length).all (okAt a.length b.length ps) = false := fun h => bad (by rw [hpa, decide_eq_false h]; rfl)
    simp [h1, setOb, List.filter_cons]
    by_cases hA0 : ps[i].A < 0
    · simp [vb (by omega), hA0]
    by_cases hA1 : (a.length : Int) ≤ ps[i].A
    · simp [vb (by omega), hA0, hA1]
    by_cases hB0 : ps[i].B < 0
    · simp [vb (by omega), hA0, hA1, hB0]
    by_cases hB1 : (b.length : Int) ≤ ps[i].B
    · simp [vb (by omega), hA0, hA1, hB0, hB1]
    simp [hA0, hA1, hB0, hB1]
    refine callK_of (ref02_Right okw) (by simp [toD_rawc, raw_v]) ?_
    cases hr : ps[i].w.right with
    | false => simp [bad (by rw [hpa, hr]; simp)]
    | true =>
    simp
    refine callK_of (ref02_Sign okw) (by simp [toD_rawc, raw_v]) ?_
    by_cases hq : ¬ 0 < ps[i].w.q
    · have h2 := sgnR_pos_iff.2 hq
      simp [bad (by rw [hpa]; simp [hq]), h2]
    have hq := Decidable.not_not.1 hq
    have h2 : ¬ sgnR ps[i].w.q ≤ 0 := fun h => sgnR_pos_iff.1 h hq
    have next : ordB ps i = true → ∀ j, j < i + 1 → okAt a.length b.length ps j = true := fun hord j hj => by
      by_cases e : j = i
      · rw [e, hpa, decide_eq_true (show 0 ≤ ps[i].A ∧ ps[i].A < a.length ∧ 0 ≤ ps[i].B ∧ ps[i].B < b.length by omega), hr, hord, decide_eq_true hq]; rfl
      · exact hb j (by omega)
    simp [h2]
    by_cases h0 : i = 0
    · have h0' : ¬ 0 < i := by omega
      have hord : ordB ps i = true := by rw [h0]; rfl
      simp [h0']
      rw [wrap64 (by omega) (by omega)]
      refine ⟨i + 1, ⟨h1, next hord⟩, by dsimp only; omega, ?_⟩
      exact weak_p (by repeat (first | exact sub_empty | refine sub_set (by simp) ?_)) (by repeat (first | exact sin_empty | refine sin_set (by simp) ?_))
    · have h0'' : 0 < i := by omega
      have hi1 : i - 1 < ps.length := by omega
      have e1 : ((i : Int) - 1).toNat = i - 1 := by omega
      have h0' : (0 : Int) < i := by omega
      have hord := ordB_pos h1 h0
      simp [h0, h0', h0'']
      repeat simp (disch := omega) [wrap64, if_pos, e1]
      by_cases c1 : ps[i].A < (ps[i - 1]'hi1).A
      · have hc : ¬ cmpPr (ps[i - 1]'hi1) ps[i] < 0 := by rw [cmpPr_neg]; omega
        have := bad (by rw [hpa, hord, decide_eq_false hc]; simp)
        simp [this, c1]
      by_cases c2 : (ps[i - 1]'hi1).A = ps[i].A
      · by_cases c3 : ps[i].B ≤ (ps[i - 1]'hi1).B
        · have hc : ¬ cmpPr (ps[i - 1]'hi1) ps[i] < 0 := by rw [cmpPr_neg]; omega
          have := bad (by rw [hpa, hord, decide_eq_false hc]; simp)
          simp [this, c1, c2, c3]
          repeat simp (disch := omega) [wrap64, if_pos, e1, c1, c2, c3, this]
        · have c4 : (ps[i - 1]'hi1).B < ps[i].B := by omega
          simp [c1, c2, c3, c4]
          repeat simp (disch := omega) [wrap64, if_pos, e1, c1, c2, c3, c4]
          refine ⟨i + 1, ⟨h1, next (by rw [hord]; exact decide_eq_true (by rw [cmpPr_neg]; omega))⟩, by dsimp only; omega, ?_⟩
          exact weak_p (by repeat (first | exact sub_empty | refine sub_set (by simp) ?_)) (by repeat (first | exact sin_empty | refine sin_set (by simp) ?_))
      · have c1' : (ps[i - 1]'hi1).A ≤ ps[i].A := by omega
        simp [c1, c1', c2]
        repeat simp (disch := omega) [wrap64, if_pos, e1, c1, c1', c2]
        refine ⟨i + 1, ⟨h1, next (by rw [hord]; exact decide_eq_true (by rw [cmpPr_neg]; omega))⟩, by dsimp only; omega, ?_⟩
        exact weak_p (by repeat (first | exact sub_empty | refine sub_set (by simp) ?_)) (by repeat (first | exact sin_empty | refine sin_set (by simp) ?_))
  have hil : i = ps.length := by omega
  subst hil
  have hall : (List.range ps.length).all (okAt a.length b.length ps) = true := by
    rw [List.all_eq_true]; intro j hj; exact hb j (by simpa using hj)
  clear hb hi
  simp [h1, hall]
  refine wm_loop (fun g : Nat => ((((((Sl.empty.set 104 (.int .i64 g)).set 103 (.int .i64 a.length)).set 2 (prl ps)).set 1 (pl b)).set 0 (pl a)), []))
    (fun g => g ≤ a.length ∧ ∀ j, j < g → sumS Pr.A ps j = wq a j) (fun g => a.length - g) 0 ⟨by omega, fun j h => by omega⟩ ?_ ?_
  · exact weak_p (by repeat (first | exact sub_empty | refine sub_set (by simp) ?_)) (by repeat (first | exact sin_empty | refine sin_set (by simp) ?_))
  rintro i ⟨hi, hs⟩
  by_cases h2 : i < a.length
  · simp [h2]
    refine callK_of ref02_Zero (by simp) ?_
    simp [setOb, List.filter_cons, ratV, raw_v]
    refine wm_loop (fun g : Nat => (((((((((((Sl.empty.set 110 (.int .i64 g)).set 109 (.int .i64 ps.length)).set 108 (prl ps)).set 104 (.int .i64 i)).set 103 (.int .i64 a.length)).set 10 (.ptr 0 0 0)).set 9 (.int .i64 i)).set 2 (prl ps)).set 1 (pl b)).set 0 (pl a)), [(0, ⟨.own, 3, [(rawOf (sumS Pr.A (ps.take g) i)).c]⟩)]))
      (fun g => g ≤ ps.length) (fun g => ps.length - g) 0 (by omega) ?_ ?_
    · refine weak_obs ?_ (by simp [sumS]) (by repeat (first | exact sin_empty | refine sin_set (by simp) ?_)) (by simp; exact fun y hy => rawc_within _ y hy)
      repeat (first | exact sub_empty | refine sub_set (by simp) ?_)
    intro k hk
    by_cases h3 : k < ps.length
    · have okw : ps[k].w.Ok (2 ^ 31) := ⟨(op _ (List.getElem_mem h3)).dn, (op _ (List.getElem_mem h3)).dd, Nat.le_trans (op _ (List.getElem_mem h3)).ln (by omega), Nat.le_trans (op _ (List.getElem_mem h3)).ld (by omega)⟩
      have hst := sumS_take Pr.A h3 i
      by_cases e : Pr.A ps[k] = i
      · rw [if_pos e] at hst
        simp [h3, setOb, List.filter_cons, e]
        refine callK_of (ref02_Add (rawOf_ok (sumS_fitsK (f := Pr.A) op hp i hk)) okw) (by simp [toD_rawc, raw_v]) ?_
        simp [ratV, raw_v, rawOf_q, setOb, List.filter_cons, ← hst]
        rw [wrap64 (by omega) (by omega)]
        refine ⟨k + 1, h3, by dsimp only; omega, ?_⟩
        refine weak_obs ?_ (by simp) (by repeat (first | exact sin_empty | refine sin_set (by simp) ?_)) (by simp; exact fun y hy => rawc_within _ y hy)
        repeat (first | exact sub_empty | refine sub_set (by simp) ?_)
      · rw [if_neg e] at hst
        simp [h3, setOb, List.filter_cons, e]
        rw [wrap64 (by omega) (by omega)]
        refine ⟨k + 1, h3, by dsimp only; omega, ?_⟩
        refine weak_obs ?_ (by simp [hst]) (by repeat (first | exact sin_empty | refine sin_set (by simp) ?_)) (by simp; exact fun y hy => rawc_within _ y hy)
        repeat (first | exact sub_empty | refine sub_set (by simp) ?_)
    · have hkl : k = ps.length := by omega
      subst hkl
      have oi := (oa _ (List.getElem_mem h2)).w
      simp [h3, h2]
      refine callFK_of (ref02_Same (rawOf_ok (sumS_fitsN (f := Pr.A) op hp i)) (y := a[i].w) ⟨oi.dn, oi.dd, Nat.le_trans oi.ln (by omega), Nat.le_trans oi.ld (by omega)⟩) (by simp [toD_rawc, raw_v]) ?_
      rw [rawOf_q, ← wq_eq h2]
      by_cases e : sumS Pr.A ps i = wq a i
      · simp [e]
        rw [wrap64 (by omega) (by omega)]
        refine ⟨i + 1, ⟨h2, fun j hj => ?_⟩, by dsimp only; omega, ?_⟩
        · by_cases e2 : j = i
          · subst e2; exact e
          · exact hs j (by omega)
        · exact weak_p (by repeat (first | exact sub_empty | refine sub_set (by simp) ?_)) (by repeat (first | exact sin_empty | refine sin_set (by simp) ?_))
      · have : (List.range a.length).all (fun i => decide (sumS Pr.A ps i = wq a i)) = false := by
          rw [List.all_eq_false]; exact ⟨i, by simpa using h2, by simp [e]⟩
        simp [e, this]
  have hil : i = a.length := by omega
  subst hil
  have halla : (List.range a.length).all (fun i => decide (sumS Pr.A ps i = wq a i)) = true := by
    rw [List.all_eq_true]; intro j hj; exact decide_eq_true (hs j (by simpa using hj))
  clear hs hi
  simp [h2, halla]
  clear h2
  refine wm_loop (fun g : Nat => (((((Sl.empty.set 134 (.int .i64 g)).set 133 (.int .i64 b.length)).set 2 (prl ps)).set 1 (pl b)), []))
    (fun g => g ≤ b.length ∧ ∀ j, j < g → sumS Pr.B ps j = wq b j) (fun g => b.length - g) 0 ⟨by omega, fun j h => by omega⟩ ?_ ?_
  · exact weak_p (by repeat (first | exact sub_empty | refine sub_set (by simp) ?_)) (by repeat (first | exact sin_empty | refine sin_set (by simp) ?_))
  rintro i ⟨hi, hs⟩
  by_cases h2 : i < b.length
  · simp [h2]
    refine callK_of ref02_Zero (by simp) ?_
    simp [setOb, List.filter_cons, ratV, raw_v]
    refine wm_loop (fun g : Nat => ((((((((((Sl.empty.set 140 (.int .i64 g)).set 139 (.int .i64 ps.length)).set 138 (prl ps)).set 134 (.int .i64 i)).set 133 (.int .i64 b.length)).set 14 (.ptr 0 0 0)).set 13 (.int .i64 i)).set 2 (prl ps)).set 1 (pl b)), [(0, ⟨.own, 3, [(rawOf (sumS Pr.B (ps.take g) i)).c]⟩)]))
      (fun g => g ≤ ps.length) (fun g => ps.length - g) 0 (by omega) ?_ ?_
    · refine weak_obs ?_ (by simp [sumS]) (by repeat (first | exact sin_empty | refine sin_set (by simp) ?_)) (by simp; exact fun y hy => rawc_within _ y hy)
      repeat (first | exact sub_empty | refine sub_set (by simp) ?_)
    intro k hk
    by_cases h3 : k < ps.length
    · have okw : ps[k].w.Ok (2 ^ 31) := ⟨(op _ (List.getElem_mem h3)).dn, (op _ (List.getElem_mem h3)).dd, Nat.le_trans (op _ (List.getElem_mem h3)).ln (by omega), Nat.le_trans (op _ (List.getElem_mem h3)).ld (by omega)⟩
      have hst := sumS_take Pr.B h3 i
      by_cases e : Pr.B ps[k] = i
      · rw [if_pos e] at hst
        simp [h3, setOb, List.filter_cons, e]
        refine callK_of (ref02_Add (rawOf_ok (sumS_fitsK (f := Pr.B) op hp i hk)) okw) (by simp [toD_rawc, raw_v]) ?_
        simp [ratV, raw_v, rawOf_q, setOb, List.filter_cons, ← hst]
        rw [wrap64 (by omega) (by omega)]
        refine ⟨k + 1, h3, by dsimp only; omega, ?_⟩
        refine weak_obs ?_ (by simp) (by repeat (first | exact sin_empty | refine sin_set (by simp) ?_)) (by simp; exact fun y hy => rawc_within _ y hy)
        repeat (first | exact sub_empty | refine sub_set (by simp) ?_)
      · rw [if_neg e] at hst
        simp [h3, setOb, List.filter_cons, e]
        rw [wrap64 (by omega) (by omega)]
        refine ⟨k + 1, h3, by dsimp only; omega, ?_⟩
        refine weak_obs ?_ (by simp [hst]) (by repeat (first | exact sin_empty | refine sin_set (by simp) ?_)) (by simp; exact fun y hy => rawc_within _ y hy)
        repeat (first | exact sub_empty | refine sub_set (by simp) ?_)
    · have hkl : k = ps.length := by omega
      subst hkl
      have oi := (ob _ (List.getElem_mem h2)).w
      simp [h3, h2]
      refine callFK_of (ref02_Same (rawOf_ok (sumS_fitsN (f := Pr.B) op hp i)) (y := b[i].w) ⟨oi.dn, oi.dd, Nat.le_trans oi.ln (by omega), Nat.le_trans oi.ld (by omega)⟩) (by simp [toD_rawc, raw_v]) ?_
      rw [rawOf_q, ← wq_eq h2]
      by_cases e : sumS Pr.B ps i = wq b i
      · simp [e]
        rw [wrap64 (by omega) (by omega)]
        refine ⟨i + 1, ⟨h2, fun j hj => ?_⟩, by dsimp only; omega, ?_⟩
        · by_cases e2 : j = i
          · subst e2; exact e
          · exact hs j (by omega)
        · exact weak_p (by repeat (first | exact sub_empty | refine sub_set (by simp) ?_)) (by repeat (first | exact sin_empty | refine sin_set (by simp) ?_))
      · have : (List.range b.length).all (fun i => decide (sumS Pr.B ps i = wq b i)) = false := by
          rw [List.all_eq_false]; exact ⟨i, by simpa using h2, by simp [e]⟩
        simp [e, this]
  have hil : i = b.length := by omega
  subst hil
  have hallb : (List.range b.length).all (fun i => decide (sumS Pr.B ps i = wq b i)) = true := by
    rw [List.all_eq_true]; intro j hj; exact decide_eq_true (hs j (by simpa using hj))
  clear hs hi
  simp [h2, hallb]
end Go.Proofs.YtnneehniendnfaaGreat
