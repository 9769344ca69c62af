/- Joined texts: CCou3, CCou4. -/
import Derived.Test.YtnneehniendnfaaGreatGO
/- Functions of the program, as the engine reads them; each is held against the translation. -/
namespace Go.Proofs.YtnneehniendnfaaGreat.F
open Go Go.Proofs Go.Proofs.YtnneehniendnfaaGreat.E Go.Proofs.YtnneehniendnfaaGreat.Q
abbrev cmp_Or_int : Nat := 108
def cmp_Or_int_c : MFn :=
  ⟨18,(.seq (r [o 2 (.mv (i 0))] [0]) (.seq (r [o 3 (.mv (i 0))] [0,3]) (.seq (.seq (r [o 6 (.mv (.t 0)),o 7 (.lenS (.t 6)),o 8 (.mv (i 0))] [3,6,7,8]) (.block 0 (.loop (.seq (r [o 9 (.bin .lss (.t 8)
  (.t 7))] [3,6,7,8,9]) (.seq (.cond (.t 9) .skip (.exit 0)) (.seq (.block 1 (.seq (r [o 10 (.ixA 1 (.t 6) (.t 8)),o 11 (.ld none (.t 10)),o 5 (.mv (.t 11))] [3,5,6,7,8]) (.seq (r [o 12 (.mv (.t 5)),
  o 13 (.mv (.t 3)),o 14 (.bin .neq (.t 12) (.t 13))] [3,5,6,7,8,14]) (.cond (.t 14) (.seq (r [o 15 (.mv (.t 5)),o 2 (.mv (.t 15))] [2]) .ret) .skip)))) (r [o 16 (.bin .add (.t 8) (i 1)),
  o 8 (.mv (.t 16))] [3,6,7,8]))))))) (.seq (r [o 17 (.mv (.t 3)),o 2 (.mv (.t 17))] [2]) .ret)))),[.t 2]⟩
theorem cmp_Or_int_ok : cFn Tryz.prog (kps [[0],[0,3],[3,6,7,8],[3,6,7,8,9],[3,5,6,7,8],[3,5,6,7,8,14],[2],[3,6,7,8],[2]]) [] 108 = some cmp_Or_int_c := by kernel_rfl
abbrev couple_compare : Nat := 55
def couple_compare_c : MFn :=
  ⟨17,(.seq (r [o 2 (.box (.t 0)),o 3 (.box (.t 1)),o 4 (.mv (i 0))] [2,3]) (.seq (r [o 5 (.fA 0 (.t 2)),o 6 (.ld none (.t 5)),o 7 (.fA 0 (.t 3)),o 8 (.ld none (.t 7)),o 9 (.callF 97 [(.t 6),(.t 8)]),
  o 10 (.fA 1 (.t 2)),o 11 (.ld none (.t 10)),o 12 (.fA 1 (.t 3)),o 13 (.ld none (.t 12)),o 14 (.callF 97 [(.t 11),(.t 13)]),o 15 (.buildSl 1 2 [.int .i64 0] [(0,(.t 9)),(1,(.t 14))]),
  o 16 (.callF 108 [(.t 15)]),o 4 (.mv (.t 16))] [4]) .ret)),[.t 4]⟩
theorem couple_compare_ok : cFn Tryz.prog (kps [[2,3],[4]]) [] 55 = some couple_compare_c := by kernel_rfl
abbrev couple_Couples : Nat := 16
def couple_Couples_c : MFn :=
  ⟨108,(.seq (r [o 6 (.mv (.c (.bool false)))] [0,1,2]) (.seq (.seq (r [o 11 (.mv (.t 0)),o 12 (.call 14 [(.t 11)]),o 13 (.un .not (.t 12)),o 14 (.mv (.t 13)),n 15 14 (.mv (.t 1)),
  n 16 14 (.call 14 [(.t 15)]),n 17 14 (.un .not (.t 16)),o 18 (.pick (.t 14) (.c (.bool true)) (.t 17))] [0,1,2,18]) (.cond (.t 18) (.seq (r [o 6 (.mv (.c (.bool false)))] [6]) .ret) .skip))
  (.seq (r [o 19 (.mv (.t 0)),o 20 (.call 54 [(.t 19)]),o 21 (.mv (.t 1)),o 22 (.call 54 [(.t 21)]),o 7 (.mv (.t 20)),o 8 (.mv (.t 22))] [0,1,2,7,8]) (.seq (.seq (r [o 23 (.mv (.t 2)),
  o 24 (.lenS (.t 23)),o 25 (.mv (i 0))] [0,1,2,7,8,23,24,25]) (.block 0 (.loop (.seq (r [o 26 (.bin .lss (.t 25) (.t 24))] [0,1,2,7,8,23,24,25,26]) (.seq (.cond (.t 26) .skip (.exit 0))
  (.seq (.block 1 (.seq (r [o 27 (.mv (.t 25)),o 28 (.ixA 5 (.t 23) (.t 25)),o 29 (.ld (some 5) (.t 28)),o 10 (.alloc [.int .i64 0,.int .i64 0,.bool false,.nils,.nils]),o 9 (.mv (.t 27)),
  z (.st 5 (.t 10) (.t 29))] [0,1,2,7,8,9,10,23,24,25]) (.seq (.seq (r [o 30 (.mv (.t 9)),o 31 (.bin .gtr (.t 30) (i 0)),o 32 (.mv (.t 31)),y 33 32 (.mv (.t 2)),y 34 32 (.mv (.t 9)),
  y 35 32 (.bin .sub (.t 34) (i 1)),y 36 32 (.ixA 5 (.t 33) (.t 35)),y 37 32 (.ld (some 5) (.t 36)),y 38 32 (.ld (some 5) (.t 10)),y 39 32 (.callF 55 [(.t 37),(.t 38)]),y 40 32 (.bin .geq (.t 39)
  (i 0)),o 41 (.pick (.t 32) (.t 40) (.c (.bool false))),o 42 (.mv (.t 41)),n 43 42 (.fA 0 (.t 10)),n 44 42 (.ld none (.t 43)),n 45 42 (.bin .lss (.t 44) (i 0)),o 46 (.pick (.t 42) (.c (.bool true))
  (.t 45)),o 47 (.mv (.t 46)),n 48 47 (.fA 0 (.t 10)),n 49 47 (.ld none (.t 48)),n 50 47 (.mv (.t 0)),n 51 47 (.lenS (.t 50)),n 52 47 (.bin .geq (.t 49) (.t 51)),o 53 (.pick (.t 47) (.c (.bool true))
  (.t 52)),o 54 (.mv (.t 53)),n 55 54 (.fA 1 (.t 10)),n 56 54 (.ld none (.t 55)),n 57 54 (.bin .lss (.t 56) (i 0)),o 58 (.pick (.t 54) (.c (.bool true)) (.t 57)),o 59 (.mv (.t 58)),
  n 60 59 (.fA 1 (.t 10)),n 61 59 (.ld none (.t 60)),n 62 59 (.mv (.t 1)),n 63 59 (.lenS (.t 62)),n 64 59 (.bin .geq (.t 61) (.t 63)),o 65 (.pick (.t 59) (.c (.bool true)) (.t 64)),o 66 (.mv (.t 65)),
  n 67 66 (.fA 2 (.t 10)),n 68 66 (.ld (some 3) (.t 67)),n 69 66 (.callF 43 [(.t 68)]),n 70 66 (.un .not (.t 69)),o 71 (.pick (.t 66) (.c (.bool true)) (.t 70)),o 72 (.mv (.t 71)),
  n 73 72 (.fA 2 (.t 10)),n 74 72 (.ld (some 3) (.t 73)),n 75 72 (.callF 44 [(.t 74)]),n 76 72 (.bin .leq (.t 75) (i 0)),o 77 (.pick (.t 72) (.c (.bool true)) (.t 76))] [0,1,2,7,8,10,23,24,25,77])
  (.cond (.t 77) (.seq (r [o 6 (.mv (.c (.bool false)))] [6]) .ret) .skip)) (r [o 78 (.mv (.t 7)),o 79 (.fA 0 (.t 10)),o 80 (.ld none (.t 79)),o 81 (.mv (.t 8)),o 82 (.fA 1 (.t 10)),
  o 83 (.ld none (.t 82)),o 84 (.mv (.t 7)),o 85 (.fA 0 (.t 10)),o 86 (.ld none (.t 85)),o 87 (.ixA 3 (.t 84) (.t 86)),o 88 (.ld (some 3) (.t 87)),o 89 (.fA 2 (.t 10)),o 90 (.ld (some 3) (.t 89)),
  o 91 (.callF 56 [(.t 88),(.t 90)]),o 92 (.mv (.t 8)),o 93 (.fA 1 (.t 10)),o 94 (.ld none (.t 93)),o 95 (.ixA 3 (.t 92) (.t 94)),o 96 (.ld (some 3) (.t 95)),o 97 (.fA 2 (.t 10)),o 98 (.ld (some 3)
  (.t 97)),o 99 (.callF 56 [(.t 96),(.t 98)]),o 100 (.ixA 3 (.t 78) (.t 80)),z (.stA 3 (.t 100) (.t 91) [82]),o 101 (.ixA 3 (.t 81) (.t 83)),z (.st 3 (.t 101) (.t 99))] [0,1,2,7,8,23,24,25]))))
  (r [o 102 (.bin .add (.t 25) (i 1)),o 25 (.mv (.t 102))] [0,1,2,7,8,23,24,25]))))))) (.seq (r [o 103 (.mv (.t 7)),o 104 (.mv (.t 8)),o 105 (.app 3 56 (.t 103) (.t 104)),o 106 (.call 57 [(.t 105),
  (.c (.clo 58 []))]),o 107 (.un .not (.t 106)),o 6 (.mv (.t 107))] [6]) .ret))))),[.t 6]⟩
theorem couple_Couples_ok : cFn Tryz.prog (kps [[0,1,2],[0,1,2,18],[6],[0,1,2,7,8],[0,1,2,7,8,23,24,25],[0,1,2,7,8,23,24,25,26],[0,1,2,7,8,9,10,23,24,25],[0,1,2,7,8,10,23,24,25,77],[6],[0,1,2,7,8,23,24,25],[0,1,2,7,8,23,24,25],[6]]) [] 16 = some couple_Couples_c := by kernel_rfl
end Go.Proofs.YtnneehniendnfaaGreat.F

namespace Go.Proofs.YtnneehniendnfaaGreat
open Go Go.Proofs Go.Proofs.YtnneehniendnfaaGreat.E
set_option linter.unusedSimpArgs false
set_option linter.unusedVariables false
theorem cmp_Or (x y : Int) : CallD Tryz.prog F.cmp_Or_int [.dat [[.int .i64 x], [.int .i64 y]]] (· = .int .i64 (orI x y)) := by
  refine callD_by F.cmp_Or_int_ok ?_
  unfold F.cmp_Or_int_c orI
  simp
  refine wm_loop (fun g : Nat => ((((Sl.empty.set 8 (.int .i64 g)).set 7 (.int .i64 2)).set 6 (.dat [[.int .i64 x], [.int .i64 y]])).set 3 (.int .i64 0), [])) (fun g => g ≤ 2 ∧ (0 < g → x = 0) ∧ (1 < g → y = 0)) (fun g => 2 - g) 0 ⟨by omega, by omega, by omega⟩ ?_ ?_
  · exact weak_p (by repeat (first | exact sub_empty | refine sub_set (by simp) ?_)) (by repeat (first | exact sin_empty | refine sin_set (by simp) ?_))
  rintro i ⟨hi, hx, hy⟩
  match i, hi with
  | 0, _ =>
    by_cases h : x = 0
    · simp [h]
      rw [wrap64 (by omega) (by omega)]
      refine ⟨1, ⟨by omega, by omega⟩, by dsimp only; omega, ?_⟩
      exact weak_p (by repeat (first | exact sub_empty | refine sub_set (by simp) ?_)) (by repeat (first | exact sin_empty | refine sin_set (by simp) ?_))
    · simp [h]
  | 1, _ =>
    have := hx (by omega)
    subst this
    by_cases h : y = 0
    · simp [h]
      rw [wrap64 (by omega) (by omega)]
      refine ⟨2, by omega, by dsimp only; omega, ?_⟩
      exact weak_p (by repeat (first | exact sub_empty | refine sub_set (by simp) ?_)) (by repeat (first | exact sin_empty | refine sin_set (by simp) ?_))
    · simp [h]
  | 2, _ =>
    have h1 := hx (by omega)
    have h2 := hy (by omega)
    subst h1; subst h2
    simp
theorem E.toD_ref {σ : Sto} {o n k es : Nat} {st : St} {l : List (List V)} (h : E.look σ o = some ⟨st, es, l⟩) (hs : st ≠ .dead) (he : es ≠ 0) (hl : l.length = n) (h0 : n ≠ 0) (hd : ∀ r ∈ l, mapO (toD σ k) r = some r) : toD σ (k + 1) (.ref o 0 n) = some (.dat l) := by
  rw [← grown_pos h0]; exact toD_grown (fun _ => h) hs he hl hd
theorem E.toD_clo0 (σ : Sto) (f : Nat) : toD σ 12 (.clo f []) = some (.clo f []) := (rfl)
theorem couple_compare (p q : Pr) : CallD Tryz.prog F.couple_compare [.agg (prC p), .agg (prC q)] (· = .int .i64 (cmpPr p q)) := by
  refine callD_by F.couple_compare_ok ?_
  unfold F.couple_compare_c cmpPr
  simp [setOb, List.filter_cons]
  refine callFK_of (cmp_Compare p.A q.A) (by simp) ?_
  simp
  refine callFK_of (cmp_Compare p.B q.B) (by simp) ?_
  simp [setOb, List.filter_cons]
  refine callFK_of (cmp_Or (cmpI p.A q.A) (cmpI p.B q.B)) ?_ ?_
  · simp
    rw [E.toD_ref (k := 11) (st := .own) (es := 1) (l := [[.int .i64 (cmpI p.A q.A)], [.int .i64 (cmpI p.B q.B)]]) (by simp [E.look]) (by simp) (by simp) (by simp) (by simp) (by simp)]
  simp
set_option maxHeartbeats 4000000 in
theorem couple_Couples {a b : List Part} {ps : List Pr} {K : Nat} (k1 : 1 ≤ K) (kl : K ≤ 2 ^ 31) (kK : ps.length * (K + 1) + 1000002 ≤ 2 ^ 31) (ha : a.length ≤ 1000) (hb : b.length ≤ 1000) (hp : ps.length ≤ 1000) (oa : ∀ p ∈ a, p.Ok 1000000) (ob : ∀ p ∈ b, p.Ok 1000000) (op : ∀ p ∈ ps, p.w.Ok K) :
    CallD Tryz.prog F.couple_Couples [pl a, pl b, prl ps] (· = .bool (couplesP a b ps)) := by
  refine callD_by F.couple_Couples_ok ?_
  unfold F.couple_Couples_c couplesP
  simp
  refine callK_of (couple_Right (by omega) oa) (by simp) ?_
  cases hra : rightP a with
  | false => simp
  | true =>
  simp
  refine callK_of (couple_Right (by omega) ob) (by simp) ?_
  cases hrb : rightP b with
  | false => simp
  | true =>
  have na : a.length ≠ 0 := by
    intro h; have : a = [] := List.length_eq_zero_iff.1 h
    subst this; simp [rightP, sumQ] at hra
  have nb : b.length ≠ 0 := by
    intro h; have : b = [] := List.length_eq_zero_iff.1 h
    subst this; simp [rightP, sumQ] at hrb
  have na' : a ≠ [] := fun h => na (by simp [h])
  have nb' : b ≠ [] := fun h => nb (by simp [h])
  simp
  refine callK_X (couple_weights (by omega) oa) ?_
  rintro r s ⟨rfl, rfl⟩
  simp [took, na', grown_pos na]
  refine callK_X (couple_weights (by omega) ob) ?_
  rintro r s ⟨rfl, rfl⟩
  simp [took, na', nb', grown_pos nb, setOb, List.filter_cons]
  rw [rowsOf_nil a Pr.A, rowsOf_nil b Pr.B]
  refine wm_loop (fun g : Nat => ((((((((Sl.empty.set 25 (.int .i64 g)).set 24 (.int .i64 ps.length)).set 23 (prl ps)).set 8 (.ref 1 0 b.length)).set 7 (.ref 0 0 a.length)).set 2 (prl ps)).set 1 (pl b)).set 0 (pl a), [(0, ⟨.own, 3, (rowsOf a Pr.A (ps.take g)).map Raw.c⟩), (1, ⟨.own, 3, (rowsOf b Pr.B (ps.take g)).map Raw.c⟩)]))
    (fun g => g ≤ ps.length ∧ ∀ j, j < g → okAt a.length b.length ps j = true) (fun g => ps.length - g) 0 ⟨by omega, fun j h => by omega⟩ ?_ ?_
  · refine weak_obs ?_ (by simp) (by repeat (first | exact sin_empty | refine sin_set (by simp) ?_)) ?_
    · repeat (first | exact sub_empty | refine sub_set (by simp) ?_)
    · simp
      refine ⟨fun x hx y hy => rawc_within _ y hy, fun x hx y hy => rawc_within _ y hy⟩
  rintro i ⟨hi, hb⟩
  by_cases h1 : i < ps.length
  · have okw : ps[i].w.Ok (2 ^ 33) := ⟨(op _ (List.getElem_mem h1)).dn, (op _ (List.getElem_mem h1)).dd, Nat.le_trans (op _ (List.getElem_mem h1)).ln (by omega), Nat.le_trans (op _ (List.getElem_mem h1)).ld (by omega)⟩
    have okw' : ps[i].w.Ok (2 ^ 31) := ⟨(op _ (List.getElem_mem h1)).dn, (op _ (List.getElem_mem h1)).dd, Nat.le_trans (op _ (List.getElem_mem h1)).ln (by omega), Nat.le_trans (op _ (List.getElem_mem h1)).ld (by omega)⟩
    have hpa := okAt_eq (a := a.length) (b := b.length) h1
    have bad : okAt a.length b.length ps i = false → (List.range ps.length).all (okAt a.length b.length ps) = false := fun h => by
      rw [List.all_eq_false]; exact ⟨i, by simpa using h1, by simp [h]⟩
    simp [h1, setOb, List.filter_cons]
    have vb : ¬ (0 ≤ ps[i].A ∧ ps[i].A < a.length ∧ 0 ≤ ps[i].B ∧ ps[i].B < b.length) → (List.range ps.length).all (okAt a.length b.length ps) = false := fun h => bad (by rw [hpa, decide_eq_false h]; rfl)
    refine Classical.byCases (p := i = 0) (fun h0 => ?_) (fun h0 => ?_)
    · have h0' : ¬ 0 < i := by omega
      have hord : ordB ps i = true := by rw [h0]; rfl
      simp [h0']
      by_cases hA0 : ps[i].A < 0
      · simp [vb (by omega), hA0]
      by_cases hA1 : (a.length : Int) ≤ ps[i].A
      · simp [vb (by omega), hA0, hA1]
      by_cases hB0 : ps[i].B < 0
      · simp [vb (by omega), hA0, hA1, hB0]
      by_cases hB1 : (b.length : Int) ≤ ps[i].B
      · simp [vb (by omega), hA0, hA1, hB0, hB1]
      simp [hA0, hA1, hB0, hB1]
      refine callFK_of (ratio_Right okw) (by simp [toD_rawc, raw_v]) ?_
      cases hr : ps[i].w.right with
      | false => simp [bad (by rw [hpa, hr]; simp)]
      | true =>
      simp
      refine callFK_of (ratio_Sign okw) (by simp [toD_rawc, raw_v]) ?_
      by_cases hq : ¬ 0 < ps[i].w.q
      · have h2 := sgnR_pos_iff.2 hq
        simp [bad (by rw [hpa]; simp [hq]), h2]
      have hq := Decidable.not_not.1 hq
      have h2 : ¬ sgnR ps[i].w.q ≤ 0 := fun h => sgnR_pos_iff.1 h hq
      obtain ⟨A, eA⟩ : ∃ A : Nat, ps[i].A = A := ⟨ps[i].A.toNat, by omega⟩
      obtain ⟨B, eB⟩ : ∃ B : Nat, ps[i].B = B := ⟨ps[i].B.toNat, by omega⟩
      have lA : A < a.length := by omega
      have lB : B < b.length := by omega
      simp [h2, eA, eB, lA, lB, setOb, List.filter_cons]
      refine callFK_of (ratio_Sub (rawOf_ok (left_fits (f := Pr.A) k1 kK oa op A hi)) okw') (by simp [toD_rawc, raw_v]) ?_
      simp [ratV, raw_v, rawOf_q, eA, eB, lA, lB, setOb, List.filter_cons]
      refine callFK_of (ratio_Sub (rawOf_ok (left_fits (f := Pr.B) k1 kK ob op B hi)) okw') (by simp [toD_rawc, raw_v]) ?_
      simp [ratV, raw_v, rawOf_q, eA, eB, lA, lB, setOb, List.filter_cons, offs, V.off]
      have eb : (List.map Raw.c (rowsOf b Pr.B (List.take i ps))).set B (rawOf (left b Pr.B (List.take i ps) B - ps[i].w.q)).c = List.map Raw.c (rowsOf b Pr.B (List.take (i + 1) ps)) := by
        rw [rowsOf_snoc h1 eB, List.map_set]
      have ea : (List.map Raw.c (rowsOf a Pr.A (List.take i ps))).set A (rawOf (left a Pr.A (List.take i ps) A - ps[i].w.q)).c = List.map Raw.c (rowsOf a Pr.A (List.take (i + 1) ps)) := by
        rw [rowsOf_snoc h1 eA, List.map_set]
      rw [ea, eb, wrap64 (by omega) (by omega)]
      refine ⟨i + 1, ⟨h1, fun j hj => ?_⟩, by dsimp only; omega, ?_⟩
      · by_cases e : j = i
        · rw [e, hpa, decide_eq_true (show 0 ≤ ps[i].A ∧ ps[i].A < a.length ∧ 0 ≤ ps[i].B ∧ ps[i].B < b.length by omega), hr, hord, decide_eq_true hq]; rfl
        · exact hb j (by omega)
      · refine weak_obs ?_ (by simp) (by repeat (first | exact sin_empty | refine sin_set (by simp) ?_)) ?_
        · repeat (first | exact sub_empty | refine sub_set (by simp) ?_)
        · simp
          refine ⟨fun x hx y hy => rawc_within _ y hy, fun x hx y hy => rawc_within _ y hy⟩
    · have h0'' : 0 < i := by omega
      have hi1 : i - 1 < ps.length := by omega
      have e1 : ((i : Int) - 1).toNat = i - 1 := by omega
      have h0' : (0 : Int) < i := by omega
      simp [h0, h0', h0'']
      repeat simp (disch := omega) [wrap64, if_pos, e1]
      refine callFK_of (couple_compare (ps[i - 1]'hi1) ps[i]) (by simp [toD_prC]) ?_
      by_cases hc : ¬ cmpPr (ps[i - 1]'hi1) ps[i] < 0
      · have hc' : 0 ≤ cmpPr (ps[i - 1]'hi1) ps[i] := by omega
        have := bad (by rw [hpa, ordB_pos h1 h0]; simp [hc])
        simp [this, hc']
      have hc := Decidable.not_not.1 hc
      have hc' : ¬ 0 ≤ cmpPr (ps[i - 1]'hi1) ps[i] := by omega
      have hord : ordB ps i = true := by rw [ordB_pos h1 h0]; simp [hc]
      simp [hc']
      by_cases hA0 : ps[i].A < 0
      · simp [vb (by omega), hA0]
      by_cases hA1 : (a.length : Int) ≤ ps[i].A
      · simp [vb (by omega), hA0, hA1]
      by_cases hB0 : ps[i].B < 0
      · simp [vb (by omega), hA0, hA1, hB0]
      by_cases hB1 : (b.length : Int) ≤ ps[i].B
      · simp [vb (by omega), hA0, hA1, hB0, hB1]
      simp [hA0, hA1, hB0, hB1]
      refine callFK_of (ratio_Right okw) (by simp [toD_rawc, raw_v]) ?_
      cases hr : ps[i].w.right with
      | false => simp [bad (by rw [hpa, hr]; simp)]
      | true =>
      simp
      refine callFK_of (ratio_Sign okw) (by simp [toD_rawc, raw_v]) ?_
      by_cases hq : ¬ 0 < ps[i].w.q
      · have h2 := sgnR_pos_iff.2 hq
        simp [bad (by rw [hpa]; simp [hq]), h2]
      have hq := Decidable.not_not.1 hq
      have h2 : ¬ sgnR ps[i].w.q ≤ 0 := fun h => sgnR_pos_iff.1 h hq
      obtain ⟨A, eA⟩ : ∃ A : Nat, ps[i].A = A := ⟨ps[i].A.toNat, by omega⟩
      obtain ⟨B, eB⟩ : ∃ B : Nat, ps[i].B = B := ⟨ps[i].B.toNat, by omega⟩
      have lA : A < a.length := by omega
      have lB : B < b.length := by omega
      simp [h2, eA, eB, lA, lB, setOb, List.filter_cons]
      refine callFK_of (ratio_Sub (rawOf_ok (left_fits (f := Pr.A) k1 kK oa op A hi)) okw') (by simp [toD_rawc, raw_v]) ?_
      simp [ratV, raw_v, rawOf_q, eA, eB, lA, lB, setOb, List.filter_cons]
      refine callFK_of (ratio_Sub (rawOf_ok (left_fits (f := Pr.B) k1 kK ob op B hi)) okw') (by simp [toD_rawc, raw_v]) ?_
      simp [ratV, raw_v, rawOf_q, eA, eB, lA, lB, setOb, List.filter_cons, offs, V.off]
      have eb : (List.map Raw.c (rowsOf b Pr.B (List.take i ps))).set B (rawOf (left b Pr.B (List.take i ps) B - ps[i].w.q)).c = List.map Raw.c (rowsOf b Pr.B (List.take (i + 1) ps)) := by
        rw [rowsOf_snoc h1 eB, List.map_set]
      have ea : (List.map Raw.c (rowsOf a Pr.A (List.take i ps))).set A (rawOf (left a Pr.A (List.take i ps) A - ps[i].w.q)).c = List.map Raw.c (rowsOf a Pr.A (List.take (i + 1) ps)) := by
        rw [rowsOf_snoc h1 eA, List.map_set]
      rw [ea, eb, wrap64 (by omega) (by omega)]
      refine ⟨i + 1, ⟨h1, fun j hj => ?_⟩, by dsimp only; omega, ?_⟩
      · by_cases e : j = i
        · rw [e, hpa, decide_eq_true (show 0 ≤ ps[i].A ∧ ps[i].A < a.length ∧ 0 ≤ ps[i].B ∧ ps[i].B < b.length by omega), hr, hord, decide_eq_true hq]; rfl
        · exact hb j (by omega)
      · refine weak_obs ?_ (by simp) (by repeat (first | exact sin_empty | refine sin_set (by simp) ?_)) ?_
        · repeat (first | exact sub_empty | refine sub_set (by simp) ?_)
        · simp
          refine ⟨fun x hx y hy => rawc_within _ y hy, fun x hx y hy => rawc_within _ y hy⟩
  · have hil : i = ps.length := by omega
    subst hil
    have hall : (List.range ps.length).all (okAt a.length b.length ps) = true := by
      rw [List.all_eq_true]; intro j hj; exact hb j (by simpa using hj)
    simp [h1, hall]
    have et : List.take b.length (List.map Raw.c (rowsOf b Pr.B ps)) = List.map Raw.c (rowsOf b Pr.B ps) := List.take_of_length_le (by simp)
    have lr := rowsOf_length b Pr.B ps
    rw [et]
    cases er : rowsOf b Pr.B ps with
    | nil => rw [er] at lr; exact (nb lr.symm).elim
    | cons y r =>
    rw [er] at lr
    simp at lr
    simp [lr, setOb, List.filter_cons]
    rw [if_pos (by omega)]
    simp
    refine callK_of (contains_Ratio (l := rowsOf a Pr.A ps ++ rowsOf b Pr.B ps) (p := fun x => decide (0 < x.num.length)) (by simp; omega) (fun _ _ => couple_Couples_1)) ?_ ?_
    · simp
      rw [E.toD_ref (k := 11) (st := .own) (es := 3) (l := (rowsOf a Pr.A ps ++ rowsOf b Pr.B ps).map Raw.c) (by simp [E.look, er]) (by simp) (by simp) (by simp) (by omega) (fun r hr => by obtain ⟨x, _, rfl⟩ := List.mem_map.1 hr; exact toD_rawc _ _ _), E.toD_clo0]
      simp [F.couple_Couples_1]
    rw [List.any_append]
    simp
    rw [rows_clear, rows_clear]
end Go.Proofs.YtnneehniendnfaaGreat

namespace Go.Proofs.YtnneehniendnfaaGreat
open Go Go.Proofs Go.Proofs.YtnneehniendnfaaGreat.E
set_option linter.unusedSimpArgs false
set_option linter.unusedVariables false
end Go.Proofs.YtnneehniendnfaaGreat
