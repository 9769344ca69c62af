/- Joined texts: CPri5. -/
import Derived.Test.YtipbefckimdkkaaGreatHC
/- Functions of the program, as the engine reads them; each is held against the translation. -/
namespace Go.Proofs.YtipbefckimdkkaaGreat.F
open Go Go.Proofs Go.Proofs.YtipbefckimdkkaaGreat.E Go.Proofs.YtipbefckimdkkaaGreat.Q
abbrev own_Value : Nat := 67
def own_Value_c : MFn :=
  ⟨8,(.seq (r [o 1 (.box (.t 0)),o 2 (.alloc [.int .i64 0,.int .i64 0,.nils])] [1,2]) (.seq (r [o 3 (.fA 2 (.t 1)),o 4 (.ld none (.t 3)),o 5 (.call 107 [(.t 4)]),o 6 (.fA 2 (.t 1)),z (.st 1 (.t 6)
  (.t 5))] [1,2]) (.seq (r [o 7 (.ld (some 3) (.t 1)),z (.st 3 (.t 2) (.t 7))] [2]) .ret))),[.cell 2 (some 3)]⟩
theorem own_Value_ok : cFn Tryz.prog (kps [[1,2],[1,2],[2]]) [] 67 = some own_Value_c := by kernel_rfl
abbrev own_Values : Nat := 107
def own_Values_c : MFn :=
  ⟨19,(.seq (r [o 2 (.mv (.c .nils))] [0]) (.seq (r [o 3 (.mv (.c .nils))] [0,3]) (.seq (.seq (r [o 6 (.mv (.t 0)),o 7 (.lenS (.t 6)),o 8 (.mv (i 0))] [3,6,7,8])
  (.block 0 (.loop (.seq (r [o 9 (.bin .lss (.t 8) (.t 7))] [3,6,7,8,9]) (.seq (.cond (.t 9) .skip (.exit 0)) (.seq (.block 1 (.seq (r [o 10 (.ixA 3 (.t 6) (.t 8)),o 11 (.ld (some 3) (.t 10)),
  o 5 (.alloc [.int .i64 0,.int .i64 0,.nils]),z (.st 3 (.t 5) (.t 11))] [3,5,6,7,8]) (r [o 12 (.mv (.t 3)),o 13 (.ld (some 3) (.t 5)),o 14 (.call 67 [(.t 13)]),o 15 (.buildSl 3 1 [.int .i64 0,
  .int .i64 0,.nils] [(0,(.t 14))]),o 16 (.app 3 40 (.t 12) (.t 15)),o 3 (.mv (.t 16))] [3,6,7,8]))) (r [o 17 (.bin .add (.t 8) (i 1)),o 8 (.mv (.t 17))] [3,6,7,8]))))))) (.seq (r [o 18 (.mv (.t 3)),
  o 2 (.mv (.t 18))] [2]) .ret)))),[.t 2]⟩
theorem own_Values_ok : cFn Tryz.prog (kps [[0],[0,3],[3,6,7,8],[3,6,7,8,9],[3,5,6,7,8],[3,6,7,8],[3,6,7,8],[2]]) [] 107 = some own_Values_c := by kernel_rfl
abbrev privacy_Worst : Nat := 25
def privacy_Worst_c : MFn :=
  ⟨43,(.seq (r [o 5 (.box (.t 2)),o 6 (.mv (.c .nils)),o 7 (.mv (i 0))] [0,1,5]) (.seq (.seq (r [o 12 (.mv (.t 0)),o 13 (.mv (.t 1)),o 14 (.call 50 [(.t 12),(.t 13)]),o 15 (.un .not (.t 14)),
  o 16 (.mv (.t 15)),n 17 16 (.ld (some 3) (.t 5)),n 18 16 (.call 51 [(.t 17)]),n 19 16 (.un .not (.t 18)),o 20 (.pick (.t 16) (.c (.bool true)) (.t 19))] [0,1,5,20]) (.cond (.t 20)
  (.seq (r [o 6 (.mv (.c .nils)),o 7 (.mv (i 1))] [6,7]) .ret) .skip)) (.seq (r [o 8 (.mv (.c .nils))] [0,1,5,8]) (.seq (.seq (r [o 21 (.mv (.t 0)),o 22 (.lenS (.t 21)),o 23 (.mv (i 0))] [1,5,8,21,22,
  23]) (.block 0 (.loop (.seq (r [o 24 (.bin .lss (.t 23) (.t 22))] [1,5,8,21,22,23,24]) (.seq (.cond (.t 24) .skip (.exit 0)) (.seq (.block 1 (.seq (r [o 25 (.ixA 6 (.t 21) (.t 23)),
  o 26 (.ld (some 6) (.t 25)),o 10 (.alloc [.int .i64 0,.int .i64 0,.nils,.bool false,.nils,.nils]),z (.st 6 (.t 10) (.t 26))] [1,5,8,10,21,22,23]) (.seq (r [o 27 (.ld (some 6) (.t 10)),
  o 28 (.mv (.t 1)),o 29 (.ld (some 3) (.t 5)),o 30 (.call 66 [(.t 27),(.t 28),(.t 29)]),o 11 (.alloc [.bool false,.nils,.nils]),z (.st 3 (.t 11) (.t 30))] [1,5,8,10,11,21,22,23])
  (.seq (r [o 31 (.fA 1 (.t 11)),o 32 (.ld none (.t 31)),o 33 (.lenS (.t 32)),o 34 (.bin .gtr (.t 33) (i 0))] [1,5,8,10,21,22,23,34]) (.cond (.t 34) (r [o 35 (.mv (.t 8)),o 36 (.fA 0 (.t 10)),
  o 37 (.ld (some 3) (.t 36)),o 38 (.call 67 [(.t 37)]),o 39 (.buildSl 3 1 [.int .i64 0,.int .i64 0,.nils] [(0,(.t 38))]),o 40 (.app 3 40 (.t 35) (.t 39)),o 8 (.mv (.t 40))] [1,5,8,21,22,23])
  .skip))))) (r [o 41 (.bin .add (.t 23) (i 1)),o 23 (.mv (.t 41))] [1,5,8,21,22,23]))))))) (.seq (r [o 42 (.mv (.t 8)),o 6 (.mv (.t 42)),o 7 (.mv (i 0))] [6,7]) .ret))))),[.t 6,.t 7]⟩
theorem privacy_Worst_ok : cFn Tryz.prog (kps [[0,1,5],[0,1,5,20],[6,7],[0,1,5,8],[1,5,8,21,22,23],[1,5,8,21,22,23,24],[1,5,8,10,21,22,23],[1,5,8,10,11,21,22,23],[1,5,8,10,21,22,23,34],[1,5,8,21,22,23],[1,5,8,21,22,23],[6,7]]) [] 25 = some privacy_Worst_c := by kernel_rfl
end Go.Proofs.YtipbefckimdkkaaGreat.F

namespace Go.Proofs.YtipbefckimdkkaaGreat
open Go Go.Proofs Go.Proofs.YtipbefckimdkkaaGreat.E
set_option linter.unusedSimpArgs false
set_option linter.unusedVariables false
theorem manyL_ge' : ∀ (l : List Tr) (n : Int), n ≤ manyL l n
  | [], n => by simp [manyL]
  | x :: l, n => by
    have h1 := (manyT_range x).1
    have h2 := manyL_ge' l (n + manyT x)
    have := manyL_step (l := x :: l) (i := 0) (by simp) n
    simp at this
    rw [this]
    split <;> omega
theorem many_few : ∀ {l : List Tr} {n : Int}, 0 ≤ n → manyL l n ≤ 60 → (l.length : Int) + n ≤ 60 ∧ ∀ x ∈ l, manyT x ≤ 60
  | [], n, _, h => by
    have := manyL_ge' [] n
    simp; omega
  | x :: l, n, n0, h => by
    have h0 := manyL_ge' (x :: l) n
    have h1 := (manyT_range x).1
    have := manyL_step (l := x :: l) (i := 0) (by simp) n
    simp at this
    rw [this, if_pos (by omega)] at h
    obtain ⟨h2, h3⟩ := many_few (by omega) h
    have h4 := manyL_ge' l (n + manyT x)
    refine ⟨by simp; omega, fun y hy => ?_⟩
    rcases List.mem_cons.1 hy with rfl | hy
    · omega
    · exact h3 y hy
theorem own_Values {l : List Tr} (hl : l.length ≤ 60) (hv : ∀ t ∈ l, CallD Tryz.prog F.own_Value [.agg t.cells] (· = .agg t.cells)) : CallD Tryz.prog F.own_Values [tl l] (· = tl l) := by
  refine callD_by F.own_Values_ok ?_
  unfold F.own_Values_c
  simp [setOb, List.filter_cons]
  refine wm_loop (fun g : Nat × Nat => ((((Sl.empty.set 8 (.int .i64 g.2)).set 7 (.int .i64 l.length)).set 6 (tl l)).set 3 (grown g.1 g.2), grownS g.1 3 g.2 ((l.map Tr.cells).take g.2)))
    (fun g => g.2 ≤ l.length) (fun g => l.length - g.2) (0, 0) (by simp) ?_ ?_
  · refine weak_obs ?_ (by simp [grown_zero, grownS_zero]) (by repeat (first | exact sin_empty | refine sin_set (by simp [grown_zero]) ?_)) (by simp [grown_zero, grownS_zero])
    simp only [grown_zero]
    repeat (first | exact sub_empty | refine sub_set (by simp) ?_)
  rintro ⟨o, i⟩ hi
  dsimp only at hi
  have hw : ∀ n, ∀ r ∈ List.take n (l.map Tr.cells), ∀ y ∈ r, ∀ p : Nat → Bool, y.within p = true := fun n r hr y hy p => by
    obtain ⟨x, _, rfl⟩ := List.mem_map.1 (List.mem_of_mem_take hr)
    exact cells_within _ y hy
  by_cases h1 : i < l.length
  · have e1 : List.take (i + 1) (l.map Tr.cells) = List.take i (l.map Tr.cells) ++ [l[i].cells] := by
      rw [List.take_succ_eq_append_getElem (by simpa using h1)]; simp
    have hih := hv l[i] (List.getElem_mem h1)
    by_cases hi0 : i = 0
    · subst hi0
      simp at e1
      simp [h1, grown_zero, grownS_zero, setOb, List.filter_cons]
      refine callK_of hih (by simp [toD_cells]) ?_
      simp (disch := omega) [setOb, List.filter_cons, Nat.max_eq_right, Nat.max_eq_left, if_neg, if_pos]
      rw [wrap64 (by omega) (by omega)]
      refine ⟨(2, 1), h1, by dsimp only; omega, ?_⟩
      refine weak_obs ?_ ?_ (by simp only [grown_pos (show 1 ≠ 0 by omega)]; repeat (first | exact sin_empty | refine sin_set (by simp [grownS_pos]) ?_)) ?_
      · simp only [grown_pos (show 1 ≠ 0 by omega)]
        repeat (first | exact sub_empty | refine sub_set (by simp) ?_)
      · simp [grownS_pos, e1]
      · simp only [grownS_pos (show 1 ≠ 0 by omega)]
        intro p hp r hr y hy
        simp at hp; subst hp
        exact hw _ r hr y hy _
    · simp (disch := omega) [h1, grown_pos hi0, grownS_pos hi0, setOb, List.filter_cons, Nat.max_eq_right, Nat.max_eq_left, if_neg, if_pos]
      refine callK_of hih (by simp [toD_cells]) ?_
      simp (disch := omega) [setOb, List.filter_cons, Nat.max_eq_right, Nat.max_eq_left, if_neg, if_pos]
      rw [wrap64 (by omega) (by omega)]
      refine ⟨(o + 3, i + 1), h1, by dsimp only; omega, ?_⟩
      refine weak_obs ?_ ?_ (by simp only [grown_pos (show i + 1 ≠ 0 by omega)]; repeat (first | exact sin_empty | refine sin_set (by simp [grownS_pos]) ?_)) ?_
      · simp only [grown_pos (show i + 1 ≠ 0 by omega)]
        repeat (first | exact sub_empty | refine sub_set (by simp) ?_)
      · simp [grownS_pos, e1]
      · simp only [grownS_pos (show i + 1 ≠ 0 by omega)]
        intro p hp r hr y hy
        simp at hp; subst hp
        exact hw _ r hr y hy _
  · have hil : i = l.length := by omega
    subst hil
    simp [h1]
    rw [toD_grown (k := 11) (st := .own) (es := 3) (l := l.map Tr.cells) (fun h => by simp [grownS_pos h, E.look, List.take_of_length_le]) (by simp) (by simp) (by simp) (fun r hr => by obtain ⟨x, _, rfl⟩ := List.mem_map.1 hr; exact toD_cells _ _ _)]
theorem own_Value : ∀ {v : Tr}, v.Ok → manyT v ≤ 60 → CallD Tryz.prog F.own_Value [.agg v.cells] (· = .agg v.cells) := by
  intro v
  induction v using Tr.ind with
  | h k n l ih =>
    intro hv hm
    rw [manyT_mk] at hm
    obtain ⟨m1, m2⟩ := many_few (l := l) (n := 1) (by omega) (by omega)
    cases hv with
    | mk hk hn hl hc =>
      refine callD_by F.own_Value_ok ?_
      unfold F.own_Value_c
      simp [setOb, List.filter_cons, cells_mk]
      refine callK_of (own_Values (by omega) fun t ht => ih t ht (hc t ht) (m2 t ht)) (by simp) ?_
      simp [setOb, List.filter_cons]
def worstT (a b : List Part) (r : Rat) : List Tr := (a.filter fun p => decide (¬ moreQ p b r = 0)).map (·.v)
theorem worstT_take {a b : List Part} {r : Rat} {j : Nat} (h : j < a.length) : worstT (a.take (j + 1)) b r = if moreQ a[j] b r = 0 then worstT (a.take j) b r else worstT (a.take j) b r ++ [a[j].v] := by
  unfold worstT
  rw [List.take_succ_eq_append_getElem h, List.filter_append]
  by_cases h0 : moreQ a[j] b r = 0
  · simp [h0]
  · simp [h0]
theorem num_pos_iff {r : Rat} : 0 < (rawOf r).num.length ↔ ¬ r = 0 := by
  have h := sgnR_raw r
  have h2 := @sgnR_eq r
  rw [List.length_pos_iff]
  constructor
  · intro h3 h4
    rw [if_neg h3] at h
    rw [h2.2 h4] at h
    split at h <;> omega
  · intro h3 h4
    rw [if_pos h4] at h
    exact h3 (h2.1 h)
theorem rawc_num (x : Raw) : x.c[1]? = some (nat x.num) := (rfl)
set_option maxHeartbeats 8000000 in
theorem privacy_Worst {a b : List Part} {x : Raw} (ra : rightP a = true) (rb : rightP b = true) (rx : ratedB x = true) (oa : ∀ p ∈ a, p.Ok 1000000) (ob : ∀ p ∈ b, p.Ok 1000000) (hx : x.Ok 1000000) (hm : ∀ p ∈ a, manyT p.v ≤ 60) : CallD Tryz.prog F.privacy_Worst [pl a, pl b, x.v] (· = .tup [tl (worstT a b x.q), .int .i64 0]) := by
  have ga := good_of ra oa
  have gb := good_of rb ob
  have la := ga.le
  have lb := gb.le
  refine callD_by F.privacy_Worst_ok ?_
  unfold F.privacy_Worst_c
  simp [setOb, List.filter_cons, raw_v]
  refine callK_of (privacy_both (by omega) (by omega) oa ob) (by simp) ?_
  rw [ra, rb]
  simp
  refine callK_of (privacy_rated (hx.mono (by omega))) (by simp [toD_rawc, raw_v]) ?_
  rw [rx]
  simp
  refine wm_loop (fun g : Nat × Nat => ((((((Sl.empty.set 23 (.int .i64 g.2)).set 22 (.int .i64 a.length)).set 21 (pl a)).set 8 (grown g.1 (worstT (a.take g.2) b x.q).length)).set 5 (.ptr 0 0 0)).set 1 (pl b), [(0, ⟨.own, 3, [x.c]⟩)] ++ grownS g.1 3 (worstT (a.take g.2) b x.q).length ((worstT (a.take g.2) b x.q).map Tr.cells)))
    (fun g => g.2 ≤ a.length ∧ 0 < g.1) (fun g => a.length - g.2) (1, 0) (by simp) ?_ ?_
  · refine weak_obs ?_ (by simp [worstT, grown_zero, grownS_zero]) (by repeat (first | exact sin_empty | refine sin_set (by simp [worstT, grown_zero]) ?_)) (by simp [worstT, grown_zero, grownS_zero]; exact fun y hy => rawc_within _ y hy)
    simp only [List.take_zero, worstT, List.filter_nil, List.map_nil, List.length_nil, grown_zero]
    repeat (first | exact sub_empty | refine sub_set (by simp) ?_)
  rintro ⟨o, j⟩ ⟨hj, o0⟩
  dsimp only at hj o0
  have o0' : ¬ o = 0 := by omega
  have wi : ∀ (l : List Tr) (r : List V), r ∈ l.map Tr.cells → ∀ (y : V), y ∈ r → ∀ (p : Nat → Bool), V.within p y = true := fun l r hr y hy p => by
    obtain ⟨x, _, rfl⟩ := List.mem_map.1 hr
    exact cells_within _ y hy
  by_cases h2 : j < a.length
  · have okp := oa a[j] (List.getElem_mem h2)
    have hst := worstT_take (b := b) (r := x.q) h2
    have lim : (worstT (a.take j) b x.q).length ≤ 100 := by
      unfold worstT
      rw [List.length_map]
      have h1 := List.length_filter_le (fun p : Part => decide (¬ moreQ p b x.q = 0)) (a.take j)
      have h3 : (a.take j).length ≤ a.length := by rw [List.length_take]; omega
      omega
    have tk : List.take 6 (partC a[j]) = partC a[j] := by simp
    have mf := more_fits okp gb.ok (Raw.fits hx (by omega))
    have hown := own_Value okp.v (hm _ (List.getElem_mem h2))
    generalize hW : worstT (a.take j) b x.q = W at *
    have wiW := wi W
    by_cases hz : moreQ a[j] b x.q = 0
    · rw [if_pos hz] at hst
      have hn : ¬ 0 < (rawOf (moreQ a[j] b x.q)).num.length := fun h => num_pos_iff.1 h hz
      by_cases n0 : W = []
      · subst n0
        simp [h2, grown_zero, grownS_zero, setOb, List.filter_cons]
        refine callK_of (privacy_more okp gb hx) (by simp [toD_rawc, toD_partC, raw_v]) ?_
        simp [ratV, raw_v, setOb, List.filter_cons, rawc_num, hn]
        rw [wrap64 (by omega) (by omega)]
        refine ⟨(o, j + 1), ⟨h2, o0⟩, by dsimp only; omega, ?_⟩
        dsimp only
        rw [hst]
        refine weak_obs ?_ (by simp [grownS_zero]) (by simp only [List.length_nil, grown_zero]; repeat (first | exact sin_empty | refine sin_set (by simp) ?_)) (by simp [grownS_zero]; exact fun y hy => rawc_within _ y hy)
        simp only [List.length_nil, grown_zero]
        repeat (first | exact sub_empty | refine sub_set (by simp) ?_)
      · have n0' : W.length ≠ 0 := fun h => n0 (List.length_eq_zero_iff.1 h)
        simp (disch := omega) [h2, grown_pos n0', grownS_pos n0', setOb, List.filter_cons, Nat.max_eq_right, Nat.max_eq_left, if_neg, if_pos]
        refine callK_of (privacy_more okp gb hx) (by simp [toD_rawc, toD_partC, raw_v]) ?_
        simp (disch := omega) [ratV, raw_v, setOb, List.filter_cons, rawc_num, hn, Nat.max_eq_right, Nat.max_eq_left, if_neg, if_pos]
        rw [wrap64 (by omega) (by omega)]
        refine ⟨(o, j + 1), ⟨h2, o0⟩, by dsimp only; omega, ?_⟩
        dsimp only
        rw [hst]
        refine weak_obs ?_ ?_ (by simp only [grown_pos n0']; repeat (first | exact sin_empty | refine sin_set (by simp [grownS_pos n0']) ?_)) ?_
        · simp only [grown_pos n0']
          repeat (first | exact sub_empty | refine sub_set (by simp) ?_)
        · simp (disch := omega) [grownS_pos n0', o0', if_neg]
        · simp only [grownS_pos n0']
          intro p hp r hr y hy
          simp at hp
          rcases hp with rfl | rfl
          · simp at hr; subst hr; exact rawc_within _ y hy
          · exact wiW r hr y hy _
    · rw [if_neg hz] at hst
      have hn : 0 < (rawOf (moreQ a[j] b x.q)).num.length := num_pos_iff.2 hz
      by_cases n0 : W = []
      · subst n0
        simp [h2, grown_zero, grownS_zero, setOb, List.filter_cons]
        refine callK_of (privacy_more okp gb hx) (by simp [toD_rawc, toD_partC, raw_v]) ?_
        simp [ratV, raw_v, setOb, List.filter_cons, rawc_num, hn]
        refine callK_of hown (by simp [toD_cells]) ?_
        simp (disch := omega) [setOb, List.filter_cons, Nat.max_eq_right, Nat.max_eq_left, if_neg, if_pos]
        rw [wrap64 (by omega) (by omega)]
        refine ⟨(4, j + 1), ⟨h2, by simp⟩, by dsimp only; omega, ?_⟩
        dsimp only
        rw [hst]
        simp only [List.nil_append, List.length_singleton, grown_pos (show 1 ≠ 0 by omega), grownS_pos (show 1 ≠ 0 by omega)]
        refine weak_obs ?_ (by simp) (by repeat (first | exact sin_empty | refine sin_set (by simp) ?_)) ?_
        · repeat (first | exact sub_empty | refine sub_set (by simp) ?_)
        · intro p hp r hr y hy
          simp at hp
          rcases hp with rfl | rfl
          · simp at hr; subst hr; exact rawc_within _ y hy
          · exact wi [a[j].v] r (by simpa using hr) y hy _
      · have n0' : W.length ≠ 0 := fun h => n0 (List.length_eq_zero_iff.1 h)
        simp (disch := omega) [h2, grown_pos n0', grownS_pos n0', setOb, List.filter_cons, Nat.max_eq_right, Nat.max_eq_left, if_neg, if_pos]
        refine callK_of (privacy_more okp gb hx) (by simp [toD_rawc, toD_partC, raw_v]) ?_
        simp (disch := omega) [ratV, raw_v, setOb, List.filter_cons, rawc_num, hn, Nat.max_eq_right, Nat.max_eq_left, if_neg, if_pos]
        refine callK_of hown (by simp [toD_cells]) ?_
        simp (disch := omega) [setOb, List.filter_cons, Nat.max_eq_right, Nat.max_eq_left, if_neg, if_pos]
        rw [wrap64 (by omega) (by omega)]
        refine ⟨(o + 4, j + 1), ⟨h2, by simp⟩, by dsimp only; omega, ?_⟩
        dsimp only
        rw [hst]
        have n1 : (W ++ [a[j].v]).length ≠ 0 := by simp
        simp only [grown_pos n1, grownS_pos n1]
        refine weak_obs ?_ ?_ (by repeat (first | exact sin_empty | refine sin_set (by simp) ?_)) ?_
        · rw [List.length_append]
          repeat (first | exact sub_empty | refine sub_set (by simp) ?_)
        · simp [o0']
        · intro p hp r hr y hy
          simp at hp
          rcases hp with rfl | rfl
          · simp at hr; subst hr; exact rawc_within _ y hy
          · exact wi (W ++ [a[j].v]) r (by simpa using hr) y hy _
  · have hjl : j = a.length := by omega
    subst hjl
    rw [List.take_length]
    simp [h2]
    rw [toD_grown (k := 10) (st := .own) (es := 3) (l := (worstT a b x.q).map Tr.cells) (fun h => by simp [grownS_pos h, E.look]; omega) (by simp) (by simp) (by simp) (fun r hr => by obtain ⟨x, _, rfl⟩ := List.mem_map.1 hr; exact toD_cells _ _ _)]
end Go.Proofs.YtipbefckimdkkaaGreat
