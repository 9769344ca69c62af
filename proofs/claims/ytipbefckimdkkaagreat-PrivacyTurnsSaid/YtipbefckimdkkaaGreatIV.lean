import Derived.Test.YtipbefckimdkkaaGreatIS
import Derived.Test.YtipbefckimdkkaaGreatHF
import Derived.Test.YtipbefckimdkkaaGreatGD
import Derived.Test.YtipbefckimdkkaaGreatGC
import Derived.Test.YtipbefckimdkkaaGreatProg
import Derived.KernelRfl
import Derived.Test.YtipbefckimdkkaaGreatIT
namespace Go.Proofs.YtipbefckimdkkaaGreat.F
open Go Go.Proofs Go.Proofs.YtipbefckimdkkaaGreat.E Go.Proofs.YtipbefckimdkkaaGreat.Q
abbrev law36_table_turn : Nat := 47
def law36_table_turn_c : MFn := ⟨33,(.seq (r [o 2 (.box (.t 0)),o 3 (.box (.t 1)),o 4 (.mv (.c .nils))] [2,3]) (.seq (.seq (r [o 6 (.fA 0 (.t 2)),o 7 (.ld none (.t 6)),o 8 (.lenS (.t 7)),o 9 (.mv (i 0))] [2,3,8,9]) (.block 0 (.loop (.seq (r [o 10 (.bin .lss (.t 9) (.t 8))] [2,3,8,9,10]) (.seq (.cond (.t 10) .skip (.exit 0)) (.seq (.block 1 (.seq (r [o 11 (.mv (.t 9)),o 5 (.mv (.t 11))] [2,3,5,8,9]) (.seq (r [o 12 (.mv (.t 5)),o 13 (.fA 1 (.t 2)),o 14 (.ld none (.t 13)),o 15 (.lenS (.t 14)),o 16 (.bin .lss (.t 12) (.t 15)),o 17 (.mv (.t 16)),y 18 17 (.fA 0 (.t 2)),y 19 17 (.ld none (.t 18)),y 20 17 (.mv (.t 5)),y 21 17 (.ixA 6 (.t 19) (.t 20)),y 22 17 (.fA 0 (.t 21)),y 23 17 (.ld (some 3) (.t 22)),y 24 17 (.ld (some 3) (.t 3)),y 25 17 (.callF 70 [(.t 23),(.t 24)]),o 26 (.pick (.t 17) (.t 25) (.c (.bool false)))] [2,3,5,8,9,26]) (.cond (.t 26) (.seq (r [o 27 (.fA 1 (.t 2)),o 28 (.ld none (.t 27)),o 29 (.mv (.t 5)),o 30 (.ixA 1 (.t 28) (.t 29)),o 31 (.ld none (.t 30)),o 4 (.mv (.t 31))] [4]) .ret) .skip)))) (r [o 32 (.bin .add (.t 9) (i 1)),o 9 (.mv (.t 32))] [2,3,8,9]))))))) (.seq (r [o 4 (.mv (.c .nils))] [4]) .ret))),[.t 4]⟩
theorem law36_table_turn_ok : cFn Tryz.prog (kps [[2,3],[2,3,8,9],[2,3,8,9,10],[2,3,5,8,9],[2,3,5,8,9,26],[4],[2,3,8,9],[4]]) [] 47 = some law36_table_turn_c := by kernel_rfl
abbrev privacy_asked : Nat := 90
def privacy_asked_c : MFnD :=
 ⟨14,[o 3 (.box (.t 1)),o 4 (.alloc [.nils]),o 5 (.alloc [.bool false])],6,126,[(.t 4),(.t 5)],(.seq (r [o 7 (.mv (.t 0)),o 8 (.ld (some 3) (.t 3)),o 9 (.callF 67 [(.t 8)]),o 10 (.rd2 .bnd [(.t 7),(.t 9)]),z (.st 1 (.t 4) (.t 10))] [4,5]) (.seq (r [o 11 (.ld none (.t 4)),o 12 (.ld none (.t 4)),o 13 (.callF 87 [(.t 12)]),z (.st 1 (.t 4) (.t 11)),z (.st 1 (.t 5) (.t 13))] [4,5]) .ret)),[.cell 4 none,.cell 5 none]⟩
theorem privacy_asked_ok : cFnD Tryz.prog (kps [[0,3,4,5],[0,3,4,5],[4,5],[4,5]]) [2002] 90 = some privacy_asked_c := by kernel_rfl
end Go.Proofs.YtipbefckimdkkaaGreat.F

namespace Go.Proofs.YtipbefckimdkkaaGreat
open Go Go.Proofs Go.Proofs.YtipbefckimdkkaaGreat.E
set_option linter.unusedSimpArgs false
set_option linter.unusedVariables false
abbrev lls (t : List (List Part)) : V := .dat (t.map fun l => [pl l])
abbrev tblV (f : List Part) (t : List (List Part)) : V := .clo (F.law36_table_turn + bm) [.agg [pl f, lls t]]
set_option maxHeartbeats 4000000 in
theorem table_turn {f : List Part} {t : List (List Part)} {v : Tr} (lf : f.length ≤ 1000000) (lt : t.length ≤ 1000000) (of : ∀ p ∈ f, p.v.Ok) (hv : v.Ok) : CallD Tryz.prog F.law36_table_turn [.agg [pl f, lls t], .agg v.cells] (· = pl (tbl f t v)) := by
 refine callD_by F.law36_table_turn_ok ?_
 unfold F.law36_table_turn_c
 simp [setOb, List.filter_cons]
 refine wm_loop (fun g : Nat => (((((Sl.empty.set 9 (.int .i64 g)).set 8 (.int .i64 f.length)).set 3 (.ptr 1 0 0)).set 2 (.ptr 0 0 0)), [(0, ⟨.own, 2, [[pl f, lls t]]⟩), (1, ⟨.own, 3, [v.cells]⟩)])) (fun g => g ≤ f.length ∧ tbl (f.drop g) (t.drop g) v = tbl f t v) (fun g => f.length - g) 0 (by simp) ?_ ?_
 ·refine weak_obs ?_ (by simp) (by repeat (first | exact sin_empty | refine sin_set (by simp) ?_)) (by simp; exact fun y hy => cells_within _ y hy)
  repeat (first | exact sub_empty | refine sub_set (by simp) ?_)
 rintro i ⟨hi, ht⟩
 by_cases h1 : i < f.length
 ·have okp := of _ (List.getElem_mem h1)
  have e1 : f.drop i = f[i] :: f.drop (i + 1) := List.drop_eq_getElem_cons h1
  by_cases h2 : i < t.length
  ·have e2 : t.drop i = t[i] :: t.drop (i + 1) := List.drop_eq_getElem_cons h2
   rw [e1, e2, tbl_cons] at ht
   simp [h1, h2]
   refine callFK_of (ref03_Same okp hv) (by simp [toD_cells]) ?_
   by_cases c : f[i].v = v
   ·rw [if_pos c] at ht
    simp [c, cmpT_self, h2, ← ht]
   ·rw [if_neg c] at ht
    simp [c, cmpT_zero]
    rw [wrap64 (by omega) (by omega)]
    refine ⟨i + 1, ⟨h1, ht⟩, by dsimp only; omega, ?_⟩
    refine weak_obs ?_ (by simp) (by repeat (first | exact sin_empty | refine sin_set (by simp) ?_)) (by simp; exact fun y hy => cells_within _ y hy)
    repeat (first | exact sub_empty | refine sub_set (by simp) ?_)
  ·have e2 : t.drop i = [] := List.drop_eq_nil_of_le (by omega)
   have e3 : t.drop (i + 1) = [] := List.drop_eq_nil_of_le (by omega)
   rw [e2, tbl_none] at ht
   simp [h1, h2]
   rw [wrap64 (by omega) (by omega)]
   refine ⟨i + 1, ⟨h1, by rw [e3, tbl_none]; exact ht⟩, by dsimp only; omega, ?_⟩
   refine weak_obs ?_ (by simp) (by repeat (first | exact sin_empty | refine sin_set (by simp) ?_)) (by simp; exact fun y hy => cells_within _ y hy)
   repeat (first | exact sub_empty | refine sub_set (by simp) ?_)
 ·have e1 : f.drop i = [] := List.drop_eq_nil_of_le (by omega)
  rw [e1, tbl_nil] at ht
  simp [h1, ← ht]
theorem toP_cellsT (σ : Sto) (n : Nat) (t : Tr) : mapO (toP σ (n + 1)) t.cells = some t.cells := by
 cases t; simp [cells_mk, toP, mapO]
theorem rchP_cellsT (σ : Sto) (n : Nat) (t : Tr) : t.cells.flatMap (rchP σ (n + 1)) = [] := by
 cases t; simp [cells_mk, rchP]
theorem toPs_turn (σ : Sto) (f : List Part) (t : List (List Part)) (v : Tr) : toPs σ ([V.agg [pl f, lls t]] ++ [V.agg v.cells]) = some [.agg [pl f, lls t], .agg v.cells] := by
 have a : toP σ deep (.agg [pl f, lls t]) = some (.agg [pl f, lls t]) := rfl
 have b : toP σ deep (.agg v.cells) = some (.agg v.cells) := by
  show (mapO (toP σ 11) v.cells).map V.agg = _
  rw [toP_cellsT]; rfl
 exact toPs_cons a (toPs_cons b (toPs_nil σ))
theorem rchPs_turn (σ : Sto) (f : List Part) (t : List (List Part)) (v : Tr) : rchPs σ ([V.agg [pl f, lls t]] ++ [V.agg v.cells]) = [] := by
 have a : rchP σ deep (.agg [pl f, lls t]) = [] := rfl
 have b : rchP σ deep (.agg v.cells) = [] := rchP_cellsT σ 10 v
 show rchP σ deep _ ++ (rchP σ deep _ ++ []) = []
 rw [a, b]; rfl
theorem asked_idle : Idle Tryz.prog F.privacy_asked_c.k 2 := idle_of (by kernel_rfl)
set_option maxHeartbeats 4000000 in
theorem privacy_asked {f : List Part} {t : List (List Part)} {v : Tr} (lf : f.length ≤ 1000000) (lt : t.length ≤ 1000000) (of : ∀ p ∈ f, p.v.Ok) (ot : ∀ l ∈ t, l.length ≤ 1000000 ∧ ∀ p ∈ l, p.Ok 1000000) (hv : v.Ok) (mv : manyT v ≤ 60) :
 CallD Tryz.prog F.privacy_asked [tblV f t, .agg v.cells] (· = .tup [pl (tbl f t v), .bool (rightP (tbl f t v))]) := by
 have hr : (tbl f t v).length ≤ 1000000 ∧ ∀ p ∈ tbl f t v, p.Ok 1000000 := by
  rcases tbl_mem (v := v) (f := f) (t := t) with h | h
  ·rw [h]; simp
  ·exact ot _ h
 refine callD_defer F.privacy_asked_ok (by kernel_rfl) asked_idle ?_
 unfold F.privacy_asked_c
 simp [setOb, List.filter_cons]
 refine ⟨[.ptr 1 0 0, .ptr 2 0 0], rfl, rfl, ?_⟩
 refine callFK_of (own_Value hv mv) (by simp [toD_cells]) ?_
 simp [setOb, List.filter_cons]
 refine rdK_bnd (table_turn lf lt of hv) (toPs_turn _ f t v) ?_
 simp only [behindP, rchPs_turn, frz_nil]
 simp [setOb, List.filter_cons]
 refine callFK_of (couple_Right (by omega) hr.2) (by simp) ?_
 simp [setOb, List.filter_cons]
def pSl (l : List Part) (i : Nat) (d : Bool) (o n : Nat) : Sl := ((((((Sl.empty.set 14 (.int .i64 i)).set 13 (.int .i64 l.length)).set 12 (pl l)).set 8 (.bool d)).set 7 (grown o n)).set 5 (.ptr 1 0 0)).set 4 (.ptr 0 0 0)
def pS0 (v : Tr) (w : Raw) (o : Nat) (G : List Part) : Sto := [(0, ⟨.own, 3, [v.cells]⟩), (1, ⟨.own, 3, [w.c]⟩)] ++ grownS o 6 G.length (G.map partC)
theorem weak_pS {S : Sl} {σ : Sto} {l G : List Part} {i o : Nat} {d : Bool} {v : Tr} {w : Raw} (hn : G ≠ []) (h1 : Sub (pSl l i d o G.length) S) (h2 : E.look σ 0 = some ⟨.own, 3, [v.cells]⟩) (h3 : E.look σ 1 = some ⟨.own, 3, [w.c]⟩) (h4 : E.look σ o = some (obL G)) : Weak [] (pSl l i d o G.length) (pS0 v w o G) S σ := by
 have n0 : G.length ≠ 0 := fun h => hn (List.length_eq_zero_iff.1 h)
 unfold pSl pS0 at *
 rw [grown_pos n0] at *
 rw [grownS_pos n0]
 refine weak_obs h1 ?_ (by repeat (first | exact sin_empty | refine sin_set (by simp) ?_)) ?_
 ·simp; exact ⟨h2, h3, h4⟩
 ·intro p hp r hr y hy
  simp at hp
  rcases hp with rfl | rfl | rfl
  ·simp at hr; subst hr; exact cells_within _ y hy
  ·simp at hr; subst hr; exact rawc_within _ y hy
  ·obtain ⟨c, _, rfl⟩ := List.mem_map.1 hr
   exact partC_inner c y hy _
theorem up_drop {l : List Part} (h : UpP l) {i : Nat} (hi : i < l.length) : ∀ p ∈ l.drop (i + 1), cmpT l[i].v p.v < 0 := by
 have h1 : UpP (l.drop i) := h.sublist (List.drop_sublist _ _)
 rw [List.drop_eq_getElem_cons hi] at h1
 exact (List.pairwise_cons.1 h1).1
set_option maxHeartbeats 16000000 in
theorem ref36_putP {l : List Part} {v : Tr} {w : Raw} (hl : l.length ≤ 10000) (ho : ∀ p ∈ l, p.v.Ok ∧ p.w.Ok (2 ^ 31)) (hu : UpP l) (hv : v.Ok) (hw : w.Ok (2 ^ 31)) (hn : w = rawOf w.q) : CallD Tryz.prog F.ref36_put [pl l, .agg v.cells, w.v] (· = pl (putP v w.q l)) := by
 refine callD_by F.ref36_put_ok ?_
 unfold F.ref36_put_c
 simp [setOb, List.filter_cons, raw_v]
 refine wm_loop (fun g : List Part × Bool × Nat × Nat => (pSl l g.2.2.1 g.2.1 g.2.2.2 g.1.length, pS0 v w g.2.2.2 g.1))
  (fun g => g.2.2.1 ≤ l.length ∧ 1 < g.2.2.2 ∧ g.1 ++ (if g.2.1 then l.drop g.2.2.1 else putP v w.q (l.drop g.2.2.1)) = putP v w.q l ∧ (g.1 = [] → g.2.2.1 = 0 ∧ g.2.1 = false) ∧ g.1.length ≤ g.2.2.1 + g.2.1.toNat ∧ (g.2.1 = true → ∀ p ∈ l.drop g.2.2.1, cmpT v p.v < 0)) (fun g => l.length - g.2.2.1) ([], false, 0, 2) (by simp) ?_ ?_
 ·unfold pSl pS0
  simp only [List.length_nil, grown_zero, grownS_zero]
  refine weak_obs ?_ (by simp) (by repeat (first | exact sin_empty | refine sin_set (by simp) ?_)) (by simp; exact ⟨fun y hy => cells_within _ y hy, fun y hy => rawc_within _ y hy⟩)
  repeat (first | exact sub_empty | refine sub_set (by simp) ?_)
 rintro ⟨G, d, i, o⟩ ⟨hi, o1, hG, hG0, hGl, hdn⟩
 dsimp only at hi o1 hG hG0 hGl hdn
 have q0 : ¬ o = 0 := by omega
 have q1 : ¬ o = 1 := by omega
 have p0 : ¬ 0 = o := by omega
 have p1 : ¬ 1 = o := by omega
 have ed : List.drop 6 (v.cells ++ [V.bool false, .nils, .nils]) = [] := List.drop_eq_nil_of_le (by simp)
 have et3 : List.take 3 (v.cells ++ [V.bool false, .nils, .nils]) = v.cells := List.take_left' (by simp)
 have ep : ∀ (u : Tr) (r : Raw), u.cells ++ [V.bool r.neg, nat r.num, nat r.den] = partC ⟨u, r⟩ := fun _ _ => rfl
 have ew : (⟨v, rawOf w.q⟩ : Part) = ⟨v, w⟩ := by rw [← hn]
 unfold pSl pS0
 by_cases h1 : i < l.length
 ·obtain ⟨okv, okw⟩ := ho _ (List.getElem_mem h1)
  have hud := up_drop hu h1
  have tk : List.take 6 (partC l[i]) = partC l[i] := by simp
  have ec3 : List.take 3 (partC l[i]) = l[i].v.cells := by unfold partC; exact List.take_left' (by simp)
  have ec6 : List.drop 3 (partC l[i]) = l[i].w.c := by unfold partC; exact List.drop_left' (by simp)
  have hd : l.drop i = l[i] :: l.drop (i + 1) := List.drop_eq_getElem_cons h1
  rw [hd] at hG
  by_cases g0 : G = []
  ·subst g0
   obtain ⟨i0, d0⟩ := hG0 rfl
   subst i0 d0
   simp only [List.length_nil, grown_zero, grownS_zero, List.append_nil]
   simp [h1, setOb, List.filter_cons]
   refine callK_of (ref03_Compare hv okv) (by simp [toD_cells]) ?_
   by_cases c1 : cmpT v l[0].v < 0
   ·have hp : putP v w.q (l[0] :: l.drop (0 + 1)) = ⟨v, w⟩ :: l[0] :: l.drop (0 + 1) := by rw [← ew]; exact if_pos c1
    simp only [Bool.false_eq_true, if_false, hp] at hG
    have c2 : ¬ cmpT v l[0].v = 0 := by omega
    simp (disch := omega) [c1, c2, Raw.c, h1, tk, q0, q1, p0, p1, ec3, ec6, ed, et3, ep, setOb, List.filter_cons, Nat.max_eq_right, Nat.max_eq_left, if_neg, if_pos]
    rw [wrap64 (by omega) (by omega)]
    refine ⟨([⟨v, w⟩, l[0]], true, 1, 6), ⟨h1, by dsimp only; omega, ?_, fun h => by simp at h, by first | (simp; done) | (simp; simp at hGl; omega), fun _ p hp => cmpT_trans c1 (hud p hp)⟩, by dsimp only; omega, ?_⟩
    ·rw [← hG]; simp []
    ·refine weak_pS (by simp) ?_ (by simp (disch := omega) [q0, q1, p0, p1, E.look, Raw.c, if_neg]) (by simp (disch := omega) [q0, q1, p0, p1, E.look, Raw.c, if_neg]) (by simp (disch := omega) [q0, q1, p0, p1, E.look, if_neg, obL, ep])
     unfold pSl
     rw [grown_pos (by simp)]
     repeat (first | exact sub_empty | refine sub_set (by simp) ?_)
   ·by_cases c2 : cmpT v l[0].v = 0
    ·have hp : putP v w.q (l[0] :: l.drop (0 + 1)) = ⟨l[0].v, rawOf (l[0].w.q + w.q)⟩ :: l.drop (0 + 1) := by unfold putP; rw [if_neg c1, if_pos c2]
     have cv : v = l[0].v := (cmpT_zero _ _).1 c2
     simp only [Bool.false_eq_true, if_false, hp] at hG
     simp (disch := omega) [c1, c2, h1, tk, q0, q1, p0, p1, ec3, ec6, ed, et3, ep, setOb, List.filter_cons, Nat.max_eq_right, Nat.max_eq_left, if_neg, if_pos]
     refine callK_of (ref02_Add okw hw) (by simp [toD_rawc, raw_v]) ?_
     simp (disch := omega) [ratV, Raw.v, Raw.c, c1, c2, ed, et3, ep, h1, tk, q0, q1, p0, p1, setOb, List.filter_cons, Nat.max_eq_right, Nat.max_eq_left, if_neg, if_pos]
     rw [wrap64 (by omega) (by omega)]
     refine ⟨([⟨l[0].v, rawOf (l[0].w.q + w.q)⟩], true, 1, 4), ⟨h1, by dsimp only; omega, ?_, fun h => by simp at h, by first | (simp; done) | (simp; simp at hGl; omega), fun _ p hp => by rw [cv]; exact hud p hp⟩, by dsimp only; omega, ?_⟩
     ·rw [← hG]; simp []
     ·refine weak_pS (by simp) ?_ (by simp (disch := omega) [q0, q1, p0, p1, E.look, Raw.c, if_neg]) (by simp (disch := omega) [q0, q1, p0, p1, E.look, Raw.c, if_neg]) (by simp (disch := omega) [q0, q1, p0, p1, E.look, if_neg, obL, ep])
      unfold pSl
      rw [grown_pos (by simp)]
      repeat (first | exact sub_empty | refine sub_set (by simp) ?_)
    ·have hp : putP v w.q (l[0] :: l.drop (0 + 1)) = l[0] :: putP v w.q (l.drop (0 + 1)) := by show (if _ then _ else if _ then _ else _) = _; rw [if_neg c1, if_neg c2]
     simp only [Bool.false_eq_true, if_false, hp] at hG
     simp (disch := omega) [c1, c2, h1, tk, q0, q1, p0, p1, ec3, ec6, ed, et3, ep, setOb, List.filter_cons, Nat.max_eq_right, Nat.max_eq_left, if_neg, if_pos]
     rw [wrap64 (by omega) (by omega)]
     refine ⟨([l[0]], false, 1, 4), ⟨h1, by dsimp only; omega, ?_, fun h => by simp at h, by first | (simp; done) | (simp; simp at hGl; omega), fun h => by simp at h⟩, by dsimp only; omega, ?_⟩
     ·rw [← hG]; simp []
     ·refine weak_pS (by simp) ?_ (by simp (disch := omega) [q0, q1, p0, p1, E.look, Raw.c, if_neg]) (by simp (disch := omega) [q0, q1, p0, p1, E.look, Raw.c, if_neg]) (by simp (disch := omega) [q0, q1, p0, p1, E.look, if_neg, obL, ep])
      unfold pSl
      rw [grown_pos (by simp)]
      repeat (first | exact sub_empty | refine sub_set (by simp) ?_)
  ·have n0 : G.length ≠ 0 := fun h => g0 (List.length_eq_zero_iff.1 h)
   rw [grown_pos n0, grownS_pos n0]
   simp (disch := omega) [h1, q0, q1, p0, p1, setOb, List.filter_cons, Nat.max_eq_right, Nat.max_eq_left, if_neg, if_pos]
   refine callK_of (ref03_Compare hv okv) (by simp [toD_cells]) ?_
   have hGl2 : G.length ≤ l.length := by cases d <;> simp at hGl <;> omega
   cases d with
   | true =>
     simp only [if_true] at hG
     have c1 : cmpT v l[i].v < 0 := hdn rfl _ (by rw [hd]; exact List.mem_cons_self)
     have c2 : ¬ cmpT v l[i].v = 0 := by omega
     simp (disch := omega) [Bool.not_true, c1, c2, h1, tk, q0, q1, p0, p1, ec3, ec6, ed, et3, ep, setOb, List.filter_cons, Nat.max_eq_right, Nat.max_eq_left, if_neg, if_pos]
     rw [wrap64 (by omega) (by omega)]
     refine ⟨(G ++ [l[i]], true, i + 1, o + 3), ⟨h1, by dsimp only; omega, ?_, fun h => by simp at h, by first | (simp; done) | (simp; simp at hGl; omega), fun _ p hp => hdn rfl p (by rw [hd]; exact List.mem_cons_of_mem _ hp)⟩, by dsimp only; omega, ?_⟩
     ·rw [← hG]; simp []
     ·refine weak_pS (by simp) ?_ (by simp (disch := omega) [q0, q1, p0, p1, E.look, Raw.c, if_neg]) (by simp (disch := omega) [q0, q1, p0, p1, E.look, Raw.c, if_neg]) (by simp (disch := omega) [q0, q1, p0, p1, E.look, if_neg, obL, ep])
      unfold pSl
      rw [grown_pos (by simp)]
      repeat (first | exact sub_empty | refine sub_set (by simp) ?_)
   | false =>
     by_cases c1 : cmpT v l[i].v < 0
     ·have hp : putP v w.q (l[i] :: l.drop (i + 1)) = ⟨v, w⟩ :: l[i] :: l.drop (i + 1) := by rw [← ew]; exact if_pos c1
      simp only [Bool.false_eq_true, if_false, hp] at hG
      have c2 : ¬ cmpT v l[i].v = 0 := by omega
      simp (disch := omega) [c1, c2, Raw.c, h1, tk, q0, q1, p0, p1, ec3, ec6, ed, et3, ep, setOb, List.filter_cons, Nat.max_eq_right, Nat.max_eq_left, if_neg, if_pos]
      rw [wrap64 (by omega) (by omega)]
      refine ⟨(G ++ [⟨v, w⟩, l[i]], true, i + 1, o + 5), ⟨h1, by dsimp only; omega, ?_, fun h => by simp at h, by first | (simp; done) | (simp; simp at hGl; omega), fun _ p hp => cmpT_trans c1 (hud p hp)⟩, by dsimp only; omega, ?_⟩
      ·rw [← hG]; simp []
      ·refine weak_pS (by simp) ?_ (by simp (disch := omega) [q0, q1, p0, p1, E.look, Raw.c, if_neg]) (by simp (disch := omega) [q0, q1, p0, p1, E.look, Raw.c, if_neg]) (by simp (disch := omega) [q0, q1, p0, p1, E.look, if_neg, obL, ep])
       unfold pSl
       rw [grown_pos (by simp)]
       repeat (first | exact sub_empty | refine sub_set (by simp) ?_)
     ·by_cases c2 : cmpT v l[i].v = 0
      ·have hp : putP v w.q (l[i] :: l.drop (i + 1)) = ⟨l[i].v, rawOf (l[i].w.q + w.q)⟩ :: l.drop (i + 1) := by unfold putP; rw [if_neg c1, if_pos c2]
       have cv : v = l[i].v := (cmpT_zero _ _).1 c2
       simp only [Bool.false_eq_true, if_false, hp] at hG
       simp (disch := omega) [c1, c2, h1, tk, q0, q1, p0, p1, ec3, ec6, ed, et3, ep, setOb, List.filter_cons, Nat.max_eq_right, Nat.max_eq_left, if_neg, if_pos]
       refine callK_of (ref02_Add okw hw) (by simp [toD_rawc, raw_v]) ?_
       simp (disch := omega) [ratV, Raw.v, Raw.c, c1, c2, ed, et3, ep, h1, tk, q0, q1, p0, p1, setOb, List.filter_cons, Nat.max_eq_right, Nat.max_eq_left, if_neg, if_pos]
       rw [wrap64 (by omega) (by omega)]
       refine ⟨(G ++ [⟨l[i].v, rawOf (l[i].w.q + w.q)⟩], true, i + 1, o + 3), ⟨h1, by dsimp only; omega, ?_, fun h => by simp at h, by first | (simp; done) | (simp; simp at hGl; omega), fun _ p hp => by rw [cv]; exact hud p hp⟩, by dsimp only; omega, ?_⟩
       ·rw [← hG]; simp []
       ·refine weak_pS (by simp) ?_ (by simp (disch := omega) [q0, q1, p0, p1, E.look, Raw.c, if_neg]) (by simp (disch := omega) [q0, q1, p0, p1, E.look, Raw.c, if_neg]) (by simp (disch := omega) [q0, q1, p0, p1, E.look, if_neg, obL, ep])
        unfold pSl
        rw [grown_pos (by simp)]
        repeat (first | exact sub_empty | refine sub_set (by simp) ?_)
      ·have hp : putP v w.q (l[i] :: l.drop (i + 1)) = l[i] :: putP v w.q (l.drop (i + 1)) := by show (if _ then _ else if _ then _ else _) = _; rw [if_neg c1, if_neg c2]
       simp only [Bool.false_eq_true, if_false, hp] at hG
       simp (disch := omega) [c1, c2, h1, tk, q0, q1, p0, p1, ec3, ec6, ed, et3, ep, setOb, List.filter_cons, Nat.max_eq_right, Nat.max_eq_left, if_neg, if_pos]
       rw [wrap64 (by omega) (by omega)]
       refine ⟨(G ++ [l[i]], false, i + 1, o + 3), ⟨h1, by dsimp only; omega, ?_, fun h => by simp at h, by first | (simp; done) | (simp; simp at hGl; omega), fun h => by simp at h⟩, by dsimp only; omega, ?_⟩
       ·rw [← hG]; simp []
       ·refine weak_pS (by simp) ?_ (by simp (disch := omega) [q0, q1, p0, p1, E.look, Raw.c, if_neg]) (by simp (disch := omega) [q0, q1, p0, p1, E.look, Raw.c, if_neg]) (by simp (disch := omega) [q0, q1, p0, p1, E.look, if_neg, obL, ep])
        unfold pSl
        rw [grown_pos (by simp)]
        repeat (first | exact sub_empty | refine sub_set (by simp) ?_)
 ·have hil : i = l.length := by omega
  subst hil
  rw [List.drop_length] at hG
  simp only [putP] at hG
  cases d with
  | true =>
    have g0 : G ≠ [] := fun h => by have := (hG0 h).2; simp at this
    have n0 : G.length ≠ 0 := fun h => g0 (List.length_eq_zero_iff.1 h)
    simp only [if_true, List.append_nil] at hG
    rw [grown_pos n0, grownS_pos n0]
    simp
    rw [E.toD_ref (k := 11) (st := .own) (es := 6) (l := G.map partC) (by simp [E.look, q0, q1, p0, p1]) (by simp) (by simp) (by simp) (by simp [g0]) (fun r hr => by obtain ⟨p, _, rfl⟩ := List.mem_map.1 hr; exact toD_partC _ _ _)]
    rw [hG]
  | false =>
    simp only [Bool.false_eq_true, if_false] at hG
    rw [← hG, ew]
    have hGl2 : G.length ≤ 10000 := by simp at hGl; omega
    by_cases g0 : G = []
    ·subst g0
     simp only [List.length_nil, grown_zero, grownS_zero, List.append_nil]
     simp (disch := omega) [q0, q1, p0, p1, Raw.c, ed, et3, ep, setOb, List.filter_cons, Nat.max_eq_right, Nat.max_eq_left, if_neg, if_pos]
     rw [E.toD_ref (k := 11) (st := .own) (es := 6) (l := [partC ⟨v, w⟩]) (by simp [E.look, ep]) (by simp) (by simp) (by simp) (by simp) (fun r hr => by simp at hr; subst hr; exact toD_partC _ _ _)]
     simp
    ·have n0 : G.length ≠ 0 := fun h => g0 (List.length_eq_zero_iff.1 h)
     rw [grown_pos n0, grownS_pos n0]
     simp (disch := omega) [q0, q1, p0, p1, Raw.c, ed, et3, ep, setOb, List.filter_cons, Nat.max_eq_right, Nat.max_eq_left, if_neg, if_pos]
     rw [E.toD_ref (k := 11) (st := .own) (es := 6) (l := (G ++ [(⟨v, w⟩ : Part)]).map partC) (by simp [E.look, ep]) (by simp) (by simp) (by simp) (by simp) (fun r hr => by obtain ⟨p, _, rfl⟩ := List.mem_map.1 hr; exact toD_partC _ _ _)]
end Go.Proofs.YtipbefckimdkkaaGreat
