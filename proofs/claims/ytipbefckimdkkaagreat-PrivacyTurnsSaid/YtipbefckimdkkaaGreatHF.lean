import Derived.Test.YtipbefckimdkkaaGreatHE
import Derived.Test.YtipbefckimdkkaaGreatGC
import Derived.Test.YtipbefckimdkkaaGreatProg
import Derived.KernelRfl
import Derived.Test.YtipbefckimdkkaaGreatGD
import Derived.Test.YtipbefckimdkkaaGreatGW
namespace Go.Proofs.YtipbefckimdkkaaGreat.F
open Go Go.Proofs Go.Proofs.YtipbefckimdkkaaGreat.E Go.Proofs.YtipbefckimdkkaaGreat.Q
abbrev law36_sameParts : Nat := 35
def law36_sameParts_c : MFn := ⟨43,(.seq (r [o 4 (.mv (.c (.bool false)))] [0,1]) (.seq (.seq (r [o 6 (.mv (.t 0)),o 7 (.lenS (.t 6)),o 8 (.mv (.t 1)),o 9 (.lenS (.t 8)),o 10 (.bin .neq (.t 7) (.t 9))] [0,1,10]) (.cond (.t 10) (.seq (r [o 4 (.mv (.c (.bool false)))] [4]) .ret) .skip)) (.seq (.seq (r [o 11 (.mv (.t 0)),o 12 (.lenS (.t 11)),o 13 (.mv (i 0))] [0,1,12,13]) (.block 0 (.loop (.seq (r [o 14 (.bin .lss (.t 13) (.t 12))] [0,1,12,13,14]) (.seq (.cond (.t 14) .skip (.exit 0)) (.seq (.block 1 (.seq (r [o 15 (.mv (.t 13)),o 5 (.mv (.t 15))] [0,1,5,12,13]) (.seq (r [o 16 (.mv (.t 0)),o 17 (.mv (.t 5)),o 18 (.ixA 6 (.t 16) (.t 17)),o 19 (.fA 0 (.t 18)),o 20 (.ld (some 3) (.t 19)),o 21 (.mv (.t 1)),o 22 (.mv (.t 5)),o 23 (.ixA 6 (.t 21) (.t 22)),o 24 (.fA 0 (.t 23)),o 25 (.ld (some 3) (.t 24)),o 26 (.callF 70 [(.t 20),(.t 25)]),o 27 (.un .not (.t 26)),o 28 (.mv (.t 27)),n 29 28 (.mv (.t 0)),n 30 28 (.mv (.t 5)),n 31 28 (.ixA 6 (.t 29) (.t 30)),n 32 28 (.fA 3 (.t 31)),n 33 28 (.ld (some 3) (.t 32)),n 34 28 (.mv (.t 1)),n 35 28 (.mv (.t 5)),n 36 28 (.ixA 6 (.t 34) (.t 35)),n 37 28 (.fA 3 (.t 36)),n 38 28 (.ld (some 3) (.t 37)),n 39 28 (.callF 24 [(.t 33),(.t 38)]),n 40 28 (.un .not (.t 39)),o 41 (.pick (.t 28) (.c (.bool true)) (.t 40))] [0,1,12,13,41]) (.cond (.t 41) (.seq (r [o 4 (.mv (.c (.bool false)))] [4]) .ret) .skip)))) (r [o 42 (.bin .add (.t 13) (i 1)),o 13 (.mv (.t 42))] [0,1,12,13]))))))) (.seq (r [o 4 (.mv (.c (.bool true)))] [4]) .ret)))),[.t 4]⟩
theorem law36_sameParts_ok : cFn Tryz.prog (kps [[0,1],[0,1,10],[4],[0,1,12,13],[0,1,12,13,14],[0,1,5,12,13],[0,1,12,13,41],[4],[0,1,12,13],[4]]) [] 35 = some law36_sameParts_c := by kernel_rfl
abbrev ref36_put : Nat := 82
def ref36_put_c : MFn := ⟨55,(.seq (r [o 4 (.box (.t 1)),o 5 (.box (.t 2)),o 6 (.mv (.c .nils))] [0,4,5]) (.seq (r [o 7 (.mv (.c .nils))] [0,4,5,7]) (.seq (r [o 8 (.mv (.c (.bool false)))] [0,4,5,7,8]) (.seq (.seq (r [o 12 (.mv (.t 0)),o 13 (.lenS (.t 12)),o 14 (.mv (i 0))] [4,5,7,8,12,13,14]) (.block 0 (.loop (.seq (r [o 15 (.bin .lss (.t 14) (.t 13))] [4,5,7,8,12,13,14,15]) (.seq (.cond (.t 15) .skip (.exit 0)) (.seq (.block 1 (.seq (r [o 16 (.ixA 6 (.t 12) (.t 14)),o 17 (.ld (some 6) (.t 16)),o 10 (.alloc zP),z (.st 6 (.t 10) (.t 17))] [4,5,7,8,10,12,13,14]) (.seq (r [o 18 (.ld (some 3) (.t 4)),o 19 (.fA 0 (.t 10)),o 20 (.ld (some 3) (.t 19)),o 21 (.call 84 [(.t 18),(.t 20)]),o 11 (.mv (.t 21))] [4,5,7,8,10,11,12,13,14]) (.seq (.seq (r [o 22 (.mv (.t 11)),o 23 (.bin .eql (.t 22) (i 0))] [4,5,7,8,10,11,12,13,14,23]) (.cond (.t 23) (.seq (r [o 24 (.fA 3 (.t 10)),o 25 (.ld (some 3) (.t 24)),o 26 (.ld (some 3) (.t 5)),o 27 (.call 17 [(.t 25),(.t 26)]),o 28 (.fA 3 (.t 10)),z (.st 3 (.t 28) (.t 27))] [4,5,7,10,11,12,13,14]) (r [o 8 (.mv (.c (.bool true)))] [4,5,7,8,10,11,12,13,14])) .skip)) (.seq (.seq (r [o 29 (.mv (.t 11)),o 30 (.bin .lss (.t 29) (i 0)),o 31 (.mv (.t 30)),y 32 31 (.mv (.t 8)),y 33 31 (.un .not (.t 32)),o 34 (.pick (.t 31) (.t 33) (.c (.bool false)))] [4,5,7,8,10,12,13,14,34]) (.cond (.t 34) (.seq (r [o 35 (.mv (.t 7)),o 36 (.ld (some 3) (.t 4)),o 37 (.ld (some 3) (.t 5)),o 38 (.build zP [(0,3,(.t 36)),(3,3,(.t 37))]),o 39 (.buildSl 6 1 zP [(0,(.t 38))]),o 40 (.app 6 96 (.t 35) (.t 39)),o 7 (.mv (.t 40))] [4,5,7,10,12,13,14]) (r [o 8 (.mv (.c (.bool true)))] [4,5,7,8,10,12,13,14])) .skip)) (r [o 41 (.mv (.t 7)),o 42 (.ld (some 6) (.t 10)),o 43 (.buildSl 6 1 zP [(0,(.t 42))]),o 44 (.app 6 96 (.t 41) (.t 43)),o 7 (.mv (.t 44))] [4,5,7,8,12,13,14])))))) (r [o 45 (.bin .add (.t 14) (i 1)),o 14 (.mv (.t 45))] [4,5,7,8,12,13,14]))))))) (.seq (.seq (r [o 46 (.mv (.t 8)),o 47 (.un .not (.t 46))] [4,5,7,47]) (.cond (.t 47) (r [o 48 (.mv (.t 7)),o 49 (.ld (some 3) (.t 4)),o 50 (.ld (some 3) (.t 5)),o 51 (.build zP [(0,3,(.t 49)),(3,3,(.t 50))]),o 52 (.buildSl 6 1 zP [(0,(.t 51))]),o 53 (.app 6 96 (.t 48) (.t 52)),o 7 (.mv (.t 53))] [7]) .skip)) (.seq (r [o 54 (.mv (.t 7)),o 6 (.mv (.t 54))] [6]) .ret)))))),[.t 6]⟩
theorem ref36_put_ok : cFn Tryz.prog (kps [[0,4,5],[0,4,5,7],[0,4,5,7,8],[4,5,7,8,12,13,14],[4,5,7,8,12,13,14,15],[4,5,7,8,10,12,13,14],[4,5,7,8,10,11,12,13,14],[4,5,7,8,10,11,12,13,14,23],[4,5,7,10,11,12,13,14],[4,5,7,8,10,11,12,13,14],[4,5,7,8,10,12,13,14,34],[4,5,7,10,12,13,14],[4,5,7,8,10,12,13,14],[4,5,7,8,12,13,14],[4,5,7,8,12,13,14],[4,5,7,47],[7],[6]]) [] 82 = some ref36_put_c := by kernel_rfl
end Go.Proofs.YtipbefckimdkkaaGreat.F

namespace Go.Proofs.YtipbefckimdkkaaGreat
open Go Go.Proofs Go.Proofs.YtipbefckimdkkaaGreat.E
set_option linter.unusedSimpArgs false
set_option linter.unusedVariables false
theorem law36_sameParts {l : List Part} (hl : l.length ≤ 1000) (ho : ∀ p ∈ l, p.v.Ok ∧ p.w.Ok (2 ^ 31)) : CallD Tryz.prog F.law36_sameParts [pl l, pl l] (· = .bool true) := by
 refine callD_by F.law36_sameParts_ok ?_
 unfold F.law36_sameParts_c
 simp
 refine wm_loop (fun g : Nat => ((((Sl.empty.set 13 (.int .i64 g)).set 12 (.int .i64 l.length)).set 1 (pl l)).set 0 (pl l), [])) (fun g => g ≤ l.length) (fun g => l.length - g) 0 (by omega) ?_ ?_
 ·exact weak_p (by repeat (first | exact sub_empty | refine sub_set (by simp) ?_)) (by repeat (first | exact sin_empty | refine sin_set (by simp) ?_))
 intro i hi
 by_cases h1 : i < l.length
 ·obtain ⟨okv, okw⟩ := ho _ (List.getElem_mem h1)
  simp [h1]
  refine callFK_of (ref03_Same okv okv) (by simp [toD_cells]) ?_
  simp [cmpT_self, h1]
  refine callFK_of (ref02_Same okw okw) (by simp [toD_rawc, raw_v]) ?_
  simp
  rw [wrap64 (by omega) (by omega)]
  refine ⟨i + 1, h1, by dsimp only; omega, ?_⟩
  exact weak_p (by repeat (first | exact sub_empty | refine sub_set (by simp) ?_)) (by repeat (first | exact sin_empty | refine sin_set (by simp) ?_))
 ·simp [h1]
set_option maxHeartbeats 8000000 in
theorem ref36_put {l : List Part} {v : Tr} {w : Raw} (hl : l.length ≤ 10000) (ho : ∀ p ∈ l, p.v.Ok) (hv : v.Ok) (hgt : ∀ p ∈ l, 0 < cmpT v p.v) : CallD Tryz.prog F.ref36_put [pl l, .agg v.cells, w.v] (· = pl (l ++ [⟨v, w⟩])) := by
 refine callD_by F.ref36_put_ok ?_
 unfold F.ref36_put_c
 simp [setOb, List.filter_cons, raw_v]
 refine wm_loop (fun g : Nat × Nat => (((((((Sl.empty.set 14 (.int .i64 g.2)).set 13 (.int .i64 l.length)).set 12 (pl l)).set 8 (.bool false)).set 7 (grown g.1 g.2)).set 5 (.ptr 1 0 0)).set 4 (.ptr 0 0 0), [(0, ⟨.own, 3, [v.cells]⟩), (1, ⟨.own, 3, [w.c]⟩)] ++ grownS g.1 6 g.2 ((l.map partC).take g.2)))
  (fun g => g.2 ≤ l.length ∧ 1 < g.1) (fun g => l.length - g.2) (2, 0) (by simp) ?_ ?_
 ·refine weak_obs ?_ (by simp [grown_zero, grownS_zero]) (by repeat (first | exact sin_empty | refine sin_set (by simp [grown_zero]) ?_)) (by simp [grown_zero, grownS_zero]; exact ⟨fun y hy => cells_within _ y hy, fun y hy => rawc_within _ y hy⟩)
  simp only [grown_zero]
  repeat (first | exact sub_empty | refine sub_set (by simp) ?_)
 rintro ⟨o, i⟩ ⟨hi, o1⟩
 dsimp only at hi o1
 have o0' : ¬ o = 0 := by omega
 have o1' : ¬ o = 1 := by omega
 have pw : ∀ p : Part, ∀ y ∈ partC p, ∀ f : Nat → Bool, y.within f = true := fun p y hy f => by
  simp [partC] at hy
  rcases hy with hy | hy
  ·exact cells_within _ y hy
  ·exact rawc_within _ y hy
 have hw : ∀ n, ∀ r ∈ List.take n (l.map partC), ∀ y ∈ r, ∀ p : Nat → Bool, y.within p = true := fun n r hr y hy p => by
  obtain ⟨c, _, rfl⟩ := List.mem_map.1 (List.mem_of_mem_take hr)
  exact pw c y hy p
 by_cases h1 : i < l.length
 ·have okp := ho _ (List.getElem_mem h1)
  have hc := hgt _ (List.getElem_mem h1)
  have hc0 : ¬ cmpT v l[i].v = 0 := by omega
  have hc1 : ¬ cmpT v l[i].v < 0 := by omega
  have e1 : List.take (i + 1) (l.map partC) = List.take i (l.map partC) ++ [partC l[i]] := by
   rw [List.take_succ_eq_append_getElem (by simpa using h1)]; simp
  have tk : List.take 6 (partC l[i]) = partC l[i] := by simp
  by_cases hi0 : i = 0
  ·subst hi0
   simp at e1
   simp [h1, grown_zero, grownS_zero, setOb, List.filter_cons]
   refine callK_of (ref03_Compare hv okp) (by simp [toD_cells]) ?_
   simp (disch := omega) [hc0, hc1, setOb, List.filter_cons]
   rw [wrap64 (by omega) (by omega)]
   refine ⟨(4, 1), ⟨h1, by simp⟩, by dsimp only; omega, ?_⟩
   refine weak_obs ?_ ?_ (by simp only [grown_pos (show 1 ≠ 0 by omega)]; repeat (first | exact sin_empty | refine sin_set (by simp [grownS_pos]) ?_)) ?_
   ·simp only [grown_pos (show 1 ≠ 0 by omega)]
    repeat (first | exact sub_empty | refine sub_set (by simp) ?_)
   ·simp [grownS_pos, e1]
   ·simp only [grownS_pos (show 1 ≠ 0 by omega)]
    intro p hp r hr y hy
    simp at hp
    rcases hp with rfl | rfl | rfl
    ·simp at hr; subst hr; exact cells_within _ y hy
    ·simp at hr; subst hr; exact rawc_within _ y hy
    ·exact hw _ r hr y hy _
  ·simp (disch := omega) [h1, grown_pos hi0, grownS_pos hi0, setOb, List.filter_cons, Nat.max_eq_right, Nat.max_eq_left, if_neg, if_pos]
   refine callK_of (ref03_Compare hv okp) (by simp [toD_cells]) ?_
   simp (disch := omega) [hc0, hc1, setOb, List.filter_cons, Nat.max_eq_right, Nat.max_eq_left, if_neg, if_pos]
   rw [wrap64 (by omega) (by omega)]
   refine ⟨(o + 3, i + 1), ⟨h1, by dsimp only; omega⟩, by dsimp only; omega, ?_⟩
   refine weak_obs ?_ ?_ (by simp only [grown_pos (show i + 1 ≠ 0 by omega)]; repeat (first | exact sin_empty | refine sin_set (by simp [grownS_pos]) ?_)) ?_
   ·simp only [grown_pos (show i + 1 ≠ 0 by omega)]
    repeat (first | exact sub_empty | refine sub_set (by simp) ?_)
   ·simp (disch := omega) [grownS_pos, e1, o0', o1', if_neg]
   ·simp only [grownS_pos (show i + 1 ≠ 0 by omega)]
    intro p hp r hr y hy
    simp at hp
    rcases hp with rfl | rfl | rfl
    ·simp at hr; subst hr; exact cells_within _ y hy
    ·simp at hr; subst hr; exact rawc_within _ y hy
    ·exact hw _ r hr y hy _
 ·have hil : i = l.length := by omega
  subst hil
  have et : List.take l.length (l.map partC) = l.map partC := List.take_of_length_le (by simp)
  rw [et]
  have hd : ∀ r ∈ (l ++ [(⟨v, w⟩ : Part)]).map partC, ∀ σ n, mapO (toD σ (n + 1)) r = some r := fun r hr σ n => by
   obtain ⟨p, _, rfl⟩ := List.mem_map.1 hr
   exact toD_partC _ _ _
  have ed : List.drop 6 (v.cells ++ [V.bool false, .nils, .nils]) = [] := List.drop_eq_nil_of_le (by simp)
  have et3 : List.take 3 (v.cells ++ [V.bool false, .nils, .nils]) = v.cells := by rw [List.take_append_of_le_length (by simp)]; exact List.take_of_length_le (by simp)
  have ep : v.cells ++ w.c = partC ⟨v, w⟩ := rfl
  by_cases hne : l = []
  ·subst hne
   simp [grown_zero, grownS_zero, setOb, List.filter_cons, ed]
   rw [E.toD_ref (k := 11) (st := .own) (es := 6) (l := [partC ⟨v, w⟩]) (by simp [E.look, ep]) (by simp) (by simp) (by simp) (by simp) (fun r hr => hd r (by simpa using hr) _ _)]
   simp
  ·have l0 : l.length ≠ 0 := fun h => hne (List.length_eq_zero_iff.1 h)
   rw [grown_pos l0, grownS_pos l0]
   simp (disch := omega) [h1, setOb, List.filter_cons, Nat.max_eq_right, Nat.max_eq_left, if_neg, if_pos, ed]
   rw [E.toD_ref (k := 11) (st := .own) (es := 6) (l := (l ++ [(⟨v, w⟩ : Part)]).map partC) (by simp [E.look, ep, et3]) (by simp) (by simp) (by simp) (by simp) (fun r hr => hd r hr _ _)]
def jnt (p q : Part) : Part := ⟨.mk 3 0 [p.v, q.v], rawOf (p.w.q * q.w.q)⟩
def lvP (L : List Part) : V := if L = [] then .nils else pl L
theorem lvP_nil : lvP [] = .nils := rfl
theorem lvP_pos {L : List Part} (h : L ≠ []) : lvP L = pl L := if_neg h
@[simp] theorem lvP_within (L : List Part) (p : Nat → Bool) : (lvP L).within p = true := by unfold lvP; split <;> simp [V.within]
@[simp] theorem lvP_toD (σ : Sto) (n : Nat) (L : List Part) : toD σ (n + 1) (lvP L) = some (pl L) := by
  by_cases h : L = []
  ·subst h; rfl
  ·rw [lvP_pos h]; rfl
@[simp] theorem lvP_rch (σ : Sto) (n : Nat) (L : List Part) : rch σ (n + 1) (lvP L) = [] := by
  by_cases h : L = []
  ·subst h; rfl
  ·rw [lvP_pos h]; rfl
def jRow (e : Nat × Part × Part) : List V := [.int .i64 3, .int .i64 0, .ref e.1 0 2] ++ (rawOf (e.2.1.w.q * e.2.2.w.q)).c
def jObj (e : Nat × Part × Part) : Ob := ⟨.own, 3, [e.2.1.v.cells, e.2.2.v.cells]⟩
structure Nst (σ : Sto) (q : Nat) (J : List (Nat × Part × Part)) : Prop where
 out : J ≠ [] → E.look σ q = some ⟨.own, 6, J.map jRow⟩
 each : ∀ e ∈ J, E.look σ e.1 = some (jObj e)
def jParts (J : List (Nat × Part × Part)) : List Part := J.map fun e => jnt e.2.1 e.2.2
theorem partC_jnt (p q : Part) : partC (jnt p q) = [.int .i64 3, .int .i64 0, .dat [p.v.cells, q.v.cells]] ++ (rawOf (p.w.q * q.w.q)).c := by
 unfold partC jnt; rw [cells_mk]; rfl
theorem jRow_toD {σ : Sto} {e : Nat × Part × Part} (h : E.look σ e.1 = some (jObj e)) (n : Nat) : mapO (toD σ (n + 3)) (jRow e) = some (partC (jnt e.2.1 e.2.2)) := by
 have hr : toD σ (n + 3) (.ref e.1 0 2) = some (.dat [e.2.1.v.cells, e.2.2.v.cells]) :=
  E.toD_ref (k := n + 2) (st := .own) (es := 3) h (by simp) (by simp) (by simp) (by simp) (fun r hr => by simp at hr; rcases hr with rfl | rfl <;> exact toD_cells _ _ _)
 rw [partC_jnt]
 unfold jRow
 simp only [List.cons_append, List.nil_append, mapO]
 rw [hr, toD_rawc]
 rfl
theorem Nst.data {σ : Sto} {q : Nat} {J : List (Nat × Part × Part)} (h : Nst σ q J) : toD σ 11 (grown q J.length) = some (pl (jParts J)) := by
 by_cases h0 : J = []
 ·subst h0; rfl
 ·have hn : J.length ≠ 0 := fun e => h0 (List.length_eq_zero_iff.1 e)
  rw [grown_pos hn]
  refine E.toD_refM (k := 10) (st := .own) (es := 6) (h.out h0) (by simp) (by simp) (by simp) ?_
  rw [jParts, List.map_map]
  clear hn h0
  have key : ∀ (G : List (Nat × Part × Part)), (∀ e ∈ G, E.look σ e.1 = some (jObj e)) → mapO (mapO (toD σ 10)) (G.map jRow) = some (G.map fun e => partC (jnt e.2.1 e.2.2)) := by
   intro G hG
   induction G with
   | nil => rfl
   | cons e G ih =>
     simp only [List.map_cons, mapO]
     rw [jRow_toD (n := 7) (hG e (by simp)), ih fun e he => hG e (by simp [he])]
  exact key J h.each
theorem Nst.add {σ τ : Sto} {q q' : Nat} {J : List (Nat × Part × Part)} {e : Nat × Part × Part} (h : Nst σ q J) (h1 : E.look τ q' = some ⟨.own, 6, J.map jRow ++ [jRow e]⟩) (h2 : E.look τ e.1 = some (jObj e)) (h3 : ∀ d ∈ J, E.look τ d.1 = E.look σ d.1) : Nst τ q' (J ++ [e]) := by
 refine ⟨fun _ => by rw [h1]; simp, fun d hd => ?_⟩
 rcases List.mem_append.1 hd with hd | hd
 ·rw [h3 d hd]; exact h.each d hd
 ·simp at hd; subst hd; exact h2
theorem fresh_setOb (σ : Sto) (o : Nat) (x : Ob) : fresh (setOb σ o x) = max (o + 1) (fresh σ) := by
 have := fresh_filter σ o
 simp only [setOb, fresh]
 exact this
theorem Nst.lt {σ : Sto} {q : Nat} {J : List (Nat × Part × Part)} (h : Nst σ q J) : (∀ e ∈ J, e.1 < fresh σ) ∧ (J ≠ [] → q < fresh σ) :=
 ⟨fun e he => lt_fresh (h.each e he), fun hJ => lt_fresh (h.out hJ)⟩
theorem Nst.new {σ : Sto} {q : Nat} {J : List (Nat × Part × Part)} (h : Nst σ q J) (x : Ob) : Nst (setOb σ (fresh σ) x) q J := by
 obtain ⟨h1, h2⟩ := h.lt
 refine ⟨fun hJ => ?_, fun e he => ?_⟩
 ·rw [look_setOb, if_neg (by have := h2 hJ; omega)]; exact h.out hJ
 ·rw [look_setOb, if_neg (by have := h1 e he; omega)]; exact h.each e he
theorem partC_plain (p : Part) : Plain [partC p] := fun r hr y hy f => by
 simp at hr; subst hr
 simp [partC] at hy
 rcases hy with hy | hy
 ·exact cells_within _ y hy
 ·exact rawc_within _ y hy
end Go.Proofs.YtipbefckimdkkaaGreat
