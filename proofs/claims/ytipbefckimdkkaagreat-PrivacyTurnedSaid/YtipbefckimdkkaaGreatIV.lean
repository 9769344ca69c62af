import Derived.Test.YtipbefckimdkkaaGreatIS
import Derived.Test.YtipbefckimdkkaaGreatHF
import Derived.Test.YtipbefckimdkkaaGreatGD
import Derived.Test.YtipbefckimdkkaaGreatGC
import Derived.Test.YtipbefckimdkkaaGreatProg
import Derived.KernelRfl
import Derived.Test.YtipbefckimdkkaaGreatIT
namespace Go.Proofs.YtipbefckimdkkaaGreat.F
open Go Go.Proofs Go.Proofs.YtipbefckimdkkaaGreat.E Go.Proofs.YtipbefckimdkkaaGreat.Q
abbrev law36_table_turn : Nat := 47
def law36_table_turn_c : MFn := ⟨33,(.seq (r [o 2 (.box (.t 0)),o 3 (.box (.t 1)),o 4 (.mv (.c .nils))] [2,3]) (.seq (.seq (r [o 6 (.fA 0 (.t 2)),o 7 (.ld none (.t 6)),o 8 (.lenS (.t 7)),o 9 (.mv (i 0))] [2,3,8,9]) (.block 0 (.loop (.seq (r [o 10 (.bin .lss (.t 9) (.t 8))] [2,3,8,9,10]) (.seq (.cond (.t 10) .skip (.exit 0)) (.seq (.block 1 (.seq (r [o 11 (.mv (.t 9)),o 5 (.mv (.t 11))] [2,3,5,8,9]) (.seq (r [o 12 (.mv (.t 5)),o 13 (.fA 1 (.t 2)),o 14 (.ld none (.t 13)),o 15 (.lenS (.t 14)),o 16 (.bin .lss (.t 12) (.t 15)),o 17 (.mv (.t 16)),y 18 17 (.fA 0 (.t 2)),y 19 17 (.ld none (.t 18)),y 20 17 (.mv (.t 5)),y 21 17 (.ixA 6 (.t 19) (.t 20)),y 22 17 (.fA 0 (.t 21)),y 23 17 (.ld (some 3) (.t 22)),y 24 17 (.ld (some 3) (.t 3)),y 25 17 (.callF 70 [(.t 23),(.t 24)]),o 26 (.pick (.t 17) (.t 25) (.c (.bool false)))] [2,3,5,8,9,26]) (.cond (.t 26) (.seq (r [o 27 (.fA 1 (.t 2)),o 28 (.ld none (.t 27)),o 29 (.mv (.t 5)),o 30 (.ixA 1 (.t 28) (.t 29)),o 31 (.ld none (.t 30)),o 4 (.mv (.t 31))] [4]) .ret) .skip)))) (r [o 32 (.bin .add (.t 9) (i 1)),o 9 (.mv (.t 32))] [2,3,8,9]))))))) (.seq (r [o 4 (.mv (.c .nils))] [4]) .ret))),[.t 4]⟩
theorem law36_table_turn_ok : cFn Tryz.prog (kps [[2,3],[2,3,8,9],[2,3,8,9,10],[2,3,5,8,9],[2,3,5,8,9,26],[4],[2,3,8,9],[4]]) [] 47 = some law36_table_turn_c := by kernel_rfl
abbrev privacy_asked : Nat := 90
def privacy_asked_c : MFnD :=
 ⟨14,[o 3 (.box (.t 1)),o 4 (.alloc [.nils]),o 5 (.alloc [.bool false])],6,126,[(.t 4),(.t 5)],(.seq (r [o 7 (.mv (.t 0)),o 8 (.ld (some 3) (.t 3)),o 9 (.callF 67 [(.t 8)]),o 10 (.rd2 .bnd [(.t 7),(.t 9)]),z (.st 1 (.t 4) (.t 10))] [4,5]) (.seq (r [o 11 (.ld none (.t 4)),o 12 (.ld none (.t 4)),o 13 (.callF 87 [(.t 12)]),z (.st 1 (.t 4) (.t 11)),z (.st 1 (.t 5) (.t 13))] [4,5]) .ret)),[.cell 4 none,.cell 5 none]⟩
theorem privacy_asked_ok : cFnD Tryz.prog (kps [[0,3,4,5],[0,3,4,5],[4,5],[4,5]]) [2002] 90 = some privacy_asked_c := by kernel_rfl
end Go.Proofs.YtipbefckimdkkaaGreat.F

namespace Go.Proofs.YtipbefckimdkkaaGreat
open Go Go.Proofs Go.Proofs.YtipbefckimdkkaaGreat.E
set_option linter.unusedSimpArgs false
set_option linter.unusedVariables false
abbrev lls (t : List (List Part)) : V := .dat (t.map fun l => [pl l])
abbrev tblV (f : List Part) (t : List (List Part)) : V := .clo (F.law36_table_turn + bm) [.agg [pl f, lls t]]
set_option maxHeartbeats 4000000 in
theorem table_turn {f : List Part} {t : List (List Part)} {v : Tr} (lf : f.length ≤ 1000000) (lt : t.length ≤ 1000000) (of : ∀ p ∈ f, p.v.Ok) (hv : v.Ok) : CallD Tryz.prog F.law36_table_turn [.agg [pl f, lls t], .agg v.cells] (· = pl (tbl f t v)) := by
 refine callD_by F.law36_table_turn_ok ?_
 unfold F.law36_table_turn_c
 simp [setOb, List.filter_cons]
 refine wm_loop (fun g : Nat => (((((Sl.empty.set 9 (.int .i64 g)).set 8 (.int .i64 f.length)).set 3 (.ptr 1 0 0)).set 2 (.ptr 0 0 0)), [(0, ⟨.own, 2, [[pl f, lls t]]⟩), (1, ⟨.own, 3, [v.cells]⟩)])) (fun g => g ≤ f.length ∧ tbl (f.drop g) (t.drop g) v = tbl f t v) (fun g => f.length - g) 0 (by simp) ?_ ?_
 ·refine weak_obs ?_ (by simp) (by repeat (first | exact sin_empty | refine sin_set (by simp) ?_)) (by simp; exact fun y hy => cells_within _ y hy)
  repeat (first | exact sub_empty | refine sub_set (by simp) ?_)
 rintro i ⟨hi, ht⟩
 by_cases h1 : i < f.length
 ·have okp := of _ (List.getElem_mem h1)
  have e1 : f.drop i = f[i] :: f.drop (i + 1) := List.drop_eq_getElem_cons h1
  by_cases h2 : i < t.length
  ·have e2 : t.drop i = t[i] :: t.drop (i + 1) := List.drop_eq_getElem_cons h2
   rw [e1, e2, tbl_cons] at ht
   simp [h1, h2]
   refine callFK_of (ref03_Same okp hv) (by simp [toD_cells]) ?_
   by_cases c : f[i].v = v
   ·rw [if_pos c] at ht
    simp [c, cmpT_self, h2, ← ht]
   ·rw [if_neg c] at ht
    simp [c, cmpT_zero]
    rw [wrap64 (by omega) (by omega)]
    refine ⟨i + 1, ⟨h1, ht⟩, by dsimp only; omega, ?_⟩
    refine weak_obs ?_ (by simp) (by repeat (first | exact sin_empty | refine sin_set (by simp) ?_)) (by simp; exact fun y hy => cells_within _ y hy)
    repeat (first | exact sub_empty | refine sub_set (by simp) ?_)
  ·have e2 : t.drop i = [] := List.drop_eq_nil_of_le (by omega)
   have e3 : t.drop (i + 1) = [] := List.drop_eq_nil_of_le (by omega)
   rw [e2, tbl_none] at ht
   simp [h1, h2]
   rw [wrap64 (by omega) (by omega)]
   refine ⟨i + 1, ⟨h1, by rw [e3, tbl_none]; exact ht⟩, by dsimp only; omega, ?_⟩
   refine weak_obs ?_ (by simp) (by repeat (first | exact sin_empty | refine sin_set (by simp) ?_)) (by simp; exact fun y hy => cells_within _ y hy)
   repeat (first | exact sub_empty | refine sub_set (by simp) ?_)
 ·have e1 : f.drop i = [] := List.drop_eq_nil_of_le (by omega)
  rw [e1, tbl_nil] at ht
  simp [h1, ← ht]
theorem toP_cellsT (σ : Sto) (n : Nat) (t : Tr) : mapO (toP σ (n + 1)) t.cells = some t.cells := by
 cases t; simp [cells_mk, toP, mapO]
theorem rchP_cellsT (σ : Sto) (n : Nat) (t : Tr) : t.cells.flatMap (rchP σ (n + 1)) = [] := by
 cases t; simp [cells_mk, rchP]
theorem toPs_turn (σ : Sto) (f : List Part) (t : List (List Part)) (v : Tr) : toPs σ ([V.agg [pl f, lls t]] ++ [V.agg v.cells]) = some [.agg [pl f, lls t], .agg v.cells] := by
 have a : toP σ deep (.agg [pl f, lls t]) = some (.agg [pl f, lls t]) := rfl
 have b : toP σ deep (.agg v.cells) = some (.agg v.cells) := by
  show (mapO (toP σ 11) v.cells).map V.agg = _
  rw [toP_cellsT]; rfl
 exact toPs_cons a (toPs_cons b (toPs_nil σ))
theorem rchPs_turn (σ : Sto) (f : List Part) (t : List (List Part)) (v : Tr) : rchPs σ ([V.agg [pl f, lls t]] ++ [V.agg v.cells]) = [] := by
 have a : rchP σ deep (.agg [pl f, lls t]) = [] := rfl
 have b : rchP σ deep (.agg v.cells) = [] := rchP_cellsT σ 10 v
 show rchP σ deep _ ++ (rchP σ deep _ ++ []) = []
 rw [a, b]; rfl
theorem asked_idle : Idle Tryz.prog F.privacy_asked_c.k 2 := idle_of (by kernel_rfl)
set_option maxHeartbeats 4000000 in
theorem privacy_asked {f : List Part} {t : List (List Part)} {v : Tr} (lf : f.length ≤ 1000000) (lt : t.length ≤ 1000000) (of : ∀ p ∈ f, p.v.Ok) (ot : ∀ l ∈ t, l.length ≤ 1000000 ∧ ∀ p ∈ l, p.Ok 1000000) (hv : v.Ok) (mv : manyT v ≤ 60) :
 CallD Tryz.prog F.privacy_asked [tblV f t, .agg v.cells] (· = .tup [pl (tbl f t v), .bool (rightP (tbl f t v))]) := by
 have hr : (tbl f t v).length ≤ 1000000 ∧ ∀ p ∈ tbl f t v, p.Ok 1000000 := by
  rcases tbl_mem (v := v) (f := f) (t := t) with h | h
  ·rw [h]; simp
  ·exact ot _ h
 refine callD_defer F.privacy_asked_ok (by kernel_rfl) asked_idle ?_
 unfold F.privacy_asked_c
 simp [setOb, List.filter_cons]
 refine ⟨[.ptr 1 0 0, .ptr 2 0 0], rfl, rfl, ?_⟩
 refine callFK_of (own_Value hv mv) (by simp [toD_cells]) ?_
 simp [setOb, List.filter_cons]
 refine rdK_bnd (table_turn lf lt of hv) (toPs_turn _ f t v) ?_
 simp only [behindP, rchPs_turn, frz_nil]
 simp [setOb, List.filter_cons]
 refine callFK_of (couple_Right (by omega) hr.2) (by simp) ?_
 simp [setOb, List.filter_cons]
end Go.Proofs.YtipbefckimdkkaaGreat
