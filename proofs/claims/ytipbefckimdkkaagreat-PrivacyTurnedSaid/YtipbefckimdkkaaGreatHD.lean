import Derived.Test.YtipbefckimdkkaaGreatHC
namespace Go.Proofs.YtipbefckimdkkaaGreat.F
open Go Go.Proofs Go.Proofs.YtipbefckimdkkaaGreat.E Go.Proofs.YtipbefckimdkkaaGreat.Q
abbrev own_Value : Nat := 67
def own_Value_c : MFn := ⟨8,(.seq (r [o 1 (.box (.t 0)),o 2 (.alloc zV)] [1,2]) (.seq (r [o 3 (.fA 2 (.t 1)),o 4 (.ld none (.t 3)),o 5 (.call 107 [(.t 4)]),o 6 (.fA 2 (.t 1)),z (.st 1 (.t 6) (.t 5))] [1,2]) (.seq (r [o 7 (.ld (some 3) (.t 1)),z (.st 3 (.t 2) (.t 7))] [2]) .ret))),[.cell 2 (some 3)]⟩
theorem own_Value_ok : cFn Tryz.prog (kps [[1,2],[1,2],[2]]) [] 67 = some own_Value_c := by kernel_rfl
abbrev own_Values : Nat := 107
def own_Values_c : MFn := ⟨19,(.seq (r [o 2 (.mv (.c .nils))] [0]) (.seq (r [o 3 (.mv (.c .nils))] [0,3]) (.seq (.seq (r [o 6 (.mv (.t 0)),o 7 (.lenS (.t 6)),o 8 (.mv (i 0))] [3,6,7,8]) (.block 0 (.loop (.seq (r [o 9 (.bin .lss (.t 8) (.t 7))] [3,6,7,8,9]) (.seq (.cond (.t 9) .skip (.exit 0)) (.seq (.block 1 (.seq (r [o 10 (.ixA 3 (.t 6) (.t 8)),o 11 (.ld (some 3) (.t 10)),o 5 (.alloc zV),z (.st 3 (.t 5) (.t 11))] [3,5,6,7,8]) (r [o 12 (.mv (.t 3)),o 13 (.ld (some 3) (.t 5)),o 14 (.call 67 [(.t 13)]),o 15 (.buildSl 3 1 zV [(0,(.t 14))]),o 16 (.app 3 40 (.t 12) (.t 15)),o 3 (.mv (.t 16))] [3,6,7,8]))) (r [o 17 (.bin .add (.t 8) (i 1)),o 8 (.mv (.t 17))] [3,6,7,8]))))))) (.seq (r [o 18 (.mv (.t 3)),o 2 (.mv (.t 18))] [2]) .ret)))),[.t 2]⟩
theorem own_Values_ok : cFn Tryz.prog (kps [[0],[0,3],[3,6,7,8],[3,6,7,8,9],[3,5,6,7,8],[3,6,7,8],[3,6,7,8],[2]]) [] 107 = some own_Values_c := by kernel_rfl
end Go.Proofs.YtipbefckimdkkaaGreat.F

namespace Go.Proofs.YtipbefckimdkkaaGreat
open Go Go.Proofs Go.Proofs.YtipbefckimdkkaaGreat.E
set_option linter.unusedSimpArgs false
set_option linter.unusedVariables false
theorem manyL_ge' : ∀ (l : List Tr) (n : Int), n ≤ manyL l n
 | [], n => by simp [manyL]
 | x :: l, n => by
   have h1 := (manyT_range x).1
   have h2 := manyL_ge' l (n + manyT x)
   have := manyL_step (l := x :: l) (i := 0) (by simp) n
   simp at this
   rw [this]
   split <;> omega
theorem many_few : ∀ {l : List Tr} {n : Int}, 0 ≤ n → manyL l n ≤ 60 → (l.length : Int) + n ≤ 60 ∧ ∀ x ∈ l, manyT x ≤ 60
 | [], n, _, h => by
   have := manyL_ge' [] n
   simp; omega
 | x :: l, n, n0, h => by
   have h0 := manyL_ge' (x :: l) n
   have h1 := (manyT_range x).1
   have := manyL_step (l := x :: l) (i := 0) (by simp) n
   simp at this
   rw [this, if_pos (by omega)] at h
   obtain ⟨h2, h3⟩ := many_few (by omega) h
   have h4 := manyL_ge' l (n + manyT x)
   refine ⟨by simp; omega, fun y hy => ?_⟩
   rcases List.mem_cons.1 hy with rfl | hy
   ·omega
   ·exact h3 y hy
theorem own_Values {l : List Tr} (hl : l.length ≤ 60) (hv : ∀ t ∈ l, CallD Tryz.prog F.own_Value [.agg t.cells] (· = .agg t.cells)) : CallD Tryz.prog F.own_Values [tl l] (· = tl l) := by
 refine callD_by F.own_Values_ok ?_
 unfold F.own_Values_c
 simp [setOb, List.filter_cons]
 refine wm_loop (fun g : Nat × Nat => ((((Sl.empty.set 8 (.int .i64 g.2)).set 7 (.int .i64 l.length)).set 6 (tl l)).set 3 (grown g.1 g.2), grownS g.1 3 g.2 ((l.map Tr.cells).take g.2)))
  (fun g => g.2 ≤ l.length) (fun g => l.length - g.2) (0, 0) (by simp) ?_ ?_
 ·refine weak_obs ?_ (by simp [grown_zero, grownS_zero]) (by repeat (first | exact sin_empty | refine sin_set (by simp [grown_zero]) ?_)) (by simp [grown_zero, grownS_zero])
  simp only [grown_zero]
  repeat (first | exact sub_empty | refine sub_set (by simp) ?_)
 rintro ⟨o, i⟩ hi
 dsimp only at hi
 have hw : ∀ n, ∀ r ∈ List.take n (l.map Tr.cells), ∀ y ∈ r, ∀ p : Nat → Bool, y.within p = true := fun n r hr y hy p => by
  obtain ⟨x, _, rfl⟩ := List.mem_map.1 (List.mem_of_mem_take hr)
  exact cells_within _ y hy
 by_cases h1 : i < l.length
 ·have e1 : List.take (i + 1) (l.map Tr.cells) = List.take i (l.map Tr.cells) ++ [l[i].cells] := by
   rw [List.take_succ_eq_append_getElem (by simpa using h1)]; simp
  have hih := hv l[i] (List.getElem_mem h1)
  by_cases hi0 : i = 0
  ·subst hi0
   simp at e1
   simp [h1, grown_zero, grownS_zero, setOb, List.filter_cons]
   refine callK_of hih (by simp [toD_cells]) ?_
   simp (disch := omega) [setOb, List.filter_cons, Nat.max_eq_right, Nat.max_eq_left, if_neg, if_pos]
   rw [wrap64 (by omega) (by omega)]
   refine ⟨(2, 1), h1, by dsimp only; omega, ?_⟩
   refine weak_obs ?_ ?_ (by simp only [grown_pos (show 1 ≠ 0 by omega)]; repeat (first | exact sin_empty | refine sin_set (by simp [grownS_pos]) ?_)) ?_
   ·simp only [grown_pos (show 1 ≠ 0 by omega)]
    repeat (first | exact sub_empty | refine sub_set (by simp) ?_)
   ·simp [grownS_pos, e1]
   ·simp only [grownS_pos (show 1 ≠ 0 by omega)]
    intro p hp r hr y hy
    simp at hp; subst hp
    exact hw _ r hr y hy _
  ·simp (disch := omega) [h1, grown_pos hi0, grownS_pos hi0, setOb, List.filter_cons, Nat.max_eq_right, Nat.max_eq_left, if_neg, if_pos]
   refine callK_of hih (by simp [toD_cells]) ?_
   simp (disch := omega) [setOb, List.filter_cons, Nat.max_eq_right, Nat.max_eq_left, if_neg, if_pos]
   rw [wrap64 (by omega) (by omega)]
   refine ⟨(o + 3, i + 1), h1, by dsimp only; omega, ?_⟩
   refine weak_obs ?_ ?_ (by simp only [grown_pos (show i + 1 ≠ 0 by omega)]; repeat (first | exact sin_empty | refine sin_set (by simp [grownS_pos]) ?_)) ?_
   ·simp only [grown_pos (show i + 1 ≠ 0 by omega)]
    repeat (first | exact sub_empty | refine sub_set (by simp) ?_)
   ·simp [grownS_pos, e1]
   ·simp only [grownS_pos (show i + 1 ≠ 0 by omega)]
    intro p hp r hr y hy
    simp at hp; subst hp
    exact hw _ r hr y hy _
 ·have hil : i = l.length := by omega
  subst hil
  simp [h1]
  rw [toD_grown (k := 11) (st := .own) (es := 3) (l := l.map Tr.cells) (fun h => by simp [grownS_pos h, E.look, List.take_of_length_le]) (by simp) (by simp) (by simp) (fun r hr => by obtain ⟨x, _, rfl⟩ := List.mem_map.1 hr; exact toD_cells _ _ _)]
theorem own_Value : ∀ {v : Tr}, v.Ok → manyT v ≤ 60 → CallD Tryz.prog F.own_Value [.agg v.cells] (· = .agg v.cells) := by
 intro v
 induction v using Tr.ind with
 | h k n l ih =>
   intro hv hm
   rw [manyT_mk] at hm
   obtain ⟨m1, m2⟩ := many_few (l := l) (n := 1) (by omega) (by omega)
   cases hv with
   | mk hk hn hl hc =>
     refine callD_by F.own_Value_ok ?_
     unfold F.own_Value_c
     simp [setOb, List.filter_cons, cells_mk]
     refine callK_of (own_Values (by omega) fun t ht => ih t ht (hc t ht) (m2 t ht)) (by simp) ?_
     simp [setOb, List.filter_cons]
end Go.Proofs.YtipbefckimdkkaaGreat
