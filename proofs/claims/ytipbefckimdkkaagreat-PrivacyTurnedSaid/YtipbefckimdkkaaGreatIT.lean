import Derived.Test.YtipbefckimdkkaaGreatHH
import Derived.Test.YtipbefckimdkkaaGreatGD
import Derived.Test.YtipbefckimdkkaaGreatGC
import Derived.Test.YtipbefckimdkkaaGreatProg
import Derived.KernelRfl
import Derived.Test.YtipbefckimdkkaaGreatGM
namespace Go.Proofs.YtipbefckimdkkaaGreat.F
open Go Go.Proofs Go.Proofs.YtipbefckimdkkaaGreat.E Go.Proofs.YtipbefckimdkkaaGreat.Q
abbrev privacy_Turn_1 : Nat := 92
def privacy_Turn_1_c : MFn := ⟨10,(.seq (r [o 2 (.box (.t 0)),o 3 (.box (.t 1)),o 4 (.mv (i 0))] [2,3]) (.seq (r [o 5 (.fA 0 (.t 2)),o 6 (.ld (some 3) (.t 5)),o 7 (.fA 0 (.t 3)),o 8 (.ld (some 3) (.t 7)),o 9 (.call 93 [(.t 6),(.t 8)]),o 4 (.mv (.t 9))] [4]) .ret)),[.t 4]⟩
theorem privacy_Turn_1_ok : cFn Tryz.prog (kps [[2,3],[4]]) [] 92 = some privacy_Turn_1_c := by kernel_rfl
abbrev slices_swapRangeCmpFunc_Part : Nat := 179
def slices_swapRangeCmpFunc_Part_c : MFn := ⟨38,(.seq (r [o 10 (.mv (i 0))] [0,1,2,3,10]) (.block 0 (.loop (.seq (.seq (r [o 11 (.mv (.t 10)),o 12 (.mv (.t 3)),o 13 (.bin .lss (.t 11) (.t 12))] [0,1,2,3,10,13]) (.cond (.t 13) .skip (.exit 0))) (.seq (.block 1 (r [o 16 (.mv (.t 0)),o 17 (.mv (.t 1)),o 18 (.mv (.t 10)),o 19 (.bin .add (.t 17) (.t 18)),o 20 (.mv (.t 0)),o 21 (.mv (.t 2)),o 22 (.mv (.t 10)),o 23 (.bin .add (.t 21) (.t 22)),o 24 (.mv (.t 0)),o 25 (.mv (.t 2)),o 26 (.mv (.t 10)),o 27 (.bin .add (.t 25) (.t 26)),o 28 (.ixA 6 (.t 24) (.t 27)),o 29 (.ld (some 6) (.t 28)),o 30 (.mv (.t 0)),o 31 (.mv (.t 1)),o 32 (.mv (.t 10)),o 33 (.bin .add (.t 31) (.t 32)),o 34 (.ixA 6 (.t 30) (.t 33)),o 35 (.ld (some 6) (.t 34)),o 36 (.ixA 6 (.t 16) (.t 19)),z (.st 6 (.t 36) (.t 29)),o 37 (.ixA 6 (.t 20) (.t 23)),z (.st 6 (.t 37) (.t 35))] [0,1,2,3,10])) (r [o 14 (.mv (.t 10)),o 15 (.bin .add (.t 14) (i 1)),o 10 (.mv (.t 15))] [0,1,2,3,10])))))),[]⟩
theorem slices_swapRangeCmpFunc_Part_ok : cFn Tryz.prog (kps [[0,1,2,3,10],[0,1,2,3,10,13],[0,1,2,3,10],[0,1,2,3,10]]) [] 179 = some slices_swapRangeCmpFunc_Part_c := by kernel_rfl
abbrev slices_rotateCmpFunc_Part : Nat := 168
def slices_rotateCmpFunc_Part_c : MFn := ⟨58,(.seq (r [o 12 (.mv (.t 2)),o 13 (.mv (.t 1)),o 14 (.bin .sub (.t 12) (.t 13)),o 10 (.mv (.t 14))] [0,2,3,4,10]) (.seq (r [o 15 (.mv (.t 3)),o 16 (.mv (.t 2)),o 17 (.bin .sub (.t 15) (.t 16)),o 11 (.mv (.t 17))] [0,2,4,10,11]) (.seq (.block 0 (.loop (.seq (.seq (r [o 18 (.mv (.t 10)),o 19 (.mv (.t 11)),o 20 (.bin .neq (.t 18) (.t 19))] [0,2,4,10,11,20]) (.cond (.t 20) .skip (.exit 0))) (.block 1 (.seq (r [o 21 (.mv (.t 10)),o 22 (.mv (.t 11)),o 23 (.bin .gtr (.t 21) (.t 22))] [0,2,4,10,11,23]) (.cond (.t 23) (.seq (r [o 24 (.mv (.t 0)),o 25 (.mv (.t 2)),o 26 (.mv (.t 10)),o 27 (.bin .sub (.t 25) (.t 26)),o 28 (.mv (.t 2)),o 29 (.mv (.t 11)),o 30 (.mv (.t 4)),o 31 (.call 179 [(.t 24),(.t 27),(.t 28),(.t 29),(.t 30)])] [0,2,4,10,11]) (r [o 32 (.mv (.t 10)),o 33 (.mv (.t 11)),o 34 (.bin .sub (.t 32) (.t 33)),o 10 (.mv (.t 34))] [0,2,4,10,11])) (.seq (r [o 35 (.mv (.t 0)),o 36 (.mv (.t 2)),o 37 (.mv (.t 10)),o 38 (.bin .sub (.t 36) (.t 37)),o 39 (.mv (.t 2)),o 40 (.mv (.t 11)),o 41 (.bin .add (.t 39) (.t 40)),o 42 (.mv (.t 10)),o 43 (.bin .sub (.t 41) (.t 42)),o 44 (.mv (.t 10)),o 45 (.mv (.t 4)),o 46 (.call 179 [(.t 35),(.t 38),(.t 43),(.t 44),(.t 45)])] [0,2,4,10,11]) (r [o 47 (.mv (.t 11)),o 48 (.mv (.t 10)),o 49 (.bin .sub (.t 47) (.t 48)),o 11 (.mv (.t 49))] [0,2,4,10,11])))))))) (r [o 50 (.mv (.t 0)),o 51 (.mv (.t 2)),o 52 (.mv (.t 10)),o 53 (.bin .sub (.t 51) (.t 52)),o 54 (.mv (.t 2)),o 55 (.mv (.t 10)),o 56 (.mv (.t 4)),o 57 (.call 179 [(.t 50),(.t 53),(.t 54),(.t 55),(.t 56)])] [])))),[]⟩
theorem slices_rotateCmpFunc_Part_ok : cFn Tryz.prog (kps [[0,2,3,4,10],[0,2,4,10,11],[0,2,4,10,11,20],[0,2,4,10,11,23],[0,2,4,10,11],[0,2,4,10,11],[0,2,4,10,11],[0,2,4,10,11],[]]) [] 168 = some slices_rotateCmpFunc_Part_c := by kernel_rfl
abbrev slices_insertionSortCmpFunc_Part : Nat := 149
def slices_insertionSortCmpFunc_Part_c : MFn := ⟨53,(.seq (r [o 10 (.mv (.t 1)),o 11 (.bin .add (.t 10) (i 1)),o 8 (.mv (.t 11))] [0,1,2,3,8]) (.block 0 (.loop (.seq (.seq (r [o 12 (.mv (.t 8)),o 13 (.mv (.t 2)),o 14 (.bin .lss (.t 12) (.t 13))] [0,1,2,3,8,14]) (.cond (.t 14) .skip (.exit 0))) (.seq (.block 1 (.seq (r [o 17 (.mv (.t 8)),o 9 (.mv (.t 17))] [0,1,2,3,8,9]) (.block 2 (.loop (.seq (.seq (r [o 18 (.mv (.t 9)),o 19 (.mv (.t 1)),o 20 (.bin .gtr (.t 18) (.t 19)),o 21 (.mv (.t 20)),y 22 21 (.mv (.t 3)),y 23 21 (.mv (.t 0)),y 24 21 (.mv (.t 9)),y 25 21 (.ixA 6 (.t 23) (.t 24)),y 26 21 (.ld (some 6) (.t 25)),y 27 21 (.mv (.t 0)),y 28 21 (.mv (.t 9)),y 29 21 (.bin .sub (.t 28) (i 1)),y 30 21 (.ixA 6 (.t 27) (.t 29)),y 31 21 (.ld (some 6) (.t 30)),y 32 21 (.callVF (.t 22) [(.t 26),(.t 31)]),y 33 21 (.bin .lss (.t 32) (i 0)),o 34 (.pick (.t 21) (.t 33) (.c (.bool false)))] [0,1,2,3,8,9,34]) (.cond (.t 34) .skip (.exit 2))) (.seq (.block 3 (r [o 37 (.mv (.t 0)),o 38 (.mv (.t 9)),o 39 (.mv (.t 0)),o 40 (.mv (.t 9)),o 41 (.bin .sub (.t 40) (i 1)),o 42 (.mv (.t 0)),o 43 (.mv (.t 9)),o 44 (.bin .sub (.t 43) (i 1)),o 45 (.ixA 6 (.t 42) (.t 44)),o 46 (.ld (some 6) (.t 45)),o 47 (.mv (.t 0)),o 48 (.mv (.t 9)),o 49 (.ixA 6 (.t 47) (.t 48)),o 50 (.ld (some 6) (.t 49)),o 51 (.ixA 6 (.t 37) (.t 38)),z (.st 6 (.t 51) (.t 46)),o 52 (.ixA 6 (.t 39) (.t 41)),z (.st 6 (.t 52) (.t 50))] [0,1,2,3,8,9])) (r [o 35 (.mv (.t 9)),o 36 (.bin .sub (.t 35) (i 1)),o 9 (.mv (.t 36))] [0,1,2,3,8,9]))))))) (r [o 15 (.mv (.t 8)),o 16 (.bin .add (.t 15) (i 1)),o 8 (.mv (.t 16))] [0,1,2,3,8])))))),[]⟩
theorem slices_insertionSortCmpFunc_Part_ok : cFn Tryz.prog (kps [[0,1,2,3,8],[0,1,2,3,8,14],[0,1,2,3,8],[0,1,2,3,8,9],[0,1,2,3,8,9,34],[0,1,2,3,8,9],[0,1,2,3,8,9]]) [] 149 = some slices_insertionSortCmpFunc_Part_c := by kernel_rfl
end Go.Proofs.YtipbefckimdkkaaGreat.F

namespace Go.Proofs.YtipbefckimdkkaaGreat
open Go Go.Proofs Go.Proofs.YtipbefckimdkkaaGreat.E
set_option linter.unusedSimpArgs false
set_option linter.unusedVariables false
theorem setOb2 (σ : Sto) (o : Nat) (x y : Ob) : setOb (setOb σ o x) o y = setOb σ o y := by simp [setOb, List.filter_cons]
abbrev obL (L : List Part) : Ob := ⟨.own, 6, L.map partC⟩
theorem partC_inner (p : Part) (y : V) (h : y ∈ partC p) (f : Nat → Bool) : y.within f = true := by
 simp [partC] at h
 rcases h with h | h
 ·exact cells_within _ y h
 ·exact rawc_within _ y h
theorem plain_L (L : List Part) : Plain (obL L).cells := by
 intro r hr y hy p
 obtain ⟨x, _, rfl⟩ := List.mem_map.1 hr
 exact partC_inner x y hy p
abbrev cmpC : V := .clo F.privacy_Turn_1 []
section
variable {σ : Sto} {o : Nat} {L : List Part}
set_option maxHeartbeats 4000000 in
theorem swap_range {a b n : Nat} (h1 : a + n ≤ b) (h2 : b + n ≤ L.length) (hl : L.length ≤ 1000000) (ho : E.look σ o = some (obL L)) (hs : Shut σ) :
 CallX Tryz.prog F.slices_swapRangeCmpFunc_Part [.ref o 0 L.length, .int .i64 a, .int .i64 b, .int .i64 n, cmpC] σ
  (fun v s => v = .tup [] ∧ ∃ M : List Part, s = setOb σ o (obL M) ∧ Moved (exF a b n) L M) := by
 refine callX_by F.slices_swapRangeCmpFunc_Part_ok ?_
 unfold F.slices_swapRangeCmpFunc_Part_c
 simp
 have hoK : (E.look σ o).isSome = true := by rw [ho]; rfl
 refine wm_loop (fun g : Nat × List Part => (((((Sl.empty.set 10 (.int .i64 g.1)).set 3 (.int .i64 n)).set 2 (.int .i64 b)).set 1 (.int .i64 a)).set 0 (.ref o 0 L.length), setOb σ o (obL g.2)))
  (fun g => g.1 ≤ n ∧ Moved (exF a b g.1) L g.2) (fun g => n - g.1) (0, L) ⟨by omega, (Moved.refl L).congr fun k _ => (exF_zero a b k).symm⟩ ?_ ?_
 ·refine weak_gen ?_ ?_ (keep_set keys_look) ?_ (shut_set hs (plain_L _))
  ·repeat (first | exact sub_empty | refine sub_set (by simp) ?_)
  ·intro p x
   rw [look_setOb]
   split
   ·rename_i e; rw [e, ho]; exact id
   ·exact id
  ·repeat (first | exact sin_empty | refine sin_set (by simp [V.within]) ?_)
 rintro ⟨i, X⟩ ⟨hi, hm⟩
 dsimp only at hi hm
 have hX := hm.len
 by_cases c : i < n
 ·have i1 : a + i < X.length := by omega
  have i2 : b + i < X.length := by omega
  have e1 : ((a : Int) + i).toNat = a + i := by omega
  have e2 : ((b : Int) + i).toNat = b + i := by omega
  simp [c]
  repeat simp (disch := omega) [wrap64, if_pos, e1, e2, i1, i2]
  have hsw := moved_swap i1 i2
  have e3 : ((List.map partC X).set (a + i) (partC X[b + i])).set (b + i) (partC X[a + i]) = List.map partC ((X.set (a + i) X[b + i]).set (b + i) X[a + i]) := by rw [List.map_set, List.map_set]
  rw [e3]
  refine ⟨(i + 1, _), ⟨c, exF_step (by omega) (show b + (i + 1) ≤ L.length by omega) rfl hm hsw⟩, by dsimp only; omega, ?_⟩
  refine weak_gen ?_ ?_ (keep_set keys_look) ?_ (shut_set hs (plain_L _))
  ·repeat (first | exact sub_empty | refine sub_set (by simp) ?_)
  ·intro p y
   simp only [look_setOb]
   split <;> exact id
  ·repeat (first | exact sin_empty | refine sin_set (by simp [V.within]) ?_)
 ·have hin : i = n := by omega
  subst hin
  simp [c]
  exact doneX_gen (r := .tup []) (l := []) (by simp) (by simp) rfl (Has.refl _) (keep_set keys_look) (shut_set hs (plain_L _)) (by simp) ⟨rfl, X, rfl, hm⟩
set_option maxHeartbeats 4000000 in
theorem rotate {a m b : Nat} (h1 : a < m) (h2 : m < b) (h3 : b ≤ L.length) (hl : L.length ≤ 1000000) (ho : E.look σ o = some (obL L)) (hs : Shut σ) :
 CallX Tryz.prog F.slices_rotateCmpFunc_Part [.ref o 0 L.length, .int .i64 a, .int .i64 m, .int .i64 b, cmpC] σ
  (fun v s => v = .tup [] ∧ ∃ M : List Part, s = setOb σ o (obL M) ∧ Moved (roF a m b) L M) := by
 refine callX_by F.slices_rotateCmpFunc_Part_ok ?_
 unfold F.slices_rotateCmpFunc_Part_c
 simp
 have hoK : (E.look σ o).isSome = true := by rw [ho]; rfl
 repeat simp (disch := omega) [wrap64]
 refine wm_loop (fun g : Nat × Nat × List Part => (((((Sl.empty.set 11 (.int .i64 g.2.1)).set 10 (.int .i64 g.1)).set 4 cmpC).set 2 (.int .i64 m)).set 0 (.ref o 0 L.length), setOb σ o (obL g.2.2)))
  (fun g => 0 < g.1 ∧ 0 < g.2.1 ∧ g.1 ≤ m ∧ m + g.2.1 ≤ L.length ∧ g.2.2.length = L.length ∧ ∀ M, Moved (roF (m - g.1) m (m + g.2.1)) g.2.2 M → Moved (roF a m b) L M) (fun g => g.1 + g.2.1) (m - a, b - m, L) ?_ ?_ ?_
 ·refine ⟨by dsimp only; omega, by dsimp only; omega, by dsimp only; omega, by dsimp only; omega, rfl, fun M hM => ?_⟩
  dsimp only at hM
  have e1 : m - (m - a) = a := by omega
  have e2 : m + (b - m) = b := by omega
  rwa [e1, e2] at hM
 ·have c1 : ((m : Int) - a) = ((m - a : Nat) : Int) := by omega
  have c2 : ((b : Int) - m) = ((b - m : Nat) : Int) := by omega
  rw [c1, c2]
  refine weak_gen ?_ ?_ (keep_set keys_look) ?_ (shut_set hs (plain_L _))
  ·repeat (first | exact sub_empty | refine sub_set (by simp) ?_)
  ·intro p x
   rw [look_setOb]
   split
   ·rename_i e; rw [e, ho]; exact id
   ·exact id
  ·repeat (first | exact sin_empty | refine sin_set (by simp [V.within]) ?_)
 rintro ⟨i, j, X⟩ ⟨i0, j0, him, hjm, hX, hK⟩
 dsimp only at i0 j0 him hjm hX hK
 have hoX : E.look (setOb σ o (obL X)) o = some (obL X) := by rw [look_setOb, if_pos rfl]
 have hsX : Shut (setOb σ o (obL X)) := shut_set hs (plain_L _)
 by_cases c : i = j
 ·subst c
  have e1 : (m : Int) - i = ((m - i : Nat) : Int) := by omega
  have hsw := swap_range (a := m - i) (b := m) (n := i) (by omega) (by omega) (by omega) hoX hsX
  simp
  repeat simp (disch := omega) [wrap64]
  rw [e1, ← hX]
  refine callK_X hsw ?_
  rintro r s ⟨rfl, M, e0, hM⟩
  rw [setOb2] at e0
  subst e0
  simp
  refine doneX_gen (r := .tup []) (l := []) (by simp) (by simp) rfl (Has.refl _) (keep_set keys_look) (shut_set hs (plain_L _)) (by simp) ⟨rfl, M, rfl, hK M ?_⟩
  exact rot_end him (show m + i ≤ X.length by omega) rfl hM
 ·have c' : ¬ (i : Int) = j := by omega
  by_cases c2 : j < i
  ·have e1 : (m : Int) - i = ((m - i : Nat) : Int) := by omega
   have e2 : (i : Int) - j = ((i - j : Nat) : Int) := by omega
   have hsw := swap_range (a := m - i) (b := m) (n := j) (by omega) (by omega) (by omega) hoX hsX
   simp [c, c', c2]
   repeat simp (disch := omega) [wrap64]
   rw [e1, ← hX]
   refine callK_X hsw ?_
   rintro r s ⟨rfl, M, e0, hM⟩
   rw [setOb2] at e0
   subst e0
   simp
   repeat simp (disch := omega) [wrap64]
   rw [e2]
   have hML := hM.len
   refine ⟨(i - j, j, M), ⟨by dsimp only; omega, j0, by dsimp only; omega, by dsimp only; omega, by dsimp only; omega, fun N hN => hK N ?_⟩, by dsimp only; omega, ?_⟩
   ·exact rot_front c2 him (show m + j ≤ X.length by omega) rfl hM hN
   ·refine weak_gen ?_ ?_ (keep_set keys_look) ?_ (shut_set hs (plain_L _))
    ·repeat (first | exact sub_empty | refine sub_set (by simp [hX]) ?_)
    ·intro p y
     simp only [look_setOb]
     split <;> exact id
    ·repeat (first | exact sin_empty | refine sin_set (by simp [V.within]) ?_)
  ·have e1 : (m : Int) - i = ((m - i : Nat) : Int) := by omega
   have e2 : (j : Int) - i = ((j - i : Nat) : Int) := by omega
   have e3 : (m : Int) + j - i = ((m + j - i : Nat) : Int) := by omega
   have hsw := swap_range (a := m - i) (b := m + j - i) (n := i) (by omega) (by omega) (by omega) hoX hsX
   simp [c, c', c2]
   repeat simp (disch := omega) [wrap64]
   rw [e1, e3, ← hX]
   refine callK_X hsw ?_
   rintro r s ⟨rfl, M, e0, hM⟩
   rw [setOb2] at e0
   subst e0
   simp
   repeat simp (disch := omega) [wrap64]
   rw [e2]
   have hML := hM.len
   refine ⟨(i, j - i, M), ⟨i0, by dsimp only; omega, him, by dsimp only; omega, by dsimp only; omega, fun N hN => hK N ?_⟩, by dsimp only; omega, ?_⟩
   ·exact rot_back (by omega) him (show m + j ≤ X.length by omega) rfl hM hN
   ·refine weak_gen ?_ ?_ (keep_set keys_look) ?_ (shut_set hs (plain_L _))
    ·repeat (first | exact sub_empty | refine sub_set (by simp [hX]) ?_)
    ·intro p y
     simp only [look_setOb]
     split <;> exact id
    ·repeat (first | exact sin_empty | refine sin_set (by simp [V.within]) ?_)
end
theorem privacy_Turn_1 {p q : Part} (hp : p.v.Ok) (hq : q.v.Ok) : CallD Tryz.prog F.privacy_Turn_1 [.agg (partC p), .agg (partC q)] (· = .int .i64 (cmpT p.v q.v)) := by
 refine callD_by F.privacy_Turn_1_ok ?_
 unfold F.privacy_Turn_1_c
 simp [setOb, List.filter_cons]
 refine callK_of (value_Compare hp hq) (by simp [toD_cells]) ?_
 simp
section
variable {σ : Sto} {o : Nat} {L : List Part}
set_option maxHeartbeats 8000000 in
theorem ins_sort {a b : Nat} (hb : b ≤ L.length) (hl : L.length ≤ 1000000) (hO : ∀ p ∈ L, p.v.Ok) (ha : a ≤ L.length) (ho : E.look σ o = some (obL L)) (hs : Shut σ) :
 CallX Tryz.prog F.slices_insertionSortCmpFunc_Part [.ref o 0 L.length, .int .i64 a, .int .i64 b, cmpC] σ
  (fun v s => v = .tup [] ∧ ∃ M : List Part, s = setOb σ o (obL M) ∧ Mrg a b L M) := by
 refine callX_by F.slices_insertionSortCmpFunc_Part_ok ?_
 unfold F.slices_insertionSortCmpFunc_Part_c
 simp
 repeat simp (disch := omega) [wrap64]
 have hoK : (E.look σ o).isSome = true := by rw [ho]; rfl
 refine wm_loop (fun g : Nat × List Part => (((((Sl.empty.set 8 (.int .i64 g.1)).set 3 cmpC).set 2 (.int .i64 b)).set 1 (.int .i64 a)).set 0 (.ref o 0 L.length), setOb σ o (obL g.2)))
  (fun g => a + 1 ≤ g.1 ∧ (g.1 = a + 1 ∧ g.2 = L ∨ g.1 ≤ b) ∧ Mrg a g.1 L g.2) (fun g => b - g.1) (a + 1, L) ⟨Nat.le_refl _, .inl ⟨rfl, rfl⟩, Mrg.refl (SR.short (Nat.le_refl _))⟩ ?_ ?_
 ·refine weak_gen ?_ ?_ (keep_set keys_look) ?_ (shut_set hs (plain_L _))
  ·repeat (first | exact sub_empty | refine sub_set (by simp) ?_)
  ·intro p x
   rw [look_setOb]
   split
   ·rename_i e; rw [e, ho]; exact id
   ·exact id
  ·repeat (first | exact sin_empty | refine sin_set (by simp [V.within]) ?_)
 rintro ⟨i, X⟩ ⟨h1, h2, h3⟩
 dsimp only at h1 h2 h3
 have hX := h3.len
 by_cases hi : i < b
 ·have hiX : i < X.length := by omega
  simp [hi]
  refine wm_loop (fun g : Nat × List Part => ((((((Sl.empty.set 9 (.int .i64 g.1)).set 8 (.int .i64 i)).set 3 cmpC).set 2 (.int .i64 b)).set 1 (.int .i64 a)).set 0 (.ref o 0 L.length), setOb σ o (obL g.2)))
   (fun g => a ≤ g.1 ∧ g.1 ≤ i ∧ Moved (roF g.1 i (i + 1)) X g.2 ∧ ∀ k y, g.1 ≤ k → k < i → X[k]? = some y → cmpT X[i].v y.v < 0) (fun g => g.1) (i, X)
   ⟨by dsimp only; omega, Nat.le_refl _, (Moved.refl X).congr fun k _ => (roF_nil (by omega)).symm, fun k y k1 k2 => by dsimp only at k1; omega⟩ ?_ ?_
  ·refine weak_gen ?_ (Has.refl _) (keep_set keys_look) ?_ (shut_set hs (plain_L _))
   ·repeat (first | exact sub_empty | refine sub_set (by simp) ?_)
   ·repeat (first | exact sin_empty | refine sin_set (by simp [V.within]) ?_)
  rintro ⟨j, Y⟩ ⟨ja, ji, hm, hlt⟩
  dsimp only at ja ji hm hlt
  have hY := hm.len
  have hend : (j = a ∨ ∃ h0 : j - 1 < X.length, a < j ∧ 0 ≤ cmpT X[i].v X[j - 1].v) → Again (σ.map (·.1)) (fun g : Nat × List Part => (((((Sl.empty.set 8 (.int .i64 g.1)).set 3 cmpC).set 2 (.int .i64 b)).set 1 (.int .i64 a)).set 0 (.ref o 0 L.length), setOb σ o (obL g.2)))
   (fun g => a + 1 ≤ g.1 ∧ (g.1 = a + 1 ∧ g.2 = L ∨ g.1 ≤ b) ∧ Mrg a g.1 L g.2) (fun g => b - g.1) (i, X)
   (((((Sl.empty.set 8 (.int .i64 (i + 1))).set 3 cmpC).set 2 (.int .i64 b)).set 1 (.int .i64 a)).set 0 (.ref o 0 L.length)) (setOb σ o (obL Y)) := by
   intro he
   have hmr : Mrg a (i + 1) X Y := by
    refine mrg_last ja ji (by omega) h3.srt X[i] (List.getElem?_eq_getElem hiX) (fun k y k1 k2 hy => ?_) hlt hm
    rcases he with he | ⟨h0, h0a, he⟩
    ·omega
    ·have t1 := h3.srt.le (j := j - 1) k1 (by omega) (by omega) hy (List.getElem?_eq_getElem h0)
     have t2 := cmpT_neg X[i].v X[j - 1].v
     have t3 := cmpT_le_trans t1 (show cmpT X[j - 1].v X[i].v ≤ 0 by omega)
     have t4 := cmpT_neg X[i].v y.v
     omega
   refine ⟨(i + 1, Y), ⟨by dsimp only; omega, .inr hi, h3.then hmr (Nat.le_refl _) (by omega)⟩, by dsimp only; omega, ?_⟩
   refine weak_gen ?_ (Has.refl _) (keep_set keys_look) ?_ (shut_set hs (plain_L _))
   ·repeat (first | exact sub_empty | refine sub_set (by simp) ?_)
   ·repeat (first | exact sin_empty | refine sin_set (by simp [V.within]) ?_)
  by_cases hja : j = a
  ·subst hja
   have q : ¬ (j : Int) > j := by omega
   simp
   repeat simp (disch := omega) [wrap64]
   exact hend (.inl rfl)
  ·have q0 : (a : Int) < j := by omega
   have q1 : a < j := by omega
   have q2 : j < Y.length := by omega
   have q3 : j - 1 < Y.length := by omega
   have q2X : j < X.length := by omega
   have q3X : j - 1 < X.length := by omega
   have e1 : ((j : Int) - 1).toNat = j - 1 := by omega
   have r1 : roF j i (i + 1) j = i := by
    unfold roF; repeat' split
    all_goals omega
   have r2 : roF j i (i + 1) (j - 1) = j - 1 := by
    unfold roF; repeat' split
    all_goals omega
   have g1 : Y[j] = X[i] := by
    have := hm.getE q2 (by rw [r1]; exact hiX)
    simpa only [r1] using this
   have g2 : Y[j - 1] = X[j - 1] := by
    have := hm.getE q3 (by rw [r2]; exact q3X)
    simpa only [r2] using this
   have okI : X[i].v.Ok := hO _ (h3.perm.mem_iff.1 (List.getElem_mem hiX))
   have okJ : X[j - 1].v.Ok := hO _ (h3.perm.mem_iff.1 (List.getElem_mem q3X))
   simp [q0, q1, q2, q3]
   repeat simp (disch := omega) [wrap64, if_pos, e1, q0, q1, q2, q3, g1, g2]
   refine ⟨_, _, ⟨rfl, rfl⟩, callXK_of (privacy_Turn_1 okI okJ) (by simp [toD_partC]) ?_⟩
   by_cases hc : cmpT X[i].v X[j - 1].v < 0
   ·simp [hc]
    repeat simp (disch := omega) [wrap64, if_pos, e1, q0, q1, q2, q3, g1, g2]
    have hsw := moved_swap q2 q3
    have e2 : (j : Int) - 1 = ((j - 1 : Nat) : Int) := by omega
    have e3 : ((List.map partC Y).set j (partC X[j - 1])).set (j - 1) (partC X[i]) = List.map partC ((Y.set j Y[j - 1]).set (j - 1) Y[j]) := by rw [List.map_set, List.map_set, g1, g2]
    rw [e3, e2]
    refine ⟨(j - 1, _), ⟨by dsimp only; omega, by dsimp only; omega, ro_back (by omega) ji hiX hm hsw, fun k y k1 k2 hy => ?_⟩, by dsimp only; omega, ?_⟩
    ·by_cases e : k = j - 1
     ·subst e
      rw [List.getElem?_eq_getElem q3X] at hy
      injection hy with hy; subst hy; exact hc
     ·exact hlt k y (by dsimp only at k1; omega) k2 hy
    ·refine weak_gen ?_ ?_ (keep_set keys_look) ?_ (shut_set hs (plain_L _))
     ·repeat (first | exact sub_empty | refine sub_set (by simp) ?_)
     ·intro p y
      simp only [look_setOb]
      split <;> exact id
     ·repeat (first | exact sin_empty | refine sin_set (by simp [V.within]) ?_)
   ·simp [hc]
    repeat simp (disch := omega) [wrap64]
    exact hend (.inr ⟨q3X, q1, by omega⟩)
 ·simp [hi]
  refine doneX_gen (r := .tup []) (l := []) (by simp) (by simp) rfl (Has.refl _) (keep_set keys_look) (shut_set hs (plain_L _)) (by simp) ⟨rfl, X, rfl, ?_⟩
  rcases h2 with ⟨e1, e2⟩ | h2
  ·subst e2; exact Mrg.refl (SR.short (by omega))
  ·have : i = b := by omega
   subst this; exact h3
end
end Go.Proofs.YtipbefckimdkkaaGreat
