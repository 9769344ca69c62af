import Derived.Test.YtmjgehbpcchjpaaGreatDoorHM
import Derived.Test.YtmjgehbpcchjpaaGreatDoorGC
import Derived.Test.YtmjgehbpcchjpaaGreatDoorProg
import Derived.KernelRfl
namespace Go.Proofs.YtmjgehbpcchjpaaGreatDoor.F
open Go Go.Proofs Go.Proofs.YtmjgehbpcchjpaaGreatDoor.E Go.Proofs.YtmjgehbpcchjpaaGreatDoor.Q
abbrev ref04_Values : Nat := 53
def ref04_Values_c : MFn := ⟨22,(.seq (r [o 1 (.box (.t 0)),o 2 (.alloc zR)] [1,2]) (.seq (r [o 5 (.call 113 []),o 3 (.alloc zR),z (.st 3 (.t 3) (.t 5))] [1,2,3]) (.seq (.seq (r [o 4 (.mv (i 0))] [1,2,3,4]) (.block 0 (.loop (.seq (.seq (r [o 6 (.mv (.t 4)),o 7 (.fA 0 (.t 1)),o 8 (.ld none (.t 7)),o 9 (.lenS (.t 8)),o 10 (.bin .lss (.t 6) (.t 9))] [1,2,3,4,10]) (.cond (.t 10) .skip (.exit 0))) (.seq (.block 1 (r [o 13 (.ld (some 3) (.t 3)),o 14 (.fA 0 (.t 1)),o 15 (.ld none (.t 14)),o 16 (.mv (.t 4)),o 17 (.ixA 6 (.t 15) (.t 16)),o 18 (.fA 3 (.t 17)),o 19 (.ld (some 3) (.t 18)),o 20 (.callF 81 [(.t 13),(.t 19)]),z (.st 3 (.t 3) (.t 20))] [1,2,3,4])) (r [o 11 (.mv (.t 4)),o 12 (.bin .add (.t 11) (i 1)),o 4 (.mv (.t 12))] [1,2,3,4])))))) (.seq (r [o 21 (.ld (some 3) (.t 3)),z (.st 3 (.t 2) (.t 21))] [2]) .ret)))),[.cell 2 (some 3)]⟩
theorem ref04_Values_ok : cFn Tryz.prog (kps [[1,2],[1,2,3],[1,2,3,4],[1,2,3,4,10],[1,2,3,4],[1,2,3,4],[2]]) [] 53 = some ref04_Values_c := by kernel_rfl
abbrev ref04_Weight : Nat := 55
def ref04_Weight_c : MFn := ⟨32,(.seq (r [o 2 (.box (.t 0)),o 3 (.box (.t 1)),o 4 (.alloc zR)] [2,3,4]) (.seq (r [o 7 (.call 113 []),o 5 (.alloc zR),z (.st 3 (.t 5) (.t 7))] [2,3,4,5]) (.seq (.seq (r [o 6 (.mv (i 0))] [2,3,4,5,6]) (.block 0 (.loop (.seq (.seq (r [o 8 (.mv (.t 6)),o 9 (.fA 0 (.t 2)),o 10 (.ld none (.t 9)),o 11 (.lenS (.t 10)),o 12 (.bin .lss (.t 8) (.t 11))] [2,3,4,5,6,12]) (.cond (.t 12) .skip (.exit 0))) (.seq (.block 1 (.seq (r [o 15 (.fA 0 (.t 2)),o 16 (.ld none (.t 15)),o 17 (.mv (.t 6)),o 18 (.ixA 6 (.t 16) (.t 17)),o 19 (.fA 0 (.t 18)),o 20 (.ld (some 3) (.t 19)),o 21 (.ld (some 3) (.t 3)),o 22 (.callF 95 [(.t 20),(.t 21)])] [2,3,4,5,6,22]) (.cond (.t 22) (r [o 23 (.ld (some 3) (.t 5)),o 24 (.fA 0 (.t 2)),o 25 (.ld none (.t 24)),o 26 (.mv (.t 6)),o 27 (.ixA 6 (.t 25) (.t 26)),o 28 (.fA 3 (.t 27)),o 29 (.ld (some 3) (.t 28)),o 30 (.callF 81 [(.t 23),(.t 29)]),z (.st 3 (.t 5) (.t 30))] [2,3,4,5,6]) .skip))) (r [o 13 (.mv (.t 6)),o 14 (.bin .add (.t 13) (i 1)),o 6 (.mv (.t 14))] [2,3,4,5,6])))))) (.seq (r [o 31 (.ld (some 3) (.t 5)),z (.st 3 (.t 4) (.t 31))] [4]) .ret)))),[.cell 4 (some 3)]⟩
theorem ref04_Weight_ok : cFn Tryz.prog (kps [[2,3,4],[2,3,4,5],[2,3,4,5,6],[2,3,4,5,6,12],[2,3,4,5,6],[2,3,4,5,6,22],[2,3,4,5,6],[4]]) [] 55 = some ref04_Weight_c := by kernel_rfl
end Go.Proofs.YtmjgehbpcchjpaaGreatDoor.F

namespace Go.Proofs.YtmjgehbpcchjpaaGreatDoor
open Go Go.Proofs Go.Proofs.YtmjgehbpcchjpaaGreatDoor.E
set_option linter.unusedSimpArgs false
set_option linter.unusedVariables false
end Go.Proofs.YtmjgehbpcchjpaaGreatDoor

namespace Go.Proofs.YtmjgehbpcchjpaaGreatDoor
open Go Go.Proofs Go.Proofs.YtmjgehbpcchjpaaGreatDoor.E
set_option linter.unusedSimpArgs false
set_option linter.unusedVariables false
theorem ref04_Values {m : Ms} {K : Nat} (hK : 1 ≤ K) (hK31 : K ≤ 2 ^ 31) (hm : m.Ok K) (hl : m.parts.length ≤ 1000000) (hb : 1 + m.parts.length * (K + 1) ≤ 2 ^ 31) : CallD Tryz.prog F.ref04_Values [m.v] (· = ratV (psum m.parts)) := by
 refine callD_by F.ref04_Values_ok ?_
 unfold F.ref04_Values_c
 simp [setOb, List.filter_cons, raw_v, msC, tailC]
 refine callK_of ref02_Zero (by simp) ?_
 simp [setOb, List.filter_cons, ratV, raw_v]
 generalize hL : m.parts = l at hl hb ⊢
 refine wm_loop (fun g : Nat => ((((Sl.empty.set 4 (.int .i64 g)).set 3 (.ptr 2 0 0)).set 2 (.ptr 1 0 0)).set 1 (.ptr 0 0 0),
  [(0, ⟨.own, 16, [pl l :: tailC m.rf m.lo m.f0 m.f1 m.f2]⟩), (1, ⟨.own, 3, [[.bool false, .nils, .nils]]⟩), (2, ⟨.own, 3, [(rawOf (psum (l.take g))).c]⟩)]))
  (fun g => g ≤ l.length) (fun g => l.length - g) 0 (by omega) ?_ ?_
 ·refine weak_obs ?_ (by simp [psum, sumBy, tailC]) (by repeat (first | exact sin_empty | refine sin_set (by simp) ?_)) ?_
  ·repeat (first | exact sub_empty | refine sub_set (by simp) ?_)
  ·simp [tailC]; exact fun y hy => rawc_within _ y hy
 intro i hi
 by_cases h1 : i < l.length
 ·have okA := (hm.parts _ (by rw [hL]; exact List.getElem_mem h1)).2
  have hst : psum (l.take (i + 1)) = psum (l.take i) + l[i].w.q := sumBy_take (f := fun p : Part => p.w.q) h1
  have hacc : Fits (psum (l.take i)) (2 ^ 31) := (sumBy_fits (k := K) _ fun x hx => Raw.fits (hm.parts x (by rw [hL]; exact List.mem_of_mem_take hx)).2 hK).mono (by
   have := mul_len (k := K + 1) (show (l.take i).length ≤ l.length by rw [List.length_take]; omega)
   omega)
  simp [h1, tailC, setOb, List.filter_cons]
  refine callFK_of (ref02_Add (rawOf_ok hacc) (rok okA hK31)) (by simp [toD_rawc, raw_v]) ?_
  rw [rawOf_q, ← hst]
  simp [ratV, raw_v, setOb, List.filter_cons]
  rw [wrap64 (by omega) (by omega)]
  refine ⟨i + 1, h1, by dsimp only; omega, ?_⟩
  refine weak_obs ?_ (by simp [tailC]) (by repeat (first | exact sin_empty | refine sin_set (by simp) ?_)) ?_
  ·repeat (first | exact sub_empty | refine sub_set (by simp) ?_)
  ·simp [tailC]; exact fun y hy => rawc_within _ y hy
 ·have hil : i = l.length := by omega
  subst hil
  simp [h1, tailC, setOb, List.filter_cons, toD_rawc, ratV, raw_v]
theorem ref04_Weight {m : Ms} {v : Tr} {K : Nat} (hK : 1 ≤ K) (hK31 : K ≤ 2 ^ 31) (hm : m.Ok K) (hv : v.Ok) (hl : m.parts.length ≤ 1000000) (hb : 1 + m.parts.length * (K + 1) ≤ 2 ^ 31) : CallD Tryz.prog F.ref04_Weight [m.v, .agg v.cells] (· = ratV (wsum m.parts v)) := by
 refine callD_by F.ref04_Weight_ok ?_
 unfold F.ref04_Weight_c
 simp [setOb, List.filter_cons, raw_v, msC, tailC]
 refine callK_of ref02_Zero (by simp) ?_
 simp [setOb, List.filter_cons, ratV, raw_v]
 generalize hL : m.parts = l at hl hb ⊢
 refine wm_loop (fun g : Nat => (((((Sl.empty.set 6 (.int .i64 g)).set 5 (.ptr 3 0 0)).set 4 (.ptr 2 0 0)).set 3 (.ptr 1 0 0)).set 2 (.ptr 0 0 0),
  [(0, ⟨.own, 16, [pl l :: tailC m.rf m.lo m.f0 m.f1 m.f2]⟩), (1, ⟨.own, 3, [v.cells]⟩), (2, ⟨.own, 3, [[.bool false, .nils, .nils]]⟩), (3, ⟨.own, 3, [(rawOf (wsum (l.take g) v)).c]⟩)]))
  (fun g => g ≤ l.length) (fun g => l.length - g) 0 (by omega) ?_ ?_
 ·refine weak_obs ?_ (by simp [wsum, sumBy, tailC]) (by repeat (first | exact sin_empty | refine sin_set (by simp) ?_)) ?_
  ·repeat (first | exact sub_empty | refine sub_set (by simp) ?_)
  ·simp [tailC]; exact ⟨fun y hy => cells_within _ y hy, fun y hy => rawc_within _ y hy⟩
 intro i hi
 by_cases h1 : i < l.length
 ·have okP := hm.parts _ (by rw [hL]; exact List.getElem_mem h1)
  have hst : wsum (l.take (i + 1)) v = wsum (l.take i) v + (if l[i].v = v then l[i].w.q else 0) := sumBy_take (f := fun p : Part => if p.v = v then p.w.q else 0) h1
  have hacc : Fits (wsum (l.take i) v) (2 ^ 31) := (wsum_fits hK (fun x hx => Raw.fits (hm.parts x (by rw [hL]; exact List.mem_of_mem_take hx)).2 hK) v).mono (by
   have := mul_len (k := K + 1) (show (l.take i).length ≤ l.length by rw [List.length_take]; omega)
   omega)
  simp [h1, tailC, setOb, List.filter_cons]
  refine callFK_of (ref03_Same okP.1 hv) (by simp [toD_cells]) ?_
  by_cases e : l[i].v = v
  ·rw [if_pos e] at hst
   have e2 : cmpT v v = 0 := (cmpT_zero _ _).2 rfl
   simp [h1, e, e2, setOb, List.filter_cons]
   refine callFK_of (ref02_Add (rawOf_ok hacc) (rok okP.2 hK31)) (by simp [toD_rawc, raw_v]) ?_
   rw [rawOf_q, ← hst]
   simp [ratV, raw_v, setOb, List.filter_cons]
   rw [wrap64 (by omega) (by omega)]
   refine ⟨i + 1, h1, by dsimp only; omega, ?_⟩
   refine weak_obs ?_ (by simp [tailC]) (by repeat (first | exact sin_empty | refine sin_set (by simp) ?_)) ?_
   ·repeat (first | exact sub_empty | refine sub_set (by simp) ?_)
   ·simp [tailC]; exact ⟨fun y hy => cells_within _ y hy, fun y hy => rawc_within _ y hy⟩
  ·rw [if_neg e, Rat.add_zero] at hst
   rw [← hst]
   have e2 : ¬ cmpT l[i].v v = 0 := fun h => e ((cmpT_zero _ _).1 h)
   simp [e, e2, setOb, List.filter_cons]
   rw [wrap64 (by omega) (by omega)]
   refine ⟨i + 1, h1, by dsimp only; omega, ?_⟩
   refine weak_obs ?_ (by simp [tailC]) (by repeat (first | exact sin_empty | refine sin_set (by simp) ?_)) ?_
   ·repeat (first | exact sub_empty | refine sub_set (by simp) ?_)
   ·simp [tailC]; exact ⟨fun y hy => cells_within _ y hy, fun y hy => rawc_within _ y hy⟩
 ·have hil : i = l.length := by omega
  subst hil
  simp [h1, tailC, setOb, List.filter_cons, toD_rawc, ratV, raw_v]
end Go.Proofs.YtmjgehbpcchjpaaGreatDoor
