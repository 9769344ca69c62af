import Derived.Test.YtkockkfmjmheeaaGreatKE
import Derived.Test.YtkockkfmjmheeaaGreatGC
import Derived.Test.YtkockkfmjmheeaaGreatProg
import Derived.KernelRfl
import Derived.Test.YtkockkfmjmheeaaGreatGE
namespace Go.Proofs.YtkockkfmjmheeaaGreat.F
open Go Go.Proofs Go.Proofs.YtkockkfmjmheeaaGreat.E Go.Proofs.YtkockkfmjmheeaaGreat.Q
abbrev value_Same : Nat := 25
def value_Same_c : MFn := ⟨9,(.seq (r [o 2 (.box (.t 0)),o 3 (.box (.t 1)),o 4 (.mv (.c (.bool false)))] [2,3]) (.seq (r [o 5 (.ld (some 3) (.t 2)),o 6 (.ld (some 3) (.t 3)),o 7 (.call 55 [(.t 5),(.t 6)]),o 8 (.bin .eql (.t 7) (i 0)),o 4 (.mv (.t 8))] [4]) .ret)),[.t 4]⟩
theorem value_Same_ok : cFn Tryz.prog (kps [[2,3],[4]]) [] 25 = some value_Same_c := by kernel_rfl
abbrev weigh_Second : Nat := 11
def weigh_Second_c : MFn := ⟨36,(.seq (r [o 3 (.box (.t 1)),o 4 (.alloc zR),o 5 (.mv (i 0))] [0,3,4]) (.seq (.seq (r [o 9 (.mv (.t 0)),o 10 (.call 22 [(.t 9),(.c (.clo 23 []))])] [0,3,4,10]) (.cond (.t 10) (.seq (r [o 11 (.build zR []),z (.st 3 (.t 4) (.t 11)),o 5 (.mv (i 1))] [4,5]) .ret) .skip)) (.seq (r [o 12 (.call 24 []),o 6 (.alloc zR),z (.st 3 (.t 6) (.t 12))] [0,3,4,6]) (.seq (.seq (r [o 13 (.mv (.t 0)),o 14 (.lenS (.t 13)),o 15 (.mv (i 0))] [3,4,6,13,14,15]) (.block 0 (.loop (.seq (r [o 16 (.bin .lss (.t 15) (.t 14))] [3,4,6,13,14,15,16]) (.seq (.cond (.t 16) .skip (.exit 0)) (.seq (.block 1 (.seq (r [o 17 (.ixA 9 (.t 13) (.t 15)),o 18 (.ld (some 9) (.t 17)),o 8 (.alloc [.int .i64 0,.int .i64 0,.int .i64 0,.int .i64 0,.nils,.nils,.bool false,.nils,.nils]),z (.st 9 (.t 8) (.t 18))] [3,4,6,8,13,14,15]) (.seq (r [o 19 (.fA 0 (.t 8)),o 20 (.fA 0 (.t 19)),o 21 (.ld none (.t 20)),o 22 (.bin .eql (.t 21) (i 0)),o 23 (.mv (.t 22)),y 24 23 (.fA 0 (.t 8)),y 25 23 (.fA 2 (.t 24)),y 26 23 (.ld (some 3) (.t 25)),y 27 23 (.ld (some 3) (.t 3)),y 28 23 (.call 25 [(.t 26),(.t 27)]),o 29 (.pick (.t 23) (.t 28) (.c (.bool false)))] [3,4,6,8,13,14,15,29]) (.cond (.t 29) (r [o 30 (.ld (some 3) (.t 6)),o 31 (.ld (some 9) (.t 8)),o 32 (.callF 27 [(.t 31)]),o 33 (.callF 26 [(.t 30),(.t 32)]),z (.st 3 (.t 6) (.t 33))] [3,4,6,13,14,15]) .skip)))) (r [o 34 (.bin .add (.t 15) (i 1)),o 15 (.mv (.t 34))] [3,4,6,13,14,15]))))))) (.seq (r [o 35 (.ld (some 3) (.t 6)),z (.st 3 (.t 4) (.t 35)),o 5 (.mv (i 0))] [4,5]) .ret))))),[.cell 4 (some 3),.t 5]⟩
theorem weigh_Second_ok : cFn Tryz.prog (kps [[0,3,4],[0,3,4,10],[4,5],[0,3,4,6],[3,4,6,13,14,15],[3,4,6,13,14,15,16],[3,4,6,8,13,14,15],[3,4,6,8,13,14,15,29],[3,4,6,13,14,15],[3,4,6,13,14,15],[4,5]]) [] 11 = some weigh_Second_c := by kernel_rfl
abbrev ref31_Second : Nat := 12
def ref31_Second_c : MFn := ⟨37,(.seq (r [o 3 (.box (.t 1)),o 4 (.alloc zR),o 5 (.mv (i 0))] [0,3,4]) (.seq (.seq (r [o 9 (.mv (.t 0)),o 10 (.call 28 [(.t 9)]),o 11 (.un .not (.t 10))] [0,3,4,11]) (.cond (.t 11) (.seq (r [o 12 (.build zR []),z (.st 3 (.t 4) (.t 12)),o 5 (.mv (i 1))] [4,5]) .ret) .skip)) (.seq (r [o 13 (.call 29 []),o 6 (.alloc zR),z (.st 3 (.t 6) (.t 13))] [0,3,4,6]) (.seq (.seq (r [o 14 (.mv (.t 0)),o 15 (.lenS (.t 14)),o 16 (.mv (i 0))] [3,4,6,14,15,16]) (.block 0 (.loop (.seq (r [o 17 (.bin .lss (.t 16) (.t 15))] [3,4,6,14,15,16,17]) (.seq (.cond (.t 17) .skip (.exit 0)) (.seq (.block 1 (.seq (r [o 18 (.ixA 9 (.t 14) (.t 16)),o 19 (.ld (some 9) (.t 18)),o 8 (.alloc [.int .i64 0,.int .i64 0,.int .i64 0,.int .i64 0,.nils,.nils,.bool false,.nils,.nils]),z (.st 9 (.t 8) (.t 19))] [3,4,6,8,14,15,16]) (.seq (r [o 20 (.fA 0 (.t 8)),o 21 (.fA 0 (.t 20)),o 22 (.ld none (.t 21)),o 23 (.bin .eql (.t 22) (i 0)),o 24 (.mv (.t 23)),y 25 24 (.fA 0 (.t 8)),y 26 24 (.fA 2 (.t 25)),y 27 24 (.ld (some 3) (.t 26)),y 28 24 (.ld (some 3) (.t 3)),y 29 24 (.call 30 [(.t 27),(.t 28)]),o 30 (.pick (.t 24) (.t 29) (.c (.bool false)))] [3,4,6,8,14,15,16,30]) (.cond (.t 30) (r [o 31 (.ld (some 3) (.t 6)),o 32 (.ld (some 9) (.t 8)),o 33 (.callF 32 [(.t 32)]),o 34 (.callF 31 [(.t 31),(.t 33)]),z (.st 3 (.t 6) (.t 34))] [3,4,6,14,15,16]) .skip)))) (r [o 35 (.bin .add (.t 16) (i 1)),o 16 (.mv (.t 35))] [3,4,6,14,15,16]))))))) (.seq (r [o 36 (.ld (some 3) (.t 6)),z (.st 3 (.t 4) (.t 36)),o 5 (.mv (i 0))] [4,5]) .ret))))),[.cell 4 (some 3),.t 5]⟩
theorem ref31_Second_ok : cFn Tryz.prog (kps [[0,3,4],[0,3,4,11],[4,5],[0,3,4,6],[3,4,6,14,15,16],[3,4,6,14,15,16,17],[3,4,6,8,14,15,16],[3,4,6,8,14,15,16,30],[3,4,6,14,15,16],[3,4,6,14,15,16],[4,5]]) [] 12 = some ref31_Second_c := by kernel_rfl
abbrev own_Value : Nat := 113
def own_Value_c : MFn := ⟨8,(.seq (r [o 1 (.box (.t 0)),o 2 (.alloc zV)] [1,2]) (.seq (r [o 3 (.fA 2 (.t 1)),o 4 (.ld none (.t 3)),o 5 (.call 129 [(.t 4)]),o 6 (.fA 2 (.t 1)),z (.st 1 (.t 6) (.t 5))] [1,2]) (.seq (r [o 7 (.ld (some 3) (.t 1)),z (.st 3 (.t 2) (.t 7))] [2]) .ret))),[.cell 2 (some 3)]⟩
theorem own_Value_ok : cFn Tryz.prog (kps [[1,2],[1,2],[2]]) [] 113 = some own_Value_c := by kernel_rfl
abbrev own_Values : Nat := 129
def own_Values_c : MFn := ⟨19,(.seq (r [o 2 (.mv (.c .nils))] [0]) (.seq (r [o 3 (.mv (.c .nils))] [0,3]) (.seq (.seq (r [o 6 (.mv (.t 0)),o 7 (.lenS (.t 6)),o 8 (.mv (i 0))] [3,6,7,8]) (.block 0 (.loop (.seq (r [o 9 (.bin .lss (.t 8) (.t 7))] [3,6,7,8,9]) (.seq (.cond (.t 9) .skip (.exit 0)) (.seq (.block 1 (.seq (r [o 10 (.ixA 3 (.t 6) (.t 8)),o 11 (.ld (some 3) (.t 10)),o 5 (.alloc zV),z (.st 3 (.t 5) (.t 11))] [3,5,6,7,8]) (r [o 12 (.mv (.t 3)),o 13 (.ld (some 3) (.t 5)),o 14 (.call 113 [(.t 13)]),o 15 (.buildSl 3 1 zV [(0,(.t 14))]),o 16 (.app 3 40 (.t 12) (.t 15)),o 3 (.mv (.t 16))] [3,6,7,8]))) (r [o 17 (.bin .add (.t 8) (i 1)),o 8 (.mv (.t 17))] [3,6,7,8]))))))) (.seq (r [o 18 (.mv (.t 3)),o 2 (.mv (.t 18))] [2]) .ret)))),[.t 2]⟩
theorem own_Values_ok : cFn Tryz.prog (kps [[0],[0,3],[3,6,7,8],[3,6,7,8,9],[3,5,6,7,8],[3,6,7,8],[3,6,7,8],[2]]) [] 129 = some own_Values_c := by kernel_rfl
abbrev own_Run : Nat := 95
def own_Run_c : MFn := ⟨18,(.seq (r [o 1 (.box (.t 0)),o 2 (.alloc [.int .i64 0,.int .i64 0,.int .i64 0,.int .i64 0,.nils,.nils,.bool false,.nils,.nils])] [1,2]) (.seq (r [o 3 (.fA 0 (.t 1)),o 4 (.fA 2 (.t 3)),o 5 (.ld (some 3) (.t 4)),o 6 (.callF 113 [(.t 5)]),o 7 (.fA 5 (.t 1)),o 8 (.ld none (.t 7)),o 9 (.callF 114 [(.t 8)]),o 10 (.fA 6 (.t 1)),o 11 (.ld (some 3) (.t 10)),o 12 (.callF 83 [(.t 11)]),o 13 (.fA 0 (.t 1)),o 14 (.fA 2 (.t 13)),z (.st 3 (.t 14) (.t 6)),o 15 (.fA 5 (.t 1)),z (.st 1 (.t 15) (.t 9)),o 16 (.fA 6 (.t 1)),z (.st 3 (.t 16) (.t 12))] [1,2]) (.seq (r [o 17 (.ld (some 9) (.t 1)),z (.st 9 (.t 2) (.t 17))] [2]) .ret))),[.cell 2 (some 9)]⟩
theorem own_Run_ok : cFn Tryz.prog (kps [[1,2],[1,2],[2]]) [] 95 = some own_Run_c := by kernel_rfl
abbrev own_Runs : Nat := 70
def own_Runs_c : MFn := ⟨19,(.seq (r [o 2 (.mv (.c .nils))] [0]) (.seq (r [o 3 (.mv (.c .nils))] [0,3]) (.seq (.seq (r [o 6 (.mv (.t 0)),o 7 (.lenS (.t 6)),o 8 (.mv (i 0))] [3,6,7,8]) (.block 0 (.loop (.seq (r [o 9 (.bin .lss (.t 8) (.t 7))] [3,6,7,8,9]) (.seq (.cond (.t 9) .skip (.exit 0)) (.seq (.block 1 (.seq (r [o 10 (.ixA 9 (.t 6) (.t 8)),o 11 (.ld (some 9) (.t 10)),o 5 (.alloc [.int .i64 0,.int .i64 0,.int .i64 0,.int .i64 0,.nils,.nils,.bool false,.nils,.nils]),z (.st 9 (.t 5) (.t 11))] [3,5,6,7,8]) (r [o 12 (.mv (.t 3)),o 13 (.ld (some 9) (.t 5)),o 14 (.call 95 [(.t 13)]),o 15 (.buildSl 9 1 [.int .i64 0,.int .i64 0,.int .i64 0,.int .i64 0,.nils,.nils,.bool false,.nils,.nils] [(0,(.t 14))]),o 16 (.app 9 136 (.t 12) (.t 15)),o 3 (.mv (.t 16))] [3,6,7,8]))) (r [o 17 (.bin .add (.t 8) (i 1)),o 8 (.mv (.t 17))] [3,6,7,8]))))))) (.seq (r [o 18 (.mv (.t 3)),o 2 (.mv (.t 18))] [2]) .ret)))),[.t 2]⟩
theorem own_Runs_ok : cFn Tryz.prog (kps [[0],[0,3],[3,6,7,8],[3,6,7,8,9],[3,5,6,7,8],[3,6,7,8],[3,6,7,8],[2]]) [] 70 = some own_Runs_c := by kernel_rfl
abbrev slices_Clone_Drawn_Drawn : Nat := 114
def slices_Clone_Drawn_Drawn_c : MFn := ⟨8,(.seq (r [o 2 (.mv (.c .nils))] [0]) (.seq (.seq (r [o 3 (.mv (.t 0)),o 4 (.binS .eql (.t 3) (.c .nils))] [0,4]) (.cond (.t 4) (.seq (r [o 2 (.mv (.c .nils))] [2]) .ret) .skip)) (.seq (r [o 5 (.buildSl 4 0 [.int .i64 0,.int .i64 0,.int .i64 0,.int .i64 0] []),o 6 (.mv (.t 0)),o 7 (.app 4 32 (.t 5) (.t 6)),o 2 (.mv (.t 7))] [2]) .ret))),[.t 2]⟩
theorem slices_Clone_Drawn_Drawn_ok : cFn Tryz.prog (kps [[0],[0,4],[2],[2]]) [] 114 = some slices_Clone_Drawn_Drawn_c := by kernel_rfl
abbrev own_Ratio : Nat := 83
def own_Ratio_c : MFn := ⟨12,(.seq (r [o 1 (.box (.t 0)),o 2 (.alloc zR)] [1,2]) (.seq (r [o 3 (.fA 0 (.t 1)),o 4 (.ld none (.t 3)),o 5 (.fA 1 (.t 1)),o 6 (.ld none (.t 5)),o 7 (.callF 88 [(.t 6)]),o 8 (.fA 2 (.t 1)),o 9 (.ld none (.t 8)),o 10 (.callF 88 [(.t 9)]),o 11 (.build zR [(0,1,(.t 4)),(1,1,(.t 7)),(2,1,(.t 10))]),z (.st 3 (.t 2) (.t 11))] [2]) .ret)),[.cell 2 (some 3)]⟩
theorem own_Ratio_ok : cFn Tryz.prog (kps [[1,2],[2]]) [] 83 = some own_Ratio_c := by kernel_rfl
end Go.Proofs.YtkockkfmjmheeaaGreat.F

namespace Go.Proofs.YtkockkfmjmheeaaGreat
open Go Go.Proofs Go.Proofs.YtkockkfmjmheeaaGreat.E
set_option linter.unusedSimpArgs false
set_option linter.unusedVariables false
theorem value_SameW {p q : Tr} (hp : p.Ok) (hq : q.Ok) : CallD Tryz.prog F.value_Same [.agg p.cells, .agg q.cells] (· = .bool (decide (p = q))) := by
 refine callD_by F.value_Same_ok ?_
 unfold F.value_Same_c
 simp [setOb, List.filter_cons]
 refine callK_of (value_Compare hp hq) (by simp [toD_cells]) ?_
 simp [cmpT_zero]
def secV (l : List Rn) (v : Tr) : V := if l.all rOk then .tup [ratV (secQ l v), .int .i64 0] else .tup [zeroW, .int .i64 1]
theorem secQ_take {l : List Rn} {v : Tr} {i : Nat} (h : i < l.length) : secQ (l.take (i + 1)) v = secQ (l.take i) v + (if l[i].k = 0 ∧ l[i].v = v then sqQ l[i] else 0) := sumBy_take h
theorem sec_fits {l : List Rn} {v : Tr} (hl : l.length ≤ 60) (ho : ∀ r ∈ l, r.Ok) (ha : ∀ r ∈ l, rOk r = true) : Fits (secQ l v) 3000 := by
 refine (sumR_fits (k := 41) (fun r hr => ?_) hl).mono (by omega)
 split
 ·exact sq_fits (ho r hr) (ha r hr)
 ·exact fits_zero.mono (by omega)
set_option maxHeartbeats 4000000 in
theorem weigh_Second {l : List Rn} {v : Tr} (hl : l.length ≤ 60) (ho : ∀ r ∈ l, r.Ok) (hv : v.Ok) : CallD Tryz.prog F.weigh_Second [rl l, .agg v.cells] (· = secV l v) := by
 refine callD_by F.weigh_Second_ok ?_
 unfold F.weigh_Second_c secV
 simp [setOb, List.filter_cons]
 refine callK_of (contains_Run hl ho) (by simp; rfl) ?_
 cases ha : l.all rOk with
 | false =>
   have hn := List.all_eq_false.1 ha
   simp [setOb, List.filter_cons]
   simpa using hn
 | true =>
 have ha' : ∀ r ∈ l, rOk r = true := List.all_eq_true.1 ha
 simp [setOb, List.filter_cons]
 refine callK_of ratio_Zero (by simp) ?_
 simp [ratV, raw_v, setOb, List.filter_cons]
 refine wm_loop (fun g : Nat => (((((((Sl.empty.set 15 (.int .i64 g)).set 14 (.int .i64 l.length)).set 13 (rl l)).set 6 (.ptr 2 0 0)).set 4 (.ptr 1 0 0)).set 3 (.ptr 0 0 0)), [(2, ⟨.own, 3, [(rawOf (secQ (l.take g) v)).c]⟩), (1, ⟨.own, 3, [[.bool false, .nils, .nils]]⟩), (0, ⟨.own, 3, [v.cells]⟩)])) (fun g => g ≤ l.length) (fun g => l.length - g) 0 (by simp) ?_ ?_
 ·refine weak_obs ?_ (by simp [secQ, sumBy]) (by repeat (first | exact sin_empty | refine sin_set (by simp [V.within]) ?_)) ?_
  ·repeat (first | exact sub_empty | refine sub_set (by simp) ?_)
  ·intro p hp r hr z hz
   simp at hp
   rcases hp with rfl | rfl | rfl
   ·simp at hr; subst hr; exact rawc_within _ z hz
   ·simp at hr; subst hr; simp at hz; rcases hz with rfl | rfl <;> simp [V.within]
   ·simp at hr; subst hr; exact cells_within _ z hz
 intro i hi
 by_cases h1 : i < l.length
 ·have hr := ho _ (List.getElem_mem h1)
  have hk := ha' _ (List.getElem_mem h1)
  have hst := secQ_take (v := v) h1
  have weak : ∀ (S' : Sl) (σ' : Sto), (S' 15 = some (.int .i64 ((i : Int) + 1)) ∧ S' 14 = some (.int .i64 l.length) ∧ S' 13 = some (rl l) ∧ S' 6 = some (.ptr 2 0 0) ∧ S' 4 = some (.ptr 1 0 0) ∧ S' 3 = some (.ptr 0 0 0)) → (E.look σ' 2 = some ⟨.own, 3, [(rawOf (secQ (l.take (i + 1)) v)).c]⟩ ∧ E.look σ' 1 = some ⟨.own, 3, [[.bool false, .nils, .nils]]⟩ ∧ E.look σ' 0 = some ⟨.own, 3, [v.cells]⟩) →
   Again [] (fun g : Nat => (((((((Sl.empty.set 15 (.int .i64 g)).set 14 (.int .i64 l.length)).set 13 (rl l)).set 6 (.ptr 2 0 0)).set 4 (.ptr 1 0 0)).set 3 (.ptr 0 0 0)), [(2, ⟨.own, 3, [(rawOf (secQ (l.take g) v)).c]⟩), (1, ⟨.own, 3, [[.bool false, .nils, .nils]]⟩), (0, ⟨.own, 3, [v.cells]⟩)])) (fun g => g ≤ l.length) (fun g => l.length - g) i S' σ' := by
   rintro S' σ' ⟨s1, s2, s3, s4, s5, s6⟩ ⟨e1, e2, e3⟩
   refine ⟨i + 1, h1, by dsimp only; omega, ?_⟩
   refine weak_obs ?_ (by simp [e1, e2, e3]) (by repeat (first | exact sin_empty | refine sin_set (by simp [V.within]) ?_)) ?_
   ·exact sub_set s6 (sub_set s5 (sub_set s4 (sub_set s3 (sub_set s2 (sub_set s1 sub_empty)))))
   ·intro p hp r hr z hz
    simp at hp
    rcases hp with rfl | rfl | rfl
    ·simp at hr; subst hr; exact rawc_within _ z hz
    ·simp at hr; subst hr; simp at hz; rcases hz with rfl | rfl <;> simp [V.within]
    ·simp at hr; subst hr; exact cells_within _ z hz
  by_cases c0 : l[i].k = 0
  case neg =>
   rw [if_neg (fun h => c0 h.1), Rat.add_zero] at hst
   simp [h1, c0, setOb, List.filter_cons]
   rw [wrap64 (by omega) (by omega)]
   exact weak _ _ (by simp) (by simp [E.look, hst])
  simp [h1, c0, setOb, List.filter_cons]
  refine callK_of (value_SameW hr.v hv) (by simp [toD_cells]) ?_
  by_cases c1 : l[i].v = v
  case neg =>
   rw [if_neg (fun h => c1 h.2), Rat.add_zero] at hst
   have c1' : ¬ cmpT l[i].v v = 0 := fun h => c1 ((cmpT_zero _ _).1 h)
   simp [c1, c1', setOb, List.filter_cons]
   rw [wrap64 (by omega) (by omega)]
   exact weak _ _ (by simp) (by simp [E.look, hst])
  rw [if_pos ⟨c0, c1⟩] at hst
  have c1' : cmpT l[i].v v = 0 := (cmpT_zero _ _).2 c1
  have fs := sec_fits (l := l.take i) (v := v) (by rw [List.length_take]; omega) (fun r hr => ho r (List.mem_of_mem_take hr)) (fun r hr => ha' r (List.mem_of_mem_take hr))
  have fq := sq_fits hr hk
  simp [c1, c1', cmpT_self, setOb, List.filter_cons]
  refine callFK_of (weigh_square hr hk) (by simp [rnC_toD]) ?_
  simp [ratV, raw_v]
  refine callFK_of (ratio_Add (rawOf_ok (fs.mono (by omega))) (rawOf_ok (fq.mono (by omega)))) (by simp [toD_rawc, raw_v]) ?_
  rw [rawOf_q, rawOf_q]
  simp [ratV, raw_v, setOb, List.filter_cons]
  rw [wrap64 (by omega) (by omega)]
  exact weak _ _ (by simp) (by simp [E.look, hst])
 ·have hil : i = l.length := by omega
  subst hil
  rw [List.take_length]
  simp [h1, setOb, List.filter_cons, ratV, raw_v, toD_rawc]
  exact ha'
set_option maxHeartbeats 4000000 in
theorem ref31_Second {l : List Rn} {v : Tr} (hl : l.length ≤ 60) (ho : ∀ r ∈ l, r.Ok) (hv : v.Ok) : CallD Tryz.prog F.ref31_Second [rl l, .agg v.cells] (· = secV l v) := by
 refine callD_by F.ref31_Second_ok ?_
 unfold F.ref31_Second_c secV
 simp [setOb, List.filter_cons]
 refine callK_of (ref31_priors hl ho) (by simp) ?_
 cases ha : l.all rOk with
 | false =>
   have hn := List.all_eq_false.1 ha
   simp [setOb, List.filter_cons]
   simpa using hn
 | true =>
 have ha' : ∀ r ∈ l, rOk r = true := List.all_eq_true.1 ha
 simp [setOb, List.filter_cons]
 refine callK_of ref02_Zero (by simp) ?_
 simp [ratV, raw_v, setOb, List.filter_cons]
 refine wm_loop (fun g : Nat => (((((((Sl.empty.set 16 (.int .i64 g)).set 15 (.int .i64 l.length)).set 14 (rl l)).set 6 (.ptr 2 0 0)).set 4 (.ptr 1 0 0)).set 3 (.ptr 0 0 0)), [(2, ⟨.own, 3, [(rawOf (secQ (l.take g) v)).c]⟩), (1, ⟨.own, 3, [[.bool false, .nils, .nils]]⟩), (0, ⟨.own, 3, [v.cells]⟩)])) (fun g => g ≤ l.length) (fun g => l.length - g) 0 (by simp) ?_ ?_
 ·refine weak_obs ?_ (by simp [secQ, sumBy]) (by repeat (first | exact sin_empty | refine sin_set (by simp [V.within]) ?_)) ?_
  ·repeat (first | exact sub_empty | refine sub_set (by simp) ?_)
  ·intro p hp r hr z hz
   simp at hp
   rcases hp with rfl | rfl | rfl
   ·simp at hr; subst hr; exact rawc_within _ z hz
   ·simp at hr; subst hr; simp at hz; rcases hz with rfl | rfl <;> simp [V.within]
   ·simp at hr; subst hr; exact cells_within _ z hz
 intro i hi
 by_cases h1 : i < l.length
 ·have hr := ho _ (List.getElem_mem h1)
  have hk := ha' _ (List.getElem_mem h1)
  have hst := secQ_take (v := v) h1
  have weak : ∀ (S' : Sl) (σ' : Sto), (S' 16 = some (.int .i64 ((i : Int) + 1)) ∧ S' 15 = some (.int .i64 l.length) ∧ S' 14 = some (rl l) ∧ S' 6 = some (.ptr 2 0 0) ∧ S' 4 = some (.ptr 1 0 0) ∧ S' 3 = some (.ptr 0 0 0)) → (E.look σ' 2 = some ⟨.own, 3, [(rawOf (secQ (l.take (i + 1)) v)).c]⟩ ∧ E.look σ' 1 = some ⟨.own, 3, [[.bool false, .nils, .nils]]⟩ ∧ E.look σ' 0 = some ⟨.own, 3, [v.cells]⟩) →
   Again [] (fun g : Nat => (((((((Sl.empty.set 16 (.int .i64 g)).set 15 (.int .i64 l.length)).set 14 (rl l)).set 6 (.ptr 2 0 0)).set 4 (.ptr 1 0 0)).set 3 (.ptr 0 0 0)), [(2, ⟨.own, 3, [(rawOf (secQ (l.take g) v)).c]⟩), (1, ⟨.own, 3, [[.bool false, .nils, .nils]]⟩), (0, ⟨.own, 3, [v.cells]⟩)])) (fun g => g ≤ l.length) (fun g => l.length - g) i S' σ' := by
   rintro S' σ' ⟨s1, s2, s3, s4, s5, s6⟩ ⟨e1, e2, e3⟩
   refine ⟨i + 1, h1, by dsimp only; omega, ?_⟩
   refine weak_obs ?_ (by simp [e1, e2, e3]) (by repeat (first | exact sin_empty | refine sin_set (by simp [V.within]) ?_)) ?_
   ·exact sub_set s6 (sub_set s5 (sub_set s4 (sub_set s3 (sub_set s2 (sub_set s1 sub_empty)))))
   ·intro p hp r hr z hz
    simp at hp
    rcases hp with rfl | rfl | rfl
    ·simp at hr; subst hr; exact rawc_within _ z hz
    ·simp at hr; subst hr; simp at hz; rcases hz with rfl | rfl <;> simp [V.within]
    ·simp at hr; subst hr; exact cells_within _ z hz
  by_cases c0 : l[i].k = 0
  case neg =>
   rw [if_neg (fun h => c0 h.1), Rat.add_zero] at hst
   simp [h1, c0, setOb, List.filter_cons]
   rw [wrap64 (by omega) (by omega)]
   exact weak _ _ (by simp) (by simp [E.look, hst])
  simp [h1, c0, setOb, List.filter_cons]
  refine callK_of (ref03_Same hr.v hv) (by simp [toD_cells]) ?_
  by_cases c1 : l[i].v = v
  case neg =>
   rw [if_neg (fun h => c1 h.2), Rat.add_zero] at hst
   have c1' : ¬ cmpT l[i].v v = 0 := fun h => c1 ((cmpT_zero _ _).1 h)
   simp [c1, c1', setOb, List.filter_cons]
   rw [wrap64 (by omega) (by omega)]
   exact weak _ _ (by simp) (by simp [E.look, hst])
  rw [if_pos ⟨c0, c1⟩] at hst
  have c1' : cmpT l[i].v v = 0 := (cmpT_zero _ _).2 c1
  have fs := sec_fits (l := l.take i) (v := v) (by rw [List.length_take]; omega) (fun r hr => ho r (List.mem_of_mem_take hr)) (fun r hr => ha' r (List.mem_of_mem_take hr))
  have fq := sq_fits hr hk
  simp [c1, c1', cmpT_self, setOb, List.filter_cons]
  refine callFK_of (ref31_square hr hk) (by simp [rnC_toD]) ?_
  simp [ratV, raw_v]
  refine callFK_of (ref02_Add (rawOf_ok (fs.mono (by omega))) (rawOf_ok (fq.mono (by omega)))) (by simp [toD_rawc, raw_v]) ?_
  rw [rawOf_q, rawOf_q]
  simp [ratV, raw_v, setOb, List.filter_cons]
  rw [wrap64 (by omega) (by omega)]
  exact weak _ _ (by simp) (by simp [E.look, hst])
 ·have hil : i = l.length := by omega
  subst hil
  rw [List.take_length]
  simp [h1, setOb, List.filter_cons, ratV, raw_v, toD_rawc]
  exact ha'
theorem manyL_geK : ∀ (l : List Tr) (n : Int), n ≤ manyL l n
 | [], n => by simp [manyL]
 | x :: l, n => by
   have h1 := (manyT_range x).1
   have h2 := manyL_geK l (n + manyT x)
   have := manyL_step (l := x :: l) (i := 0) (by simp) n
   simp at this
   rw [this]
   split <;> omega
theorem many_fewK : ∀ {l : List Tr} {n : Int}, 0 ≤ n → manyL l n ≤ 1000 → (l.length : Int) + n ≤ 1000 ∧ ∀ x ∈ l, manyT x ≤ 1000
 | [], n, _, h => by
   have := manyL_geK [] n
   simp; omega
 | x :: l, n, n0, h => by
   have h0 := manyL_geK (x :: l) n
   have h1 := (manyT_range x).1
   have := manyL_step (l := x :: l) (i := 0) (by simp) n
   simp at this
   rw [this, if_pos (by omega)] at h
   obtain ⟨h2, h3⟩ := many_fewK (by omega) h
   have h4 := manyL_geK l (n + manyT x)
   refine ⟨by simp; omega, fun y hy => ?_⟩
   rcases List.mem_cons.1 hy with rfl | hy
   ·omega
   ·exact h3 y hy
theorem own_ValuesK {l : List Tr} (hl : l.length ≤ 1000) (hv : ∀ t ∈ l, CallD Tryz.prog F.own_Value [.agg t.cells] (· = .agg t.cells)) : CallD Tryz.prog F.own_Values [tl l] (· = tl l) := by
 refine callD_by F.own_Values_ok ?_
 unfold F.own_Values_c
 simp [setOb, List.filter_cons]
 refine wm_loop (fun g : Nat × Nat => ((((Sl.empty.set 8 (.int .i64 g.2)).set 7 (.int .i64 l.length)).set 6 (tl l)).set 3 (grown g.1 g.2), grownS g.1 3 g.2 ((l.map Tr.cells).take g.2)))
  (fun g => g.2 ≤ l.length) (fun g => l.length - g.2) (0, 0) (by simp) ?_ ?_
 ·refine weak_obs ?_ (by simp [grown_zero, grownS_zero]) (by repeat (first | exact sin_empty | refine sin_set (by simp [grown_zero]) ?_)) (by simp [grown_zero, grownS_zero])
  simp only [grown_zero]
  repeat (first | exact sub_empty | refine sub_set (by simp) ?_)
 rintro ⟨o, i⟩ hi
 dsimp only at hi
 have hw : ∀ n, ∀ r ∈ List.take n (l.map Tr.cells), ∀ y ∈ r, ∀ p : Nat → Bool, y.within p = true := fun n r hr y hy p => by
  obtain ⟨x, _, rfl⟩ := List.mem_map.1 (List.mem_of_mem_take hr)
  exact cells_within _ y hy
 by_cases h1 : i < l.length
 ·have e1 : List.take (i + 1) (l.map Tr.cells) = List.take i (l.map Tr.cells) ++ [l[i].cells] := by
   rw [List.take_succ_eq_append_getElem (by simpa using h1)]; simp
  have hih := hv l[i] (List.getElem_mem h1)
  by_cases hi0 : i = 0
  ·subst hi0
   simp at e1
   simp [h1, grown_zero, grownS_zero, setOb, List.filter_cons]
   refine callK_of hih (by simp [toD_cells]) ?_
   simp (disch := omega) [setOb, List.filter_cons, Nat.max_eq_right, Nat.max_eq_left, if_neg, if_pos]
   rw [wrap64 (by omega) (by omega)]
   refine ⟨(2, 1), h1, by dsimp only; omega, ?_⟩
   refine weak_obs ?_ ?_ (by simp only [grown_pos (show 1 ≠ 0 by omega)]; repeat (first | exact sin_empty | refine sin_set (by simp [grownS_pos]) ?_)) ?_
   ·simp only [grown_pos (show 1 ≠ 0 by omega)]
    repeat (first | exact sub_empty | refine sub_set (by simp) ?_)
   ·simp [grownS_pos, e1]
   ·simp only [grownS_pos (show 1 ≠ 0 by omega)]
    intro p hp r hr y hy
    simp at hp; subst hp
    exact hw _ r hr y hy _
  ·simp (disch := omega) [h1, grown_pos hi0, grownS_pos hi0, setOb, List.filter_cons, Nat.max_eq_right, Nat.max_eq_left, if_neg, if_pos]
   refine callK_of hih (by simp [toD_cells]) ?_
   simp (disch := omega) [setOb, List.filter_cons, Nat.max_eq_right, Nat.max_eq_left, if_neg, if_pos]
   rw [wrap64 (by omega) (by omega)]
   refine ⟨(o + 3, i + 1), h1, by dsimp only; omega, ?_⟩
   refine weak_obs ?_ ?_ (by simp only [grown_pos (show i + 1 ≠ 0 by omega)]; repeat (first | exact sin_empty | refine sin_set (by simp [grownS_pos]) ?_)) ?_
   ·simp only [grown_pos (show i + 1 ≠ 0 by omega)]
    repeat (first | exact sub_empty | refine sub_set (by simp) ?_)
   ·simp [grownS_pos, e1]
   ·simp only [grownS_pos (show i + 1 ≠ 0 by omega)]
    intro p hp r hr y hy
    simp at hp; subst hp
    exact hw _ r hr y hy _
 ·have hil : i = l.length := by omega
  subst hil
  simp [h1]
  rw [toD_grown (k := 11) (st := .own) (es := 3) (l := l.map Tr.cells) (fun h => by simp [grownS_pos h, E.look, List.take_of_length_le]) (by simp) (by simp) (by simp) (fun r hr => by obtain ⟨x, _, rfl⟩ := List.mem_map.1 hr; exact toD_cells _ _ _)]
theorem own_ValueK : ∀ {v : Tr}, v.Ok → manyT v ≤ 1000 → CallD Tryz.prog F.own_Value [.agg v.cells] (· = .agg v.cells) := by
 intro v
 induction v using Tr.ind with
 | h k n l ih =>
   intro hv hm
   rw [manyT_mk] at hm
   obtain ⟨m1, m2⟩ := many_fewK (l := l) (n := 1) (by omega) (by omega)
   cases hv with
   | mk hk hn hl hc =>
     refine callD_by F.own_Value_ok ?_
     unfold F.own_Value_c
     simp [setOb, List.filter_cons, cells_mk]
     refine callK_of (own_ValuesK (by omega) fun t ht => ih t ht (hc t ht) (m2 t ht)) (by simp) ?_
     simp [setOb, List.filter_cons]
theorem own_Runs {l : List Rn} (hl : l.length ≤ 1000) (hv : ∀ t ∈ l, CallD Tryz.prog F.own_Run [.agg (rnC t)] (· = .agg (rnC t))) : CallD Tryz.prog F.own_Runs [rl l] (· = rl l) := by
 refine callD_by F.own_Runs_ok ?_
 unfold F.own_Runs_c
 simp [setOb, List.filter_cons]
 refine wm_loop (fun g : Nat × Nat => ((((Sl.empty.set 8 (.int .i64 g.2)).set 7 (.int .i64 l.length)).set 6 (rl l)).set 3 (grown g.1 g.2), grownS g.1 9 g.2 ((l.map rnC).take g.2)))
  (fun g => g.2 ≤ l.length) (fun g => l.length - g.2) (0, 0) (by simp) ?_ ?_
 ·refine weak_obs ?_ (by simp [grown_zero, grownS_zero]) (by repeat (first | exact sin_empty | refine sin_set (by simp [grown_zero]) ?_)) (by simp [grown_zero, grownS_zero])
  simp only [grown_zero]
  repeat (first | exact sub_empty | refine sub_set (by simp) ?_)
 rintro ⟨o, i⟩ hi
 dsimp only at hi
 have hw : ∀ n, ∀ r ∈ List.take n (l.map rnC), ∀ y ∈ r, ∀ p : Nat → Bool, y.within p = true := fun n r hr y hy p => by
  obtain ⟨x, _, rfl⟩ := List.mem_map.1 (List.mem_of_mem_take hr)
  exact rnC_within _ _ y hy
 by_cases h1 : i < l.length
 ·have e1 : List.take (i + 1) (l.map rnC) = List.take i (l.map rnC) ++ [rnC l[i]] := by
   rw [List.take_succ_eq_append_getElem (by simpa using h1)]; simp
  have hih := hv l[i] (List.getElem_mem h1)
  by_cases hi0 : i = 0
  ·subst hi0
   simp at e1
   simp [h1, grown_zero, grownS_zero, setOb, List.filter_cons]
   refine callK_of hih (by simp [rnC_toD]) ?_
   simp (disch := omega) [setOb, List.filter_cons, Nat.max_eq_right, Nat.max_eq_left, if_neg, if_pos]
   rw [wrap64 (by omega) (by omega)]
   refine ⟨(2, 1), h1, by dsimp only; omega, ?_⟩
   refine weak_obs ?_ ?_ (by simp only [grown_pos (show 1 ≠ 0 by omega)]; repeat (first | exact sin_empty | refine sin_set (by simp [grownS_pos]) ?_)) ?_
   ·simp only [grown_pos (show 1 ≠ 0 by omega)]
    repeat (first | exact sub_empty | refine sub_set (by simp) ?_)
   ·simp [grownS_pos, e1]
   ·simp only [grownS_pos (show 1 ≠ 0 by omega)]
    intro p hp r hr y hy
    simp at hp; subst hp
    exact hw _ r hr y hy _
  ·simp (disch := omega) [h1, grown_pos hi0, grownS_pos hi0, setOb, List.filter_cons, Nat.max_eq_right, Nat.max_eq_left, if_neg, if_pos]
   refine callK_of hih (by simp [rnC_toD]) ?_
   simp (disch := omega) [setOb, List.filter_cons, Nat.max_eq_right, Nat.max_eq_left, if_neg, if_pos]
   rw [wrap64 (by omega) (by omega)]
   refine ⟨(o + 3, i + 1), h1, by dsimp only; omega, ?_⟩
   refine weak_obs ?_ ?_ (by simp only [grown_pos (show i + 1 ≠ 0 by omega)]; repeat (first | exact sin_empty | refine sin_set (by simp [grownS_pos]) ?_)) ?_
   ·simp only [grown_pos (show i + 1 ≠ 0 by omega)]
    repeat (first | exact sub_empty | refine sub_set (by simp) ?_)
   ·simp [grownS_pos, e1]
   ·simp only [grownS_pos (show i + 1 ≠ 0 by omega)]
    intro p hp r hr y hy
    simp at hp; subst hp
    exact hw _ r hr y hy _
 ·have hil : i = l.length := by omega
  subst hil
  simp [h1]
  rw [toD_grown (k := 11) (st := .own) (es := 9) (l := l.map rnC) (fun h => by simp [grownS_pos h, E.look, List.take_of_length_le]) (by simp) (by simp) (by simp) (fun r hr => by obtain ⟨x, _, rfl⟩ := List.mem_map.1 hr; exact rnC_toD _ _ _)]
@[simp] theorem dwC_length (d : Dw) : (dwC d).length = 4 := rfl
theorem dwC_toD (σ : Sto) (n : Nat) (d : Dw) : mapO (toD σ (n + 1)) (dwC d) = some (dwC d) := (rfl)
theorem clone_Drawn {l : List Dw} (hl : l.length ≤ 1000) : CallD Tryz.prog F.slices_Clone_Drawn_Drawn [.dat (l.map dwC)] (· = .dat (l.map dwC)) := by
 cases l with
 | nil =>
   refine CallD.empty1 ?_ ?_ <;> refine callD_by F.slices_Clone_Drawn_Drawn_ok ?_ <;> unfold F.slices_Clone_Drawn_Drawn_c <;> simp
   rfl
 | cons d l =>
   refine callD_by F.slices_Clone_Drawn_Drawn_ok ?_
   unfold F.slices_Clone_Drawn_Drawn_c
   have hall : ((dwC d :: l.map dwC).all fun r => r.length == 4) = true := by simp
   simp at hl
   simp [hall]
   repeat simp (disch := omega) [if_pos, setOb, List.filter_cons]
   rw [E.toD_ref (k := 11) (st := .own) (es := 4) (l := dwC d :: l.map dwC) (by simp [E.look]) (by simp) (by simp) (by simp) (by simp) (fun r hr => by
    rcases List.mem_cons.1 hr with rfl | hr
    ·exact dwC_toD _ _ _
    ·obtain ⟨x, _, rfl⟩ := List.mem_map.1 hr; exact dwC_toD _ _ _)]
theorem own_RatioW {x : Raw} {k : Nat} (hx : x.Ok k) (hk : k ≤ 2 ^ 33) : CallD Tryz.prog F.own_Ratio [x.v] (· = x.v) := by
 refine callD_by F.own_Ratio_ok ?_
 unfold F.own_Ratio_c
 have h1 := hx.ln
 have h2 := hx.ld
 simp [setOb, List.filter_cons, raw_v, Raw.c]
 refine callFK_of (slices_Clone (l := x.num) (by omega)) (by simp) ?_
 simp
 refine callFK_of (slices_Clone (l := x.den) (by omega)) (by simp) ?_
 simp [setOb, List.filter_cons]
theorem own_Run {r : Rn} (ho : r.Ok) : CallD Tryz.prog F.own_Run [.agg (rnC r)] (· = .agg (rnC r)) := by
 have hv := own_ValueK ho.v (by have := ho.m; omega)
 have hw := own_RatioW ho.w (by omega)
 rw [← rnC_v] at hv
 rw [raw_v, ← rnC_w] at hw
 have hl := ho.l
 refine callD_by F.own_Run_ok ?_
 unfold F.own_Run_c
 simp [setOb, List.filter_cons, rnC]
 refine callFK_of hv (by simp) ?_
 simp
 refine callFK_of (clone_Drawn (l := r.ds) (by omega)) (by simp) ?_
 simp
 refine callFK_of hw (by simp) ?_
 simp [setOb, List.filter_cons, splice]
theorem accR_take {l : List Rn} {i : Nat} (h : i < l.length) : accR (l.take (i + 1)) = if l[i].k = 0 ∧ 0 < l[i].w.q then accR (l.take i) ++ [l[i]] else accR (l.take i) := by
 unfold accR
 rw [List.take_succ_eq_append_getElem h, List.filter_append]
 by_cases c : l[i].k = 0 ∧ 0 < l[i].w.q
 ·rw [if_pos c]; simp [c.1, c.2]
 ·rw [if_neg c]
  have : (decide (l[i].k = 0) && decide (0 < l[i].w.q)) = false := by
   cases h : (decide (l[i].k = 0) && decide (0 < l[i].w.q)) with
   | false => rfl
   | true => simp at h; exact (c h).elim
  simp [this]
theorem accR_len (l : List Rn) : (accR l).length ≤ l.length := List.length_filter_le _ _
theorem accR_mem {l : List Rn} {r : Rn} (h : r ∈ accR l) : r ∈ l ∧ r.k = 0 ∧ 0 < r.w.q := by
 unfold accR at h
 rw [List.mem_filter] at h
 simpa using h
end Go.Proofs.YtkockkfmjmheeaaGreat
