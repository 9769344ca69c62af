/- Joined texts: CMs9, CMs10. -/
import Derived.Test.YtmjgehbpcchjpaaGreatDoorHN
import Derived.Test.YtmjgehbpcchjpaaGreatDoorGL
/- Functions of the program, as the engine reads them; each is held against the translation. -/
namespace Go.Proofs.YtmjgehbpcchjpaaGreatDoor.F
open Go Go.Proofs Go.Proofs.YtmjgehbpcchjpaaGreatDoor.E Go.Proofs.YtmjgehbpcchjpaaGreatDoor.Q
abbrev ref04_None : Nat := 49
def ref04_None_c : MFn :=
  ⟨10,(.seq (r [o 0 (.alloc [.nils,.bool false,.nils,.nils,.bool false,.nils,.nils,.bool false,.nils,.nils,.bool false,.nils,.nils,.bool false,.nils,.nils])] [0]) (.seq (r [o 2 (.call 113 []),
  o 1 (.alloc [.bool false,.nils,.nils]),z (.st 3 (.t 1) (.t 2))] [0,1]) (.seq (r [o 3 (.ld (some 3) (.t 1)),o 4 (.callF 113 []),o 5 (.callF 113 []),o 6 (.callF 113 []),o 7 (.callF 113 []),
  o 8 (.build [.bool false,.nils,.nils,.bool false,.nils,.nils,.bool false,.nils,.nils] [(0,3,(.t 5)),(3,3,(.t 6)),(6,3,(.t 7))]),o 9 (.build [.nils,.bool false,.nils,.nils,.bool false,.nils,.nils,
  .bool false,.nils,.nils,.bool false,.nils,.nils,.bool false,.nils,.nils] [(1,3,(.t 3)),(4,3,(.t 4)),(7,9,(.t 8))]),z (.st 16 (.t 0) (.t 9))] [0]) .ret))),[.cell 0 (some 16)]⟩
theorem ref04_None_ok : cFn Tryz.prog (kps [[0],[0,1],[0]]) [] 49 = some ref04_None_c := by kernel_rfl
abbrev ref04_copied : Nat := 159
def ref04_copied_c : MFn :=
  ⟨29,(.seq (r [o 1 (.box (.t 0)),o 2 (.alloc [.int .i64 0,.int .i64 0,.nils])] [1,2]) (.seq (r [o 5 (.fA 0 (.t 1)),o 6 (.ld none (.t 5)),o 7 (.fA 1 (.t 1)),o 8 (.ld none (.t 7)),
  o 9 (.build [.int .i64 0,.int .i64 0,.nils] [(0,1,(.t 6)),(1,1,(.t 8))]),o 3 (.alloc [.int .i64 0,.int .i64 0,.nils]),z (.st 3 (.t 3) (.t 9))] [1,2,3]) (.seq (.seq (r [o 4 (.mv (i 0))] [1,2,3,4])
  (.block 0 (.loop (.seq (.seq (r [o 10 (.mv (.t 4)),o 11 (.fA 2 (.t 1)),o 12 (.ld none (.t 11)),o 13 (.lenS (.t 12)),o 14 (.bin .lss (.t 10) (.t 13))] [1,2,3,4,14]) (.cond (.t 14) .skip (.exit 0)))
  (.seq (.block 1 (r [o 17 (.fA 2 (.t 3)),o 18 (.ld none (.t 17)),o 19 (.fA 2 (.t 1)),o 20 (.ld none (.t 19)),o 21 (.mv (.t 4)),o 22 (.ixA 3 (.t 20) (.t 21)),o 23 (.ld (some 3) (.t 22)),
  o 24 (.callF 159 [(.t 23)]),o 25 (.buildSl 3 1 [.int .i64 0,.int .i64 0,.nils] [(0,(.t 24))]),o 26 (.app 3 40 (.t 18) (.t 25)),o 27 (.fA 2 (.t 3)),z (.st 1 (.t 27) (.t 26))] [1,2,3,4]))
  (r [o 15 (.mv (.t 4)),o 16 (.bin .add (.t 15) (i 1)),o 4 (.mv (.t 16))] [1,2,3,4])))))) (.seq (r [o 28 (.ld (some 3) (.t 3)),z (.st 3 (.t 2) (.t 28))] [2]) .ret)))),[.cell 2 (some 3)]⟩
theorem ref04_copied_ok : cFn Tryz.prog (kps [[1,2],[1,2,3],[1,2,3,4],[1,2,3,4,14],[1,2,3,4],[1,2,3,4],[2]]) [] 159 = some ref04_copied_c := by kernel_rfl
abbrev ref04_put : Nat := 116
def ref04_put_c : MFn :=
  ⟨71,(.seq (r [o 4 (.box (.t 1)),o 5 (.box (.t 2)),o 6 (.mv (.c .nils))] [0,4,5]) (.seq (r [o 7 (.mv (.c .nils))] [0,4,5,7]) (.seq (r [o 8 (.mv (.c (.bool false)))] [0,4,5,7,8])
  (.seq (.seq (r [o 9 (.mv (i 0))] [0,4,5,7,8,9]) (.block 0 (.loop (.seq (.seq (r [o 12 (.mv (.t 9)),o 13 (.mv (.t 0)),o 14 (.lenS (.t 13)),o 15 (.bin .lss (.t 12) (.t 14))] [0,4,5,7,8,9,15])
  (.cond (.t 15) .skip (.exit 0))) (.seq (.block 1 (.seq (r [o 18 (.ld (some 3) (.t 4)),o 19 (.mv (.t 0)),o 20 (.mv (.t 9)),o 21 (.ixA 6 (.t 19) (.t 20)),o 22 (.fA 0 (.t 21)),o 23 (.ld (some 3)
  (.t 22)),o 24 (.callF 101 [(.t 18),(.t 23)]),o 10 (.mv (.t 24))] [0,4,5,7,8,9,10]) (.seq (.seq (r [o 25 (.mv (.t 8)),o 26 (.un .not (.t 25)),o 27 (.mv (.t 26)),y 28 27 (.mv (.t 10)),
  y 29 27 (.bin .lss (.t 28) (i 0)),o 30 (.pick (.t 27) (.t 29) (.c (.bool false)))] [0,4,5,7,8,9,10,30]) (.cond (.t 30) (.seq (r [o 31 (.mv (.t 7)),o 32 (.ld (some 3) (.t 4)),
  o 33 (.callF 159 [(.t 32)]),o 34 (.ld (some 3) (.t 5)),o 35 (.callF 113 []),o 36 (.callF 81 [(.t 34),(.t 35)]),o 37 (.build [.int .i64 0,.int .i64 0,.nils,.bool false,.nils,.nils] [(0,3,(.t 33)),(3,
  3,(.t 36))]),o 38 (.buildSl 6 1 [.int .i64 0,.int .i64 0,.nils,.bool false,.nils,.nils] [(0,(.t 37))]),o 39 (.app 6 96 (.t 31) (.t 38)),o 7 (.mv (.t 39))] [0,4,5,7,9,10])
  (r [o 8 (.mv (.c (.bool true)))] [0,4,5,7,8,9,10])) .skip)) (.seq (r [o 40 (.mv (.t 0)),o 41 (.mv (.t 9)),o 42 (.ixA 6 (.t 40) (.t 41)),o 43 (.ld (some 6) (.t 42)),o 11 (.alloc [.int .i64 0,
  .int .i64 0,.nils,.bool false,.nils,.nils]),z (.st 6 (.t 11) (.t 43))] [0,4,5,7,8,9,10,11]) (.seq (.seq (r [o 44 (.mv (.t 8)),o 45 (.un .not (.t 44)),o 46 (.mv (.t 45)),y 47 46 (.mv (.t 10)),
  y 48 46 (.bin .eql (.t 47) (i 0)),o 49 (.pick (.t 46) (.t 48) (.c (.bool false)))] [0,4,5,7,8,9,11,49]) (.cond (.t 49) (.seq (r [o 50 (.fA 3 (.t 11)),o 51 (.ld (some 3) (.t 50)),o 52 (.ld (some 3)
  (.t 5)),o 53 (.call 81 [(.t 51),(.t 52)]),o 54 (.fA 3 (.t 11)),z (.st 3 (.t 54) (.t 53))] [0,4,5,7,9,11]) (r [o 8 (.mv (.c (.bool true)))] [0,4,5,7,8,9,11])) .skip)) (r [o 55 (.mv (.t 7)),
  o 56 (.ld (some 6) (.t 11)),o 57 (.buildSl 6 1 [.int .i64 0,.int .i64 0,.nils,.bool false,.nils,.nils] [(0,(.t 56))]),o 58 (.app 6 96 (.t 55) (.t 57)),o 7 (.mv (.t 58))] [0,4,5,7,8,9]))))))
  (r [o 16 (.mv (.t 9)),o 17 (.bin .add (.t 16) (i 1)),o 9 (.mv (.t 17))] [0,4,5,7,8,9])))))) (.seq (.seq (r [o 59 (.mv (.t 8)),o 60 (.un .not (.t 59))] [4,5,7,60]) (.cond (.t 60)
  (r [o 61 (.mv (.t 7)),o 62 (.ld (some 3) (.t 4)),o 63 (.callF 159 [(.t 62)]),o 64 (.ld (some 3) (.t 5)),o 65 (.callF 113 []),o 66 (.callF 81 [(.t 64),(.t 65)]),o 67 (.build [.int .i64 0,.int .i64 0,
  .nils,.bool false,.nils,.nils] [(0,3,(.t 63)),(3,3,(.t 66))]),o 68 (.buildSl 6 1 [.int .i64 0,.int .i64 0,.nils,.bool false,.nils,.nils] [(0,(.t 67))]),o 69 (.app 6 96 (.t 61) (.t 68)),
  o 7 (.mv (.t 69))] [7]) .skip)) (.seq (r [o 70 (.mv (.t 7)),o 6 (.mv (.t 70))] [6]) .ret)))))),[.t 6]⟩
theorem ref04_put_ok : cFn Tryz.prog (kps [[0,4,5],[0,4,5,7],[0,4,5,7,8],[0,4,5,7,8,9],[0,4,5,7,8,9,15],[0,4,5,7,8,9],[0,4,5,7,8,9,10],[0,4,5,7,8,9,10,30],[0,4,5,7,9,10],[0,4,5,7,8,9,10],[0,4,5,7,8,9,10,11],[0,4,5,7,8,9,11,49],[0,4,5,7,9,11],[0,4,5,7,8,9,11],[0,4,5,7,8,9],[4,5,7,60],[7],[6]]) [] 116 = some ref04_put_c := by kernel_rfl
abbrev ref04_whole : Nat := 115
def ref04_whole_c : MFn :=
  ⟨26,(.seq (r [o 2 (.mv (.c .nils))] [0]) (.seq (r [o 3 (.mv (.c .nils))] [0,3]) (.seq (.seq (r [o 4 (.mv (i 0))] [0,3,4]) (.block 0 (.loop (.seq (.seq (r [o 5 (.mv (.t 4)),o 6 (.mv (.t 0)),
  o 7 (.lenS (.t 6)),o 8 (.bin .lss (.t 5) (.t 7))] [0,3,4,8]) (.cond (.t 8) .skip (.exit 0))) (.seq (.block 1 (.seq (r [o 11 (.mv (.t 0)),o 12 (.mv (.t 4)),o 13 (.ixA 6 (.t 11) (.t 12)),
  o 14 (.fA 3 (.t 13)),o 15 (.ld (some 3) (.t 14)),o 16 (.call 88 [(.t 15)]),o 17 (.bin .neq (.t 16) (i 0))] [0,3,4,17]) (.cond (.t 17) (r [o 18 (.mv (.t 3)),o 19 (.mv (.t 0)),o 20 (.mv (.t 4)),
  o 21 (.ixA 6 (.t 19) (.t 20)),o 22 (.ld (some 6) (.t 21)),o 23 (.buildSl 6 1 [.int .i64 0,.int .i64 0,.nils,.bool false,.nils,.nils] [(0,(.t 22))]),o 24 (.app 6 96 (.t 18) (.t 23)),
  o 3 (.mv (.t 24))] [0,3,4]) .skip))) (r [o 9 (.mv (.t 4)),o 10 (.bin .add (.t 9) (i 1)),o 4 (.mv (.t 10))] [0,3,4])))))) (.seq (r [o 25 (.mv (.t 3)),o 2 (.mv (.t 25))] [2]) .ret)))),[.t 2]⟩
theorem ref04_whole_ok : cFn Tryz.prog (kps [[0],[0,3],[0,3,4],[0,3,4,8],[0,3,4],[0,3,4,17],[0,3,4],[2]]) [] 115 = some ref04_whole_c := by kernel_rfl
abbrev ref04_Of : Nat := 51
def ref04_Of_c : MFn :=
  ⟨53,(.seq (r [o 2 (.box (.t 0)),o 3 (.box (.t 1)),o 4 (.alloc [.nils,.bool false,.nils,.nils,.bool false,.nils,.nils,.bool false,.nils,.nils,.bool false,.nils,.nils,.bool false,.nils,.nils])] [2,3,
  4]) (.seq (r [o 6 (.call 49 []),o 5 (.alloc [.nils,.bool false,.nils,.nils,.bool false,.nils,.nils,.bool false,.nils,.nils,.bool false,.nils,.nils,.bool false,.nils,.nils]),z (.st 16 (.t 5)
  (.t 6))] [2,3,4,5]) (.seq (r [o 7 (.ld (some 3) (.t 3)),o 8 (.callF 113 []),o 9 (.callF 81 [(.t 7),(.t 8)]),z (.st 3 (.t 3) (.t 9))] [2,3,4,5]) (.seq (.block 0 (.seq (r [o 11 (.fA 0 (.t 2)),
  o 12 (.ld none (.t 11)),o 13 (.bin .eql (.t 12) (i 0)),o 10 (.mv (.t 13))] [2,3,4,5,10]) (.cond (.t 10) (r [o 14 (.fA 2 (.t 2)),o 15 (.ld (some 3) (.t 14)),o 16 (.ld (some 3) (.t 3)),
  o 17 (.call 116 [(.c .nils),(.t 15),(.t 16)]),o 18 (.call 115 [(.t 17)]),o 19 (.fA 0 (.t 5)),z (.st 1 (.t 19) (.t 18))] [4,5]) (.seq (r [o 21 (.fA 0 (.t 2)),o 22 (.ld none (.t 21)),
  o 23 (.bin .eql (.t 22) (i 1)),o 20 (.mv (.t 23))] [2,3,4,5,20]) (.cond (.t 20) (r [o 24 (.ld (some 3) (.t 3)),o 25 (.fA 1 (.t 5)),z (.st 3 (.t 25) (.t 24))] [4,5]) (.seq (r [o 27 (.fA 0 (.t 2)),
  o 28 (.ld none (.t 27)),o 29 (.bin .eql (.t 28) (i 2)),o 26 (.mv (.t 29))] [2,3,4,5,26]) (.cond (.t 26) (r [o 30 (.ld (some 3) (.t 3)),o 31 (.fA 4 (.t 5)),z (.st 3 (.t 31) (.t 30))] [4,5])
  (.seq (r [o 33 (.fA 0 (.t 2)),o 34 (.ld none (.t 33)),o 35 (.bin .eql (.t 34) (i 3)),o 36 (.mv (.t 35)),y 37 36 (.fA 1 (.t 2)),y 38 36 (.ld none (.t 37)),y 39 36 (.bin .geq (.t 38) (i 1)),
  o 40 (.pick (.t 36) (.t 39) (.c (.bool false))),o 41 (.mv (.t 40)),y 42 41 (.fA 1 (.t 2)),y 43 41 (.ld none (.t 42)),y 44 41 (.bin .leq (.t 43) (i 3)),o 45 (.pick (.t 41) (.t 44)
  (.c (.bool false))),o 32 (.mv (.t 45))] [2,3,4,5,32]) (.cond (.t 32) (r [o 46 (.fA 1 (.t 2)),o 47 (.ld none (.t 46)),o 48 (.bin .sub (.t 47) (i 1)),o 49 (.ld (some 3) (.t 3)),o 50 (.fA 7 (.t 5)),
  o 51 (.ixArr 3 3 (.t 50) (.t 48)),z (.st 3 (.t 51) (.t 49))] [4,5]) .skip))))))))) (.seq (r [o 52 (.ld (some 16) (.t 5)),z (.st 16 (.t 4) (.t 52))] [4]) .ret))))),[.cell 4 (some 16)]⟩
theorem ref04_Of_ok : cFn Tryz.prog (kps [[2,3,4],[2,3,4,5],[2,3,4,5],[2,3,4,5,10],[4,5],[2,3,4,5,20],[4,5],[2,3,4,5,26],[4,5],[2,3,4,5,32],[4,5],[4]]) [] 51 = some ref04_Of_c := by kernel_rfl
end Go.Proofs.YtmjgehbpcchjpaaGreatDoor.F

namespace Go.Proofs.YtmjgehbpcchjpaaGreatDoor
open Go Go.Proofs Go.Proofs.YtmjgehbpcchjpaaGreatDoor.E
set_option linter.unusedSimpArgs false
set_option linter.unusedVariables false
theorem ref04_None : CallD Tryz.prog F.ref04_None [] (· = msN.v) := by
  refine callD_by F.ref04_None_ok ?_
  unfold F.ref04_None_c
  simp [setOb, List.filter_cons]
  refine callK_of ref02_Zero (by simp) ?_
  simp [setOb, List.filter_cons, ratV, Raw.v]
  refine callFK_of ref02_Zero (by simp) ?_
  simp [setOb, List.filter_cons, ratV, Raw.v]
  refine callFK_of ref02_Zero (by simp) ?_
  simp [setOb, List.filter_cons, ratV, Raw.v]
  refine callFK_of ref02_Zero (by simp) ?_
  simp [setOb, List.filter_cons, ratV, Raw.v]
  refine callFK_of ref02_Zero (by simp) ?_
  simp [setOb, List.filter_cons, ratV, Raw.v, msN, msC, tailC]
theorem ref04_copied : ∀ {v : Tr}, v.Ok → cntT v ≤ 1000000 → CallD Tryz.prog F.ref04_copied [.agg v.cells] (· = .agg v.cells) := by
  intro v
  induction v using Tr.ind with
  | h k n l ih =>
    intro hv hm
    rw [cntT_mk] at hm
    have m1 := cntL_len l
    cases hv with
    | mk hk hn hl hc =>
      refine callD_by F.ref04_copied_ok ?_
      unfold F.ref04_copied_c
      simp [setOb, List.filter_cons, cells_mk]
      refine wm_loop (fun g : Nat × Nat => ((((Sl.empty.set 4 (.int .i64 g.2)).set 3 (.ptr 2 0 0)).set 2 (.ptr 1 0 0)).set 1 (.ptr 0 0 0), [(0, ⟨.own, 3, [[.int .i64 k, .int .i64 n, tl l]]⟩), (1, ⟨.own, 3, [[.int .i64 0, .int .i64 0, .nils]]⟩), (2, ⟨.own, 3, [[.int .i64 k, .int .i64 n, grown g.1 g.2]]⟩)] ++ grownS g.1 3 g.2 ((l.map Tr.cells).take g.2)))
        (fun g => g.2 ≤ l.length ∧ 2 < g.1) (fun g => l.length - g.2) (3, 0) (by simp) ?_ ?_
      · refine weak_obs ?_ (by simp [grown_zero, grownS_zero]) (by repeat (first | exact sin_empty | refine sin_set (by simp [grown_zero]) ?_)) (by simp [grown_zero, grownS_zero])
        repeat (first | exact sub_empty | refine sub_set (by simp) ?_)
      rintro ⟨o, i⟩ ⟨hi, o2⟩
      dsimp only at hi o2
      have o0' : ¬ o = 0 := by omega
      have o1' : ¬ o = 1 := by omega
      have o2' : ¬ o = 2 := by omega
      have p0' : ¬ 0 = o := by omega
      have p1' : ¬ 1 = o := by omega
      have p2' : ¬ 2 = o := by omega
      have hw : ∀ n, ∀ r ∈ List.take n (l.map Tr.cells), ∀ y ∈ r, ∀ p : Nat → Bool, y.within p = true := fun n r hr y hy p => by
        obtain ⟨x, _, rfl⟩ := List.mem_map.1 (List.mem_of_mem_take hr)
        exact cells_within _ y hy
      by_cases h1 : i < l.length
      · have e1 : List.take (i + 1) (l.map Tr.cells) = List.take i (l.map Tr.cells) ++ [l[i].cells] := by
          rw [List.take_succ_eq_append_getElem (by simpa using h1)]; simp
        have hmem := List.getElem_mem h1
        have hih := ih l[i] hmem (hc _ hmem) (by have := cntT_le hmem; omega)
        by_cases hi0 : i = 0
        · subst hi0
          simp at e1
          simp [h1, grown_zero, grownS_zero, setOb, List.filter_cons]
          refine callFK_of hih (by simp [toD_cells]) ?_
          simp (disch := omega) [setOb, List.filter_cons, Nat.max_eq_right, Nat.max_eq_left, if_neg, if_pos]
          rw [wrap64 (by omega) (by omega)]
          refine ⟨(4, 1), ⟨h1, by dsimp only; omega⟩, by dsimp only; omega, ?_⟩
          refine weak_obs ?_ ?_ (by repeat (first | exact sin_empty | refine sin_set (by simp [grownS_pos]) ?_)) ?_
          · repeat (first | exact sub_empty | refine sub_set (by simp) ?_)
          · simp (disch := omega) [grownS_pos, grown_pos, e1, if_neg]
          · simp only [grownS_pos (show 1 ≠ 0 by omega), grown_pos (show 1 ≠ 0 by omega)]
            intro p hp r hr y hy
            simp at hp
            rcases hp with rfl | rfl | rfl | rfl
            · simp at hr; subst hr; simp at hy; rcases hy with rfl | rfl | rfl <;> simp [V.within]
            · simp at hr; subst hr; simp at hy; rcases hy with rfl | rfl | rfl <;> simp [V.within]
            · simp at hr; subst hr; simp at hy; rcases hy with rfl | rfl | rfl <;> simp [V.within]
            · exact hw _ r hr y hy _
        · simp (disch := omega) [h1, grown_pos hi0, grownS_pos hi0, o0', o1', o2', p0', p1', p2', setOb, List.filter_cons, Nat.max_eq_right, Nat.max_eq_left, if_neg, if_pos]
          refine callFK_of hih (by simp [toD_cells]) ?_
          simp (disch := omega) [o0', o1', o2', p0', p1', p2', setOb, List.filter_cons, Nat.max_eq_right, Nat.max_eq_left, if_neg, if_pos]
          rw [wrap64 (by omega) (by omega)]
          refine ⟨(o + 2, i + 1), ⟨h1, by dsimp only; omega⟩, by dsimp only; omega, ?_⟩
          refine weak_obs ?_ ?_ (by repeat (first | exact sin_empty | refine sin_set (by simp [grownS_pos]) ?_)) ?_
          · repeat (first | exact sub_empty | refine sub_set (by simp) ?_)
          · simp (disch := omega) [grownS_pos, grown_pos, e1, o0', o1', o2', if_neg]
          · simp only [grownS_pos (show i + 1 ≠ 0 by omega), grown_pos (show i + 1 ≠ 0 by omega)]
            intro p hp r hr y hy
            simp at hp
            rcases hp with rfl | rfl | rfl | rfl
            · simp at hr; subst hr; simp at hy; rcases hy with rfl | rfl | rfl <;> simp [V.within]
            · simp at hr; subst hr; simp at hy; rcases hy with rfl | rfl | rfl <;> simp [V.within]
            · simp at hr; subst hr; simp at hy; rcases hy with rfl | rfl | rfl <;> simp [V.within]
            · exact hw _ r hr y hy _
      · have hil : i = l.length := by omega
        subst hil
        simp [h1]
        rw [toD_grown (k := 10) (st := .own) (es := 3) (l := l.map Tr.cells) (fun h => by simp [grownS_pos h, look_setOb, E.look, o0', o1', o2', p0', p1', p2', List.take_of_length_le]) (by simp) (by simp) (by simp) (fun r hr => by obtain ⟨x, _, rfl⟩ := List.mem_map.1 hr; exact toD_cells _ _ _)]
theorem radd0 {K : Nat} (hK31 : K ≤ 2 ^ 31) {x : Raw} (hx : x.Ok K) : CallD Tryz.prog F.ref02_Add [x.v, (rawOf 0).v] (· = ratV x.q) := by
  have := ref02_Add (rok hx hK31) (rawOf_ok (fits_zero.mono (show 1 ≤ 2 ^ 31 by omega)))
  rwa [rawOf_q, Rat.add_zero] at this
theorem ref04_put_nil {v : Tr} {w : Raw} {K : Nat} (hK31 : K ≤ 2 ^ 31) (hv : v.Ok) (hm : cntT v ≤ 1000000) (hw : w.Ok K) : CallD Tryz.prog F.ref04_put [.dat [], .agg v.cells, w.v] (· = pl [⟨v, rawOf w.q⟩]) := by
  refine callD_by F.ref04_put_ok ?_
  unfold F.ref04_put_c
  simp [setOb, List.filter_cons, raw_v]
  refine wm_loop (fun g : Nat => ((((((Sl.empty.set 9 (.int .i64 0)).set 8 (.bool false)).set 7 .nils).set 5 (.ptr 1 0 0)).set 4 (.ptr 0 0 0)).set 0 (.dat []), [(0, ⟨.own, 3, [v.cells]⟩), (1, ⟨.own, 3, [w.c]⟩)]))
    (fun _ => True) (fun g => g) 0 trivial ?_ ?_
  · refine weak_obs ?_ (by simp) (by repeat (first | exact sin_empty | refine sin_set (by simp) ?_)) (by simp; exact ⟨fun y hy => cells_within _ y hy, fun y hy => rawc_within _ y hy⟩)
    repeat (first | exact sub_empty | refine sub_set (by simp) ?_)
  rintro g -
  simp [setOb, List.filter_cons]
  refine callFK_of (ref04_copied hv hm) (by simp [toD_cells]) ?_
  simp
  refine callFK_of ref02_Zero (by simp) ?_
  simp [ratV, raw_v]
  refine callFK_of (radd0 hK31 hw) (by simp [toD_rawc, raw_v]) ?_
  have ed : List.drop 6 (v.cells ++ [V.bool false, .nils, .nils]) = [] := List.drop_eq_nil_of_le (by simp)
  have ep : v.cells ++ (rawOf w.q).c = partC ⟨v, rawOf w.q⟩ := rfl
  simp [ratV, raw_v, setOb, List.filter_cons, ed, ep]
  rw [toD_refM (es := 6) (st := .own) (l := [partC ⟨v, rawOf w.q⟩]) (by simp [getOb, E.look, ep]) (by simp) (by simp) (by simp; exact toD_partC _ _ _)]
  rfl
def nzP (l : List Part) : List Part := l.filter fun p => decide (p.w.q ≠ 0)
theorem sgnR_zero_iff {r : Rat} : sgnR r = 0 ↔ r = 0 := by
  unfold sgnR cmpR
  constructor
  · intro h
    by_cases h1 : r < 0
    · rw [if_pos h1] at h; omega
    · rw [if_neg h1] at h
      by_cases h2 : 0 < r
      · rw [if_pos h2] at h; omega
      · grind
  · rintro rfl; simp
theorem ref04_whole {l : List Part} (hl : l.length ≤ 1000000) (ho : ∀ p ∈ l, p.w.Ok (2 ^ 33)) : CallD Tryz.prog F.ref04_whole [pl l] (· = pl (nzP l)) := by
  refine callD_by F.ref04_whole_ok ?_
  unfold F.ref04_whole_c
  simp [setOb, List.filter_cons]
  have gl : ∀ i, (nzP (l.take i)).length ≤ i := fun i => Nat.le_trans (List.length_filter_le _ _) (by rw [List.length_take]; omega)
  refine wm_loop (fun g : Nat × Nat => (((Sl.empty.set 4 (.int .i64 g.2)).set 3 (grown g.1 (nzP (l.take g.2)).length)).set 0 (pl l), grownS g.1 6 (nzP (l.take g.2)).length ((nzP (l.take g.2)).map partC)))
    (fun g => g.2 ≤ l.length) (fun g => l.length - g.2) (0, 0) (by simp) ?_ ?_
  · refine weak_obs ?_ (by simp [nzP, grown_zero, grownS_zero]) (by repeat (first | exact sin_empty | refine sin_set (by simp [nzP, grown_zero]) ?_)) (by simp [nzP, grown_zero, grownS_zero])
    simp only [nzP, List.take_zero, List.filter_nil, List.length_nil, grown_zero]
    repeat (first | exact sub_empty | refine sub_set (by simp) ?_)
  rintro ⟨o, i⟩ hi
  dsimp only at hi
  have hw : ∀ {L : List Part}, ∀ r ∈ L.map partC, ∀ y ∈ r, ∀ p : Nat → Bool, y.within p = true := fun r hr y hy p => by
    obtain ⟨x, _, rfl⟩ := List.mem_map.1 hr
    exact partC_inner x y hy p
  by_cases h1 : i < l.length
  · have okw := ho _ (List.getElem_mem h1)
    have tk : List.take 6 (partC l[i]) = partC l[i] := by simp
    have gi := gl i
    simp [h1, setOb, List.filter_cons]
    refine callK_of (ref02_Sign okw) (by simp [toD_rawc, raw_v]) ?_
    by_cases hz : l[i].w.q = 0
    · have hz' : sgnR l[i].w.q = 0 := sgnR_zero_iff.2 hz
      have eG : nzP (l.take (i + 1)) = nzP (l.take i) := by
        unfold nzP
        rw [List.take_succ_eq_append_getElem h1, List.filter_append]
        simp [hz]
      simp [hz', h1, setOb, List.filter_cons]
      rw [wrap64 (by omega) (by omega)]
      refine ⟨(o, i + 1), h1, by dsimp only; omega, ?_⟩
      dsimp only
      rw [eG]
      by_cases n0 : (nzP (l.take i)).length = 0
      · have e0 : nzP (l.take i) = [] := List.length_eq_zero_iff.1 n0
        rw [e0]
        refine weak_obs ?_ (by simp [grown_zero, grownS_zero]) (by repeat (first | exact sin_empty | refine sin_set (by simp [grown_zero]) ?_)) (by simp [grown_zero, grownS_zero])
        simp only [List.length_nil, grown_zero]
        repeat (first | exact sub_empty | refine sub_set (by simp) ?_)
      · simp only [grown_pos n0, grownS_pos n0]
        refine weak_obs ?_ (by simp) (by repeat (first | exact sin_empty | refine sin_set (by simp) ?_)) ?_
        · repeat (first | exact sub_empty | refine sub_set (by simp) ?_)
        · intro p hp r hr y hy
          simp at hp; subst hp
          exact hw _ hr y hy _
    · have hz' : ¬ sgnR l[i].w.q = 0 := fun h => hz (sgnR_zero_iff.1 h)
      have eG : nzP (l.take (i + 1)) = nzP (l.take i) ++ [l[i]] := by
        unfold nzP
        rw [List.take_succ_eq_append_getElem h1, List.filter_append]
        simp [hz]
      by_cases hi0 : (nzP (l.take i)).length = 0
      · have e0 : nzP (l.take i) = [] := List.length_eq_zero_iff.1 hi0
        rw [e0] at eG ⊢
        simp [hz', h1, tk, grown_zero, grownS_zero, setOb, List.filter_cons]
        rw [wrap64 (by omega) (by omega)]
        refine ⟨(1, i + 1), h1, by dsimp only; omega, ?_⟩
        dsimp only
        rw [eG]
        refine weak_obs ?_ (by simp [grownS_pos]) (by simp only [List.nil_append, List.length_singleton, grown_pos (show 1 ≠ 0 by omega)]; repeat (first | exact sin_empty | refine sin_set (by simp [grownS_pos]) ?_)) ?_
        · simp only [List.nil_append, List.length_singleton, grown_pos (show 1 ≠ 0 by omega)]
          repeat (first | exact sub_empty | refine sub_set (by simp) ?_)
        · simp only [List.nil_append, List.length_singleton, grownS_pos (show 1 ≠ 0 by omega)]
          intro p hp r hr y hy
          simp at hp; subst hp
          exact hw (L := [l[i]]) _ hr y hy _
      · simp (disch := omega) [hz', h1, tk, grown_pos hi0, grownS_pos hi0, setOb, List.filter_cons, Nat.max_eq_right, Nat.max_eq_left, if_neg, if_pos]
        rw [wrap64 (by omega) (by omega)]
        refine ⟨(o + 2, i + 1), h1, by dsimp only; omega, ?_⟩
        dsimp only
        have n1 : (nzP (l.take (i + 1))).length ≠ 0 := by rw [eG]; simp
        have n2 : (nzP (l.take (i + 1))).length = (nzP (l.take i)).length + 1 := by rw [eG]; simp
        have n3 : (nzP (l.take (i + 1))).map partC = (nzP (l.take i)).map partC ++ [partC l[i]] := by rw [eG]; simp
        simp only [grown_pos n1, grownS_pos n1]
        refine weak_obs ?_ (by simp [n3]) (by repeat (first | exact sin_empty | refine sin_set (by simp) ?_)) ?_
        · repeat (first | exact sub_empty | refine sub_set (by simp [n2]) ?_)
        · intro p hp r hr y hy
          simp at hp; subst hp
          exact hw _ hr y hy _
  · have hil : i = l.length := by omega
    subst hil
    have hw2 : l.take l.length = l := List.take_length
    rw [hw2]
    simp [h1]
    rw [toD_grown (k := 11) (st := .own) (es := 6) (l := (nzP l).map partC) (fun h => by simp [grownS_pos h, E.look]) (by simp) (by simp) (by simp) (fun r hr => by obtain ⟨x, _, rfl⟩ := List.mem_map.1 hr; exact toD_partC _ _ _)]
end Go.Proofs.YtmjgehbpcchjpaaGreatDoor

namespace Go.Proofs.YtmjgehbpcchjpaaGreatDoor
open Go Go.Proofs Go.Proofs.YtmjgehbpcchjpaaGreatDoor.E
set_option linter.unusedSimpArgs false
set_option linter.unusedVariables false
theorem normP_one (v : Tr) (w : Raw) : normP [⟨v, w⟩] = nzP [⟨v, rawOf w.q⟩] := by simp [normP, fullP, putP, nzP]
def onR (k n : Int) (v : Tr) (w : Raw) : Ms :=
  if k = 0 then ⟨nzP [⟨v, rawOf w.q⟩], rawOf 0, rawOf 0, rawOf 0, rawOf 0, rawOf 0⟩
  else if k = 1 then ⟨[], rawOf w.q, rawOf 0, rawOf 0, rawOf 0, rawOf 0⟩
  else if k = 2 then ⟨[], rawOf 0, rawOf w.q, rawOf 0, rawOf 0, rawOf 0⟩
  else if k = 3 ∧ n = 1 then ⟨[], rawOf 0, rawOf 0, rawOf w.q, rawOf 0, rawOf 0⟩
  else if k = 3 ∧ n = 2 then ⟨[], rawOf 0, rawOf 0, rawOf 0, rawOf w.q, rawOf 0⟩
  else if k = 3 ∧ n = 3 then ⟨[], rawOf 0, rawOf 0, rawOf 0, rawOf 0, rawOf w.q⟩
  else msN
theorem normP_nil : normP [] = [] := rfl
theorem onR_eq (k n : Int) (v : Tr) (w : Raw) : normM (onM k n v w) = onR k n v w := by
  unfold onM onR
  split
  · simp [normM, normP_one, rawOf_q]
  split
  · simp [normM, normP_nil, rawOf_q]
  split
  · simp [normM, normP_nil, rawOf_q]
  split
  · simp [normM, normP_nil, rawOf_q]
  split
  · simp [normM, normP_nil, rawOf_q]
  split
  · simp [normM, normP_nil, rawOf_q]
  · simp [normM, msN, normP_nil, rawOf_q]
set_option maxHeartbeats 8000000 in
theorem ref04_Of {k n : Int} {v : Tr} {w : Raw} {K : Nat} (hK : 1 ≤ K) (hK31 : K + 10 ≤ 2 ^ 31) (hv : v.Ok) (hm : cntT v ≤ 1000000) (hw : w.Ok K) : CallD Tryz.prog F.ref04_Of [outV k n v, w.v] (· = (normM (onM k n v w)).v) := by
  rw [onR_eq]
  have z := zero_c
  have wr0 : IntKind.i64.wrap 0 = 0 := wrap64 (by omega) (by omega)
  have wr1 : IntKind.i64.wrap 1 = 1 := wrap64 (by omega) (by omega)
  have wr2 : IntKind.i64.wrap 2 = 2 := wrap64 (by omega) (by omega)
  have fw := Raw.fits hw hK
  refine callD_by F.ref04_Of_ok ?_
  unfold F.ref04_Of_c
  simp [setOb, List.filter_cons, outV, Raw.v]
  refine callK_of ref04_None (by simp) ?_
  simp [setOb, List.filter_cons, msN, msC, tailC]
  refine callFK_of ref02_Zero (by simp) ?_
  simp [ratV, Raw.v]
  refine callFK_of (radd0 (by omega) hw) (by simp [Raw.v]) ?_
  simp [ratV, Raw.v, setOb, List.filter_cons]
  by_cases k0 : k = 0
  · subst k0
    simp [setOb, List.filter_cons]
    have key := ref04_put_nil (v := v) (w := rawOf w.q) (K := K) (by omega) hv hm (rawOf_ok fw)
    rw [rawOf_q] at key
    refine callK_of key (by simp [Raw.v, toD_cells]) ?_
    simp
    refine callK_of (ref04_whole (l := [⟨v, rawOf w.q⟩]) (by simp) (by simp; exact rok (rawOf_ok fw) (by omega))) (by simp) ?_
    simp [setOb, List.filter_cons, onR, msC, tailC]
  by_cases k1 : k = 1
  · subst k1
    simp [setOb, List.filter_cons, onR, msC, tailC]
  by_cases k2 : k = 2
  · subst k2
    simp [setOb, List.filter_cons, onR, msC, tailC]
  by_cases k3 : k = 3
  · subst k3
    by_cases n1 : n = 1
    · subst n1
      simp [setOb, List.filter_cons, wr0, onR, msC, tailC]
    by_cases n2 : n = 2
    · subst n2
      simp [setOb, List.filter_cons, wr1, onR, msC, tailC]
    by_cases n3 : n = 3
    · subst n3
      simp [setOb, List.filter_cons, wr2, onR, msC, tailC]
    have hn : ¬ (1 ≤ n ∧ n ≤ 3) := by omega
    by_cases m1 : 1 ≤ n
    · have m3 : ¬ n ≤ 3 := by omega
      simp [m1, m3, n1, n2, n3, setOb, List.filter_cons, onR, msN, msC, tailC]
    · simp [m1, n1, n2, n3, setOb, List.filter_cons, onR, msN, msC, tailC]
  simp [k0, k1, k2, k3, setOb, List.filter_cons, onR, msN, msC, tailC]
end Go.Proofs.YtmjgehbpcchjpaaGreatDoor
