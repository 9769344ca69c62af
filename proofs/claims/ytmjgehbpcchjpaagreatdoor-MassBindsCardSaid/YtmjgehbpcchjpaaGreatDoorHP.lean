import Derived.Test.YtmjgehbpcchjpaaGreatDoorHO
import Derived.Test.YtmjgehbpcchjpaaGreatDoorGC
import Derived.Test.YtmjgehbpcchjpaaGreatDoorProg
import Derived.KernelRfl
namespace Go.Proofs.YtmjgehbpcchjpaaGreatDoor.F
open Go Go.Proofs Go.Proofs.YtmjgehbpcchjpaaGreatDoor.E Go.Proofs.YtmjgehbpcchjpaaGreatDoor.Q
abbrev law03_size : Nat := 85
def law03_size_c : MFn := ⟨31,(.seq (r [o 3 (.box (.t 0)),o 6 (.mv (i 0))] [1,2,3]) (.seq (r [o 8 (.mv (.t 1)),o 9 (.bin .add (.t 8) (i 1)),o 1 (.mv (.t 9))] [1,2,3]) (.seq (.seq (r [o 7 (.mv (i 0))] [1,2,3,7]) (.block 0 (.loop (.seq (.seq (r [o 10 (.mv (.t 7)),o 11 (.fA 2 (.t 3)),o 12 (.ld none (.t 11)),o 13 (.lenS (.t 12)),o 14 (.bin .lss (.t 10) (.t 13)),o 15 (.mv (.t 14)),y 16 15 (.mv (.t 1)),y 17 15 (.mv (.t 2)),y 18 15 (.bin .leq (.t 16) (.t 17)),o 19 (.pick (.t 15) (.t 18) (.c (.bool false)))] [1,2,3,7,19]) (.cond (.t 19) .skip (.exit 0))) (.seq (.block 1 (r [o 22 (.fA 2 (.t 3)),o 23 (.ld none (.t 22)),o 24 (.mv (.t 7)),o 25 (.ixA 3 (.t 23) (.t 24)),o 26 (.ld (some 3) (.t 25)),o 27 (.mv (.t 1)),o 28 (.mv (.t 2)),o 29 (.call 85 [(.t 26),(.t 27),(.t 28)]),o 1 (.mv (.t 29))] [1,2,3,7])) (r [o 20 (.mv (.t 7)),o 21 (.bin .add (.t 20) (i 1)),o 7 (.mv (.t 21))] [1,2,3,7])))))) (.seq (r [o 30 (.mv (.t 1)),o 6 (.mv (.t 30))] [6]) .ret)))),[.t 6]⟩
theorem law03_size_ok : cFn Tryz.prog (kps [[1,2,3],[1,2,3],[1,2,3,7],[1,2,3,7,19],[1,2,3,7],[1,2,3,7],[6]]) [] 85 = some law03_size_c := by kernel_rfl
abbrev law03_Few : Nat := 24
def law03_Few_c : MFn := ⟨23,(.seq (r [o 4 (.mv (.c (.bool false)))] [0,1]) (.seq (r [o 5 (.mv (i 0))] [0,1,5]) (.seq (.seq (r [o 6 (.mv (i 0))] [0,1,5,6]) (.block 0 (.loop (.seq (.seq (r [o 7 (.mv (.t 6)),o 8 (.mv (.t 1)),o 9 (.lenS (.t 8)),o 10 (.bin .lss (.t 7) (.t 9))] [0,1,5,6,10]) (.cond (.t 10) .skip (.exit 0))) (.seq (.block 1 (r [o 13 (.mv (.t 1)),o 14 (.mv (.t 6)),o 15 (.ixA 3 (.t 13) (.t 14)),o 16 (.ld (some 3) (.t 15)),o 17 (.mv (.t 5)),o 18 (.mv (.t 0)),o 19 (.call 85 [(.t 16),(.t 17),(.t 18)]),o 5 (.mv (.t 19))] [0,1,5,6])) (r [o 11 (.mv (.t 6)),o 12 (.bin .add (.t 11) (i 1)),o 6 (.mv (.t 12))] [0,1,5,6])))))) (.seq (r [o 20 (.mv (.t 5)),o 21 (.mv (.t 0)),o 22 (.bin .leq (.t 20) (.t 21)),o 4 (.mv (.t 22))] [4]) .ret)))),[.t 4]⟩
theorem law03_Few_ok : cFn Tryz.prog (kps [[0,1],[0,1,5],[0,1,5,6],[0,1,5,6,10],[0,1,5,6],[0,1,5,6],[4]]) [] 24 = some law03_Few_c := by kernel_rfl
abbrev law04_short : Nat := 15
def law04_short_c : MFn := ⟨26,(.seq (r [o 2 (.mv (.c (.bool false)))] [0]) (.seq (.seq (r [o 3 (.mv (i 0))] [0,3]) (.block 0 (.loop (.seq (.seq (r [o 4 (.mv (.t 3)),o 5 (.mv (.t 0)),o 6 (.lenS (.t 5)),o 7 (.bin .lss (.t 4) (.t 6))] [0,3,7]) (.cond (.t 7) .skip (.exit 0))) (.seq (.block 1 (.seq (r [o 10 (.mv (.t 0)),o 11 (.mv (.t 3)),o 12 (.ixA 3 (.t 10) (.t 11)),o 13 (.fA 1 (.t 12)),o 14 (.ld none (.t 13)),o 15 (.lenS (.t 14)),o 16 (.bin .gtr (.t 15) (i 6)),o 17 (.mv (.t 16)),n 18 17 (.mv (.t 0)),n 19 17 (.mv (.t 3)),n 20 17 (.ixA 3 (.t 18) (.t 19)),n 21 17 (.fA 2 (.t 20)),n 22 17 (.ld none (.t 21)),n 23 17 (.lenS (.t 22)),n 24 17 (.bin .gtr (.t 23) (i 6)),o 25 (.pick (.t 17) (.c (.bool true)) (.t 24))] [0,3,25]) (.cond (.t 25) (.seq (r [o 2 (.mv (.c (.bool false)))] [2]) .ret) .skip))) (r [o 8 (.mv (.t 3)),o 9 (.bin .add (.t 8) (i 1)),o 3 (.mv (.t 9))] [0,3])))))) (.seq (r [o 2 (.mv (.c (.bool true)))] [2]) .ret))),[.t 2]⟩
theorem law04_short_ok : cFn Tryz.prog (kps [[0],[0,3],[0,3,7],[0,3],[0,3,25],[2],[2]]) [] 15 = some law04_short_c := by kernel_rfl
abbrev law04_Few : Nat := 14
def law04_Few_c : MFn := ⟨69,(.seq (r [o 2 (.mv (.c (.bool false)))] [0]) (.seq (.seq (r [o 3 (.mv (i 0))] [0,3]) (.block 0 (.loop (.seq (.seq (r [o 8 (.mv (.t 3)),o 9 (.mv (.t 0)),o 10 (.lenS (.t 9)),o 11 (.bin .lss (.t 8) (.t 10))] [0,3,11]) (.cond (.t 11) .skip (.exit 0))) (.seq (.block 1 (.seq (r [o 14 (.mv (.t 0)),o 15 (.mv (.t 3)),o 16 (.ixA 16 (.t 14) (.t 15)),o 17 (.ld (some 16) (.t 16)),o 4 (.alloc zM),z (.st 16 (.t 4) (.t 17))] [0,3,4]) (.seq (.seq (r [o 18 (.fA 0 (.t 4)),o 19 (.ld none (.t 18)),o 20 (.lenS (.t 19)),o 21 (.bin .gtr (.t 20) (i 40))] [0,3,4,21]) (.cond (.t 21) (.seq (r [o 2 (.mv (.c (.bool false)))] [2]) .ret) .skip)) (.seq (r [o 22 (.fA 1 (.t 4)),o 23 (.ld (some 3) (.t 22)),o 24 (.fA 4 (.t 4)),o 25 (.ld (some 3) (.t 24)),o 26 (.fA 7 (.t 4)),o 27 (.ixArr 3 3 (.t 26) (i 0)),o 28 (.ld (some 3) (.t 27)),o 29 (.fA 7 (.t 4)),o 30 (.ixArr 3 3 (.t 29) (i 1)),o 31 (.ld (some 3) (.t 30)),o 32 (.fA 7 (.t 4)),o 33 (.ixArr 3 3 (.t 32) (i 2)),o 34 (.ld (some 3) (.t 33)),o 35 (.buildSl 3 5 zR [(0,(.t 23)),(1,(.t 25)),(2,(.t 28)),(3,(.t 31)),(4,(.t 34))]),o 5 (.mv (.t 35))] [0,3,4,5]) (.seq (r [o 6 (.mv (.c .nils))] [0,3,4,5,6]) (.seq (.seq (r [o 7 (.mv (i 0))] [0,3,4,5,6,7]) (.block 2 (.loop (.seq (.seq (r [o 36 (.mv (.t 7)),o 37 (.fA 0 (.t 4)),o 38 (.ld none (.t 37)),o 39 (.lenS (.t 38)),o 40 (.bin .lss (.t 36) (.t 39))] [0,3,4,5,6,7,40]) (.cond (.t 40) .skip (.exit 2))) (.seq (.block 3 (.seq (r [o 43 (.mv (.t 5)),o 44 (.fA 0 (.t 4)),o 45 (.ld none (.t 44)),o 46 (.mv (.t 7)),o 47 (.ixA 6 (.t 45) (.t 46)),o 48 (.fA 3 (.t 47)),o 49 (.ld (some 3) (.t 48)),o 50 (.buildSl 3 1 zR [(0,(.t 49))]),o 51 (.app 3 56 (.t 43) (.t 50)),o 5 (.mv (.t 51))] [0,3,4,5,6,7]) (r [o 52 (.mv (.t 6)),o 53 (.fA 0 (.t 4)),o 54 (.ld none (.t 53)),o 55 (.mv (.t 7)),o 56 (.ixA 6 (.t 54) (.t 55)),o 57 (.fA 0 (.t 56)),o 58 (.ld (some 3) (.t 57)),o 59 (.buildSl 3 1 zV [(0,(.t 58))]),o 60 (.app 3 40 (.t 52) (.t 59)),o 6 (.mv (.t 60))] [0,3,4,5,6,7]))) (r [o 41 (.mv (.t 7)),o 42 (.bin .add (.t 41) (i 1)),o 7 (.mv (.t 42))] [0,3,4,5,6,7])))))) (.seq (r [o 61 (.mv (.t 6)),o 62 (.call 24 [(i 200),(.t 61)]),o 63 (.un .not (.t 62)),o 64 (.mv (.t 63)),n 65 64 (.mv (.t 5)),n 66 64 (.call 15 [(.t 65)]),n 67 64 (.un .not (.t 66)),o 68 (.pick (.t 64) (.c (.bool true)) (.t 67))] [0,3,68]) (.cond (.t 68) (.seq (r [o 2 (.mv (.c (.bool false)))] [2]) .ret) .skip)))))))) (r [o 12 (.mv (.t 3)),o 13 (.bin .add (.t 12) (i 1)),o 3 (.mv (.t 13))] [0,3])))))) (.seq (r [o 2 (.mv (.c (.bool true)))] [2]) .ret))),[.t 2]⟩
theorem law04_Few_ok : cFn Tryz.prog (kps [[0],[0,3],[0,3,11],[0,3],[0,3,4],[0,3,4,21],[2],[0,3,4,5],[0,3,4,5,6],[0,3,4,5,6,7],[0,3,4,5,6,7,40],[0,3,4,5,6,7],[0,3,4,5,6,7],[0,3,4,5,6,7],[0,3,68],[2],[2]]) [] 14 = some law04_Few_c := by kernel_rfl
abbrev law01_Same : Nat := 92
def law01_Same_c : MFn := ⟨26,(.seq (r [o 4 (.mv (.c (.bool false)))] [0,1]) (.seq (.seq (r [o 6 (.mv (.t 0)),o 7 (.lenS (.t 6)),o 8 (.mv (.t 1)),o 9 (.lenS (.t 8)),o 10 (.bin .neq (.t 7) (.t 9))] [0,1,10]) (.cond (.t 10) (.seq (r [o 4 (.mv (.c (.bool false)))] [4]) .ret) .skip)) (.seq (.seq (r [o 5 (.mv (i 0))] [0,1,5]) (.block 0 (.loop (.seq (.seq (r [o 11 (.mv (.t 5)),o 12 (.mv (.t 0)),o 13 (.lenS (.t 12)),o 14 (.bin .lss (.t 11) (.t 13))] [0,1,5,14]) (.cond (.t 14) .skip (.exit 0))) (.seq (.block 1 (.seq (r [o 17 (.mv (.t 0)),o 18 (.mv (.t 5)),o 19 (.ixA 1 (.t 17) (.t 18)),o 20 (.ld none (.t 19)),o 21 (.mv (.t 1)),o 22 (.mv (.t 5)),o 23 (.ixA 1 (.t 21) (.t 22)),o 24 (.ld none (.t 23)),o 25 (.bin .neq (.t 20) (.t 24))] [0,1,5,25]) (.cond (.t 25) (.seq (r [o 4 (.mv (.c (.bool false)))] [4]) .ret) .skip))) (r [o 15 (.mv (.t 5)),o 16 (.bin .add (.t 15) (i 1)),o 5 (.mv (.t 16))] [0,1,5])))))) (.seq (r [o 4 (.mv (.c (.bool true)))] [4]) .ret)))),[.t 4]⟩
theorem law01_Same_ok : cFn Tryz.prog (kps [[0,1],[0,1,10],[4],[0,1,5],[0,1,5,14],[0,1,5],[0,1,5,25],[4],[4]]) [] 92 = some law01_Same_c := by kernel_rfl
abbrev law02_Same : Nat := 30
def law02_Same_c : MFn := ⟨24,(.seq (r [o 2 (.box (.t 0)),o 3 (.box (.t 1)),o 4 (.mv (.c (.bool false)))] [2,3]) (.seq (r [o 5 (.fA 0 (.t 2)),o 6 (.ld none (.t 5)),o 7 (.fA 0 (.t 3)),o 8 (.ld none (.t 7)),o 9 (.binB .eql (.t 6) (.t 8)),o 10 (.mv (.t 9)),y 11 10 (.fA 1 (.t 2)),y 12 10 (.ld none (.t 11)),y 13 10 (.fA 1 (.t 3)),y 14 10 (.ld none (.t 13)),y 15 10 (.call 92 [(.t 12),(.t 14)]),o 16 (.pick (.t 10) (.t 15) (.c (.bool false))),o 17 (.mv (.t 16)),y 18 17 (.fA 2 (.t 2)),y 19 17 (.ld none (.t 18)),y 20 17 (.fA 2 (.t 3)),y 21 17 (.ld none (.t 20)),y 22 17 (.call 92 [(.t 19),(.t 21)]),o 23 (.pick (.t 17) (.t 22) (.c (.bool false))),o 4 (.mv (.t 23))] [4]) .ret)),[.t 4]⟩
theorem law02_Same_ok : cFn Tryz.prog (kps [[2,3],[4]]) [] 30 = some law02_Same_c := by kernel_rfl
abbrev law03_Alike : Nat := 59
def law03_Alike_c : MFn := ⟨46,(.seq (r [o 2 (.box (.t 0)),o 3 (.box (.t 1)),o 4 (.mv (.c (.bool false)))] [2,3]) (.seq (.seq (r [o 6 (.fA 0 (.t 2)),o 7 (.ld none (.t 6)),o 8 (.fA 0 (.t 3)),o 9 (.ld none (.t 8)),o 10 (.bin .neq (.t 7) (.t 9)),o 11 (.mv (.t 10)),n 12 11 (.fA 1 (.t 2)),n 13 11 (.ld none (.t 12)),n 14 11 (.fA 1 (.t 3)),n 15 11 (.ld none (.t 14)),n 16 11 (.bin .neq (.t 13) (.t 15)),o 17 (.pick (.t 11) (.c (.bool true)) (.t 16)),o 18 (.mv (.t 17)),n 19 18 (.fA 2 (.t 2)),n 20 18 (.ld none (.t 19)),n 21 18 (.lenS (.t 20)),n 22 18 (.fA 2 (.t 3)),n 23 18 (.ld none (.t 22)),n 24 18 (.lenS (.t 23)),n 25 18 (.bin .neq (.t 21) (.t 24)),o 26 (.pick (.t 18) (.c (.bool true)) (.t 25))] [2,3,26]) (.cond (.t 26) (.seq (r [o 4 (.mv (.c (.bool false)))] [4]) .ret) .skip)) (.seq (.seq (r [o 5 (.mv (i 0))] [2,3,5]) (.block 0 (.loop (.seq (.seq (r [o 27 (.mv (.t 5)),o 28 (.fA 2 (.t 2)),o 29 (.ld none (.t 28)),o 30 (.lenS (.t 29)),o 31 (.bin .lss (.t 27) (.t 30))] [2,3,5,31]) (.cond (.t 31) .skip (.exit 0))) (.seq (.block 1 (.seq (r [o 34 (.fA 2 (.t 2)),o 35 (.ld none (.t 34)),o 36 (.mv (.t 5)),o 37 (.ixA 3 (.t 35) (.t 36)),o 38 (.ld (some 3) (.t 37)),o 39 (.fA 2 (.t 3)),o 40 (.ld none (.t 39)),o 41 (.mv (.t 5)),o 42 (.ixA 3 (.t 40) (.t 41)),o 43 (.ld (some 3) (.t 42)),o 44 (.callF 59 [(.t 38),(.t 43)]),o 45 (.un .not (.t 44))] [2,3,5,45]) (.cond (.t 45) (.seq (r [o 4 (.mv (.c (.bool false)))] [4]) .ret) .skip))) (r [o 32 (.mv (.t 5)),o 33 (.bin .add (.t 32) (i 1)),o 5 (.mv (.t 33))] [2,3,5])))))) (.seq (r [o 4 (.mv (.c (.bool true)))] [4]) .ret)))),[.t 4]⟩
theorem law03_Alike_ok : cFn Tryz.prog (kps [[2,3],[2,3,26],[4],[2,3,5],[2,3,5,31],[2,3,5],[2,3,5,45],[4],[4]]) [] 59 = some law03_Alike_c := by kernel_rfl
abbrev law04_AlikeParts : Nat := 29
def law04_AlikeParts_c : MFn := ⟨43,(.seq (r [o 4 (.mv (.c (.bool false)))] [0,1]) (.seq (.seq (r [o 6 (.mv (.t 0)),o 7 (.lenS (.t 6)),o 8 (.mv (.t 1)),o 9 (.lenS (.t 8)),o 10 (.bin .neq (.t 7) (.t 9))] [0,1,10]) (.cond (.t 10) (.seq (r [o 4 (.mv (.c (.bool false)))] [4]) .ret) .skip)) (.seq (.seq (r [o 5 (.mv (i 0))] [0,1,5]) (.block 0 (.loop (.seq (.seq (r [o 11 (.mv (.t 5)),o 12 (.mv (.t 0)),o 13 (.lenS (.t 12)),o 14 (.bin .lss (.t 11) (.t 13))] [0,1,5,14]) (.cond (.t 14) .skip (.exit 0))) (.seq (.block 1 (.seq (r [o 17 (.mv (.t 0)),o 18 (.mv (.t 5)),o 19 (.ixA 6 (.t 17) (.t 18)),o 20 (.fA 0 (.t 19)),o 21 (.ld (some 3) (.t 20)),o 22 (.mv (.t 1)),o 23 (.mv (.t 5)),o 24 (.ixA 6 (.t 22) (.t 23)),o 25 (.fA 0 (.t 24)),o 26 (.ld (some 3) (.t 25)),o 27 (.callF 59 [(.t 21),(.t 26)]),o 28 (.un .not (.t 27)),o 29 (.mv (.t 28)),n 30 29 (.mv (.t 0)),n 31 29 (.mv (.t 5)),n 32 29 (.ixA 6 (.t 30) (.t 31)),n 33 29 (.fA 3 (.t 32)),n 34 29 (.ld (some 3) (.t 33)),n 35 29 (.mv (.t 1)),n 36 29 (.mv (.t 5)),n 37 29 (.ixA 6 (.t 35) (.t 36)),n 38 29 (.fA 3 (.t 37)),n 39 29 (.ld (some 3) (.t 38)),n 40 29 (.callF 30 [(.t 34),(.t 39)]),n 41 29 (.un .not (.t 40)),o 42 (.pick (.t 29) (.c (.bool true)) (.t 41))] [0,1,5,42]) (.cond (.t 42) (.seq (r [o 4 (.mv (.c (.bool false)))] [4]) .ret) .skip))) (r [o 15 (.mv (.t 5)),o 16 (.bin .add (.t 15) (i 1)),o 5 (.mv (.t 16))] [0,1,5])))))) (.seq (r [o 4 (.mv (.c (.bool true)))] [4]) .ret)))),[.t 4]⟩
theorem law04_AlikeParts_ok : cFn Tryz.prog (kps [[0,1],[0,1,10],[4],[0,1,5],[0,1,5,14],[0,1,5],[0,1,5,42],[4],[4]]) [] 29 = some law04_AlikeParts_c := by kernel_rfl
abbrev law04_Alike : Nat := 19
def law04_Alike_c : MFn := ⟨39,(.seq (r [o 2 (.box (.t 0)),o 3 (.box (.t 1)),o 4 (.mv (.c (.bool false)))] [2,3]) (.seq (.seq (r [o 5 (.mv (i 0))] [2,3,5]) (.block 0 (.loop (.seq (.seq (r [o 6 (.mv (.t 5)),o 7 (.bin .lss (.t 6) (i 3))] [2,3,5,7]) (.cond (.t 7) .skip (.exit 0))) (.seq (.block 1 (.seq (r [o 10 (.mv (.t 5)),o 11 (.fA 7 (.t 2)),o 12 (.ixArr 3 3 (.t 11) (.t 10)),o 13 (.ld (some 3) (.t 12)),o 14 (.mv (.t 5)),o 15 (.fA 7 (.t 3)),o 16 (.ixArr 3 3 (.t 15) (.t 14)),o 17 (.ld (some 3) (.t 16)),o 18 (.callF 30 [(.t 13),(.t 17)]),o 19 (.un .not (.t 18))] [2,3,5,19]) (.cond (.t 19) (.seq (r [o 4 (.mv (.c (.bool false)))] [4]) .ret) .skip))) (r [o 8 (.mv (.t 5)),o 9 (.bin .add (.t 8) (i 1)),o 5 (.mv (.t 9))] [2,3,5])))))) (.seq (r [o 20 (.fA 0 (.t 2)),o 21 (.ld none (.t 20)),o 22 (.fA 0 (.t 3)),o 23 (.ld none (.t 22)),o 24 (.call 29 [(.t 21),(.t 23)]),o 25 (.mv (.t 24)),y 26 25 (.fA 1 (.t 2)),y 27 25 (.ld (some 3) (.t 26)),y 28 25 (.fA 1 (.t 3)),y 29 25 (.ld (some 3) (.t 28)),y 30 25 (.call 30 [(.t 27),(.t 29)]),o 31 (.pick (.t 25) (.t 30) (.c (.bool false))),o 32 (.mv (.t 31)),y 33 32 (.fA 4 (.t 2)),y 34 32 (.ld (some 3) (.t 33)),y 35 32 (.fA 4 (.t 3)),y 36 32 (.ld (some 3) (.t 35)),y 37 32 (.call 30 [(.t 34),(.t 36)]),o 38 (.pick (.t 32) (.t 37) (.c (.bool false))),o 4 (.mv (.t 38))] [4]) .ret))),[.t 4]⟩
theorem law04_Alike_ok : cFn Tryz.prog (kps [[2,3],[2,3,5],[2,3,5,7],[2,3,5],[2,3,5,19],[4],[4]]) [] 19 = some law04_Alike_c := by kernel_rfl
end Go.Proofs.YtmjgehbpcchjpaaGreatDoor.F

namespace Go.Proofs.YtmjgehbpcchjpaaGreatDoor
open Go Go.Proofs Go.Proofs.YtmjgehbpcchjpaaGreatDoor.E
set_option linter.unusedSimpArgs false
set_option linter.unusedVariables false
def szT (B n : Nat) (t : Tr) : Nat := if n ≤ B then min (n + cQ t) (B + 1) else n + 1
theorem law03_size {B : Nat} (hB : B ≤ 1000) : ∀ {a : Tr}, a.Ok → ∀ {n0 : Nat}, n0 ≤ 10000000 → CallD Tryz.prog F.law03_size [.agg a.cells, .int .i64 n0, .int .i64 B] (· = .int .i64 (szT B n0 a)) := by
 intro a
 induction a using Tr.ind with
 | h k n l ih =>
   intro ha n0 hn0
   cases ha with
   | mk hk hn hl hc =>
   refine aB F.law03_size_ok ?_
   unfold F.law03_size_c szT
   rw [lQ]
   simp [ct, ag, List.filter_cons]
   rw [ap (by omega) (by omega)]
   refine aH (fun g : Nat × Nat => ((((Sl.empty.set 7 (.int .i64 g.1)).set 3 (.ptr 0 0 0)).set 2 (.int .i64 B)).set 1 (.int .i64 g.2), [(0, ⟨.own, 3, [[.int .i64 k, .int .i64 n, tl l]]⟩)])) (fun g => g.1 ≤ l.length ∧ (if n0 ≤ B then g.2 = min (n0 + 1 + eH (l.take g.1)) (B + 1) else g.2 = n0 + 1)) (fun g => l.length - g.1) (0, n0 + 1) ⟨by simp, by simp [eH]; omega⟩ ?_ ?_
   ·refine aJ ?_ (by simp) (by repeat (first | exact ac | refine ah (by simp) ?_)) (by simp)
    repeat (first | exact af | refine aj (by simp) ?_)
   rintro ⟨i, m⟩ ⟨hi, hm⟩
   dsimp only at hi hm
   have hsp := qR l i
   by_cases h1 : i < l.length
   ·by_cases h2 : m ≤ B
    ·have hstep := nP h1
     have h0 : n0 ≤ B := by
      by_cases h0 : n0 ≤ B
      ·exact h0
      ·rw [if_neg h0] at hm; omega
     rw [if_pos h0] at hm
     simp [h1, h2]
     refine ai (ih l[i] (List.getElem_mem h1) (hc _ (List.getElem_mem h1)) (n0 := m) (by omega)) (by simp [ba]) ?_
     simp
     rw [ap (by omega) (by omega)]
     refine ⟨(i + 1, szT B m l[i]), ⟨by dsimp only; omega, ?_⟩, by dsimp only; omega, ?_⟩
     ·rw [if_pos h0]
      unfold szT
      rw [if_pos h2]
      dsimp only
      omega
     refine aJ ?_ (by simp) (by repeat (first | exact ac | refine ah (by simp) ?_)) (by simp)
     repeat (first | exact af | refine aj (by simp) ?_)
    ·simp [h1, h2]
     split <;> split at hm <;> omega
   ·have : l.take i = l := List.take_of_length_le (by omega)
    rw [this] at hm
    simp [h1]
    split <;> split at hm <;> omega
theorem law03_Few {B : Nat} (hB : B ≤ 1000) {l : List Tr} (hl : l.length ≤ 1000000) (ho : ∀ t ∈ l, t.Ok) : CallD Tryz.prog F.law03_Few [.int .i64 B, tl l] (· = .bool (decide (eH l ≤ B))) := by
 refine aB F.law03_Few_ok ?_
 unfold F.law03_Few_c
 simp [ag, List.filter_cons]
 refine aH (fun g : Nat × Nat => ((((Sl.empty.set 6 (.int .i64 g.1)).set 5 (.int .i64 g.2)).set 1 (tl l)).set 0 (.int .i64 B), [])) (fun g => g.1 ≤ l.length ∧ g.2 ≤ B + 1 + g.1 ∧ ((g.2 ≤ B ∧ g.2 = eH (l.take g.1)) ∨ (B < g.2 ∧ B < eH (l.take g.1)))) (fun g => l.length - g.1) (0, 0) ⟨by simp, by simp, by simp [eH]⟩ ?_ ?_
 ·exact bU (by repeat (first | exact af | refine aj (by simp) ?_)) (by repeat (first | exact ac | refine ah (by simp) ?_))
 rintro ⟨i, m⟩ ⟨hi, hm0, hm⟩
 dsimp only at hi hm0 hm
 by_cases h1 : i < l.length
 ·have hstep := nP h1
  simp [h1]
  refine ai (law03_size hB (ho _ (List.getElem_mem h1)) (n0 := m) (by omega)) (by simp [ba]) ?_
  simp
  rw [ap (by omega) (by omega)]
  refine ⟨(i + 1, szT B m l[i]), ⟨by dsimp only; omega, ?_, ?_⟩, by dsimp only; omega, ?_⟩
  ·unfold szT; dsimp only; split <;> omega
  ·unfold szT; dsimp only; split <;> omega
  exact bU (by repeat (first | exact af | refine aj (by simp) ?_)) (by repeat (first | exact ac | refine ah (by simp) ?_))
 ·have : l.take i = l := List.take_of_length_le (by omega)
  rw [this] at hm
  simp [h1]
  omega
def eR (n : Nat) (x : Raw) : Bool := decide (x.num.length ≤ n) && decide (x.den.length ≤ n)
theorem law04_short {l : List Raw} (hl : l.length ≤ 1000000) : CallD Tryz.prog F.law04_short [.dat (l.map Raw.c)] (· = .bool (l.all (eR 6))) := by
 refine aB F.law04_short_ok ?_
 unfold F.law04_short_c
 simp [ag, List.filter_cons]
 refine aH (fun g : Nat => ((Sl.empty.set 3 (.int .i64 g)).set 0 (.dat (l.map Raw.c)), [])) (fun g => g ≤ l.length ∧ ∀ j (hj : j < l.length), j < g → eR 6 l[j] = true) (fun g => l.length - g) 0 ⟨by omega, fun j hj h => by omega⟩ ?_ ?_
 ·exact bU (by repeat (first | exact af | refine aj (by simp) ?_)) (by repeat (first | exact ac | refine ah (by simp) ?_))
 rintro i ⟨hi, hb⟩
 by_cases h1 : i < l.length
 ·have bad : eR 6 l[i] = false → l.all (eR 6) = false := fun h => by
   rw [List.all_eq_false]; exact ⟨_, List.getElem_mem h1, by simp [h]⟩
  by_cases c2 : ¬ l[i].num.length ≤ 6
  ·have := bad (by simp [eR, c2])
   have c2' : (6 : Int) < l[i].num.length := by omega
   simp [this, c2', Raw.c, h1]
  have c2 := Decidable.not_not.1 c2
  have c2' : ¬ (6 : Int) < l[i].num.length := by omega
  by_cases c3 : ¬ l[i].den.length ≤ 6
  ·have := bad (by simp [eR, c3])
   have c3' : (6 : Int) < l[i].den.length := by omega
   simp [this, c2', c3', Raw.c, h1]
  have c3 := Decidable.not_not.1 c3
  have c3' : ¬ (6 : Int) < l[i].den.length := by omega
  simp [c2', c3', Raw.c, h1]
  rw [ap (by omega) (by omega)]
  refine ⟨i + 1, ⟨h1, fun j hj hji => ?_⟩, by dsimp only; omega, ?_⟩
  ·by_cases e : j = i
   ·subst e; simp [eR, c2, c3]
   ·exact hb j hj (by omega)
  ·exact bU (by repeat (first | exact af | refine aj (by simp) ?_)) (by repeat (first | exact ac | refine ah (by simp) ?_))
 ·have : l.all (eR 6) = true := by
   rw [List.all_eq_true]
   intro x hx
   obtain ⟨j, hj, rfl⟩ := List.getElem_of_mem hx
   exact hb j hj (by omega)
  simp [h1, this]
def Ms.five (m : Ms) : List Raw := [m.rf, m.lo, m.f0, m.f1, m.f2]
def Ms.ws (m : Ms) : List Raw := m.five ++ m.parts.map (·.w)
def Ms.vs (m : Ms) : List Tr := m.parts.map (·.v)
def iR (m : Ms) : Bool := decide (m.parts.length ≤ 40) && decide (eH m.vs ≤ 200) && m.ws.all (eR 6)
theorem vs_take {m : Ms} {i : Nat} (h : i < m.parts.length) : (m.vs.take (i + 1)).map Tr.cells = (m.vs.take i).map Tr.cells ++ [m.parts[i].v.cells] := by
 rw [List.take_succ_eq_append_getElem (by simpa [Ms.vs] using h)]; simp [Ms.vs]
theorem ws_take {m : Ms} {i : Nat} (h : i < m.parts.length) : (m.ws.take (5 + (i + 1))).map Raw.c = (m.ws.take (5 + i)).map Raw.c ++ [m.parts[i].w.c] := by
 rw [← Nat.add_assoc, List.take_succ_eq_append_getElem (by simp [Ms.ws, Ms.five]; omega)]
 simp [Ms.ws, Ms.five, Nat.add_comm 5 i]
set_option maxHeartbeats 8000000 in
theorem law04_Few {l : List Ms} (hl : l.length ≤ 1000000) (ho : ∀ m ∈ l, m.Ok maxLen ∧ m.parts.length ≤ maxLen) : CallD Tryz.prog F.law04_Few [.dat (l.map msC)] (· = .bool (l.all iR)) := by
 have e0 : maxLen = 9223372036854775807 := rfl
 refine aB F.law04_Few_ok ?_
 unfold F.law04_Few_c
 simp [ag, List.filter_cons]
 refine aH (fun g : Nat => ((Sl.empty.set 3 (.int .i64 g)).set 0 (.dat (l.map msC)), [])) (fun g => g ≤ l.length ∧ ∀ j (hj : j < l.length), j < g → iR l[j] = true) (fun g => l.length - g) 0 ⟨by omega, fun j hj h => by omega⟩ ?_ ?_
 ·exact bU (by repeat (first | exact af | refine aj (by simp) ?_)) (by repeat (first | exact ac | refine ah (by simp) ?_))
 rintro a ⟨ha, hb⟩
 by_cases h1 : a < l.length
 ·obtain ⟨okm, lm⟩ := ho _ (List.getElem_mem h1)
  have bad : iR l[a] = false → l.all iR = false := fun h => by
   rw [List.all_eq_false]; exact ⟨_, List.getElem_mem h1, by simp [h]⟩
  have next : iR l[a] = true → ∀ j (hj : j < l.length), j < a + 1 → iR l[j] = true := fun h j hj hji => by
   by_cases e : j = a
   ·subst e; exact h
   ·exact hb j hj (by omega)
  generalize hm : l[a] = m at okm lm bad next
  have t16 : List.take 16 (msC m) = msC m := by simp [msC, am]
  simp [h1, hm, t16, ag, List.filter_cons]
  by_cases c40 : ¬ m.parts.length ≤ 40
  ·have := bad (by simp [iR, c40])
   have c' : (40 : Int) < m.parts.length := by omega
   simp [msC, am, c', this]
  have c40 := Decidable.not_not.1 c40
  have c40' : ¬ (40 : Int) < m.parts.length := by omega
  simp [msC, am, c40', ag, List.filter_cons]
  refine aH (fun g : (Nat × Nat) × Nat => ((((((Sl.empty.set 7 (.int .i64 g.2)).set 6 (bl g.1.2 g.2)).set 5 (.ref g.1.1 0 (5 + g.2))).set 4 (.ptr 0 0 0)).set 3 (.int .i64 a)).set 0 (.dat (l.map msC)),
   [(0, ⟨.own, 16, [pl m.parts :: am m.rf m.lo m.f0 m.f1 m.f2]⟩), (g.1.1, ⟨.own, 3, (m.ws.take (5 + g.2)).map Raw.c⟩)] ++ cL g.1.2 3 g.2 ((m.vs.take g.2).map Tr.cells)))
   (fun g => g.2 ≤ m.parts.length ∧ 0 < g.1.1 ∧ 0 < g.1.2 ∧ g.1.1 ≠ g.1.2) (fun g => m.parts.length - g.2) ((1, 2), 0) ⟨by simp, by simp, by simp, by simp⟩ ?_ ?_
  ·refine aJ ?_ (by simp [aF, aP, am, Ms.ws, Ms.five, Raw.c]) (by repeat (first | exact ac | refine ah (by simp [aF]) ?_)) (by simp [aF, aP, am, Ms.ws, Ms.five, Raw.c])
   simp only [aF]
   repeat (first | exact af | refine aj (by simp) ?_)
  rintro ⟨⟨ow, ov⟩, i⟩ ⟨hi, w0, v0, hwv⟩
  dsimp only at hi w0 v0 hwv
  have q1 : ¬ ow = 0 := by omega
  have q2 : ¬ ov = 0 := by omega
  have q3 : ¬ 0 = ow := by omega
  have q4 : ¬ 0 = ov := by omega
  have q5 : ¬ ow = ov := hwv
  have q6 : ¬ ov = ow := fun h => hwv h.symm
  have lv : m.vs.length = m.parts.length := by simp [Ms.vs]
  have inw : ∀ n, ∀ r ∈ List.take n (m.ws.map Raw.c), ∀ y ∈ r, ∀ p : Nat → Bool, y.within p = true := fun n r hr y hy p => by
   obtain ⟨x, _, rfl⟩ := List.mem_map.1 (List.mem_of_mem_take hr)
   exact bx x y hy
  have inv : ∀ n, ∀ r ∈ List.take n (m.vs.map Tr.cells), ∀ y ∈ r, ∀ p : Nat → Bool, y.within p = true := fun n r hr y hy p => by
   obtain ⟨x, _, rfl⟩ := List.mem_map.1 (List.mem_of_mem_take hr)
   exact cX x y hy
  have lw : m.ws.length = 5 + m.parts.length := by simp [Ms.ws, Ms.five]; omega
  have lwt : ((m.ws.take (5 + i)).map Raw.c).length = 5 + i := by simp; omega
  by_cases h2 : i < m.parts.length
  ·have tk : List.take 6 (aA m.parts[i]) = aA m.parts[i] := by simp
   have tv : List.take (i + 1) (List.map Tr.cells m.vs) = List.take i (List.map Tr.cells m.vs) ++ [m.parts[i].v.cells] := by
    have := vs_take h2; rwa [List.map_take, List.map_take] at this
   have tw : List.take (5 + (i + 1)) (List.map Raw.c m.ws) = List.take (5 + i) (List.map Raw.c m.ws) ++ [m.parts[i].w.c] := by
    have := ws_take h2; rwa [List.map_take, List.map_take] at this
   by_cases hi0 : i = 0
   ·subst hi0
    simp (disch := omega) [h2, aF, aP, lw, q1, q2, q3, q4, q5, q6, ag, List.filter_cons, am, Nat.max_eq_right, Nat.max_eq_left, if_neg, if_pos]
    rw [ap (by omega) (by omega)]
    simp only [Nat.zero_add, Nat.add_zero, List.take_zero, List.nil_append] at tv tw
    refine ⟨((ow + 2, ow + 4), 1), ⟨h2, by dsimp only; omega, by dsimp only; omega, by dsimp only; omega⟩, by dsimp only; omega, ?_⟩
    refine aJ ?_ ?_ (by simp only [ax (show 1 ≠ 0 by omega)]; repeat (first | exact ac | refine ah (by simp [ay]) ?_)) ?_
    ·simp only [ax (show 1 ≠ 0 by omega)]
     repeat (first | exact af | refine aj (by simp) ?_)
    ·simp (disch := omega) [ay, tv, tw, q1, if_neg]
    ·simp only [ay (show 1 ≠ 0 by omega), List.map_take]
     intro p hp r hr y hy
     simp at hp
     rcases hp with rfl | rfl | rfl
     ·simp at hr; subst hr; simp at hy; rcases hy with rfl | rfl | rfl | rfl | rfl | rfl | rfl | rfl | rfl | rfl | rfl | rfl | rfl | rfl | rfl | rfl <;> simp [V.within]
     ·exact inw _ r hr y hy _
     ·exact inv _ r hr y hy _
   ·simp (disch := omega) [h2, ax hi0, ay hi0, lw, lv, Nat.min_eq_left, q1, q2, q3, q4, q5, q6, ag, List.filter_cons, am, Nat.max_eq_right, Nat.max_eq_left, if_neg, if_pos]
    rw [ap (by omega) (by omega)]
    generalize hM : max ow ov = M
    have hM1 : ow ≤ M ∧ ov ≤ M := by omega
    refine ⟨((M + 2, M + 4), i + 1), ⟨h2, by dsimp only; omega, by dsimp only; omega, by dsimp only; omega⟩, by dsimp only; omega, ?_⟩
    refine aJ ?_ ?_ (by simp only [ax (show i + 1 ≠ 0 by omega)]; repeat (first | exact ac | refine ah (by simp [ay]) ?_)) ?_
    ·simp only [ax (show i + 1 ≠ 0 by omega)]
     repeat (first | exact af | refine aj (by simp; try omega) ?_)
    ·simp (disch := omega) [ay, tv, tw, q1, q2, if_neg]
    ·simp only [ay (show i + 1 ≠ 0 by omega), List.map_take]
     intro p hp r hr y hy
     simp at hp
     rcases hp with rfl | rfl | rfl
     ·simp at hr; subst hr; simp at hy; rcases hy with rfl | rfl | rfl | rfl | rfl | rfl | rfl | rfl | rfl | rfl | rfl | rfl | rfl | rfl | rfl | rfl <;> simp [V.within]
     ·exact inw _ r hr y hy _
     ·exact inv _ r hr y hy _
  ·have hil : i = m.parts.length := by omega
   subst hil
   have ew : m.ws.take (5 + m.parts.length) = m.ws := List.take_of_length_le (by omega)
   have ev : m.vs.take m.parts.length = m.vs := List.take_of_length_le (by simp [Ms.vs])
   rw [ew, ev]
   simp [am]
   refine ai (law03_Few (B := 200) (l := m.vs) (by omega) (by omega) (fun t ht => by
    obtain ⟨p, hp, rfl⟩ := List.mem_map.1 ht
    exact (okm.parts p hp).1)) (by
     simp
     rw [cI (k := 11) (st := .own) (es := 3) (l := m.vs.map Tr.cells) (fun h => by simp [ay h, E.look, q4, q6, q5]) (by simp) (by simp) (by simp [lv]) (fun r hr => by obtain ⟨x, _, rfl⟩ := List.mem_map.1 hr; exact ba _ _ _)]) ?_
   by_cases cv : ¬ eH m.vs ≤ 200
   ·have := bad (by simp [iR, cv])
    simp [cv, this]
   have cv := Decidable.not_not.1 cv
   simp [cv]
   refine ai (law04_short (l := m.ws) (by omega)) (by
    simp
    rw [kn (k := 11) (st := .own) (es := 3) (l := m.ws.map Raw.c) (by simp [aM, E.look, q1, q3]) (by simp) (by simp [lw]) (fun r hr => by obtain ⟨x, _, rfl⟩ := List.mem_map.1 hr; exact bq _ _ _)]) ?_
   cases cw : m.ws.all (eR 6) with
   | false =>
     have := bad (by simp only [iR, cw]; simp)
     simp [this]
   | true =>
   simp
   rw [ap (by omega) (by omega)]
   refine ⟨a + 1, ⟨h1, next (by simp only [iR, cw]; simp [c40, cv])⟩, by dsimp only; omega, ?_⟩
   exact bU (by repeat (first | exact af | refine aj (by simp) ?_)) (by repeat (first | exact ac | refine ah (by simp) ?_))
 ·have : l.all iR = true := by
   rw [List.all_eq_true]
   intro x hx
   obtain ⟨j, hj, rfl⟩ := List.getElem_of_mem hx
   exact hb j hj (by omega)
  simp [h1, this]
theorem law01_Same {l : List Int} (hl : l.length ≤ 2 ^ 40) : CallD Tryz.prog F.law01_Same [nat l, nat l] (· = .bool true) := by
 refine aB F.law01_Same_ok ?_
 unfold F.law01_Same_c
 simp [ag, List.filter_cons]
 refine aH (fun g : Nat => (((Sl.empty.set 5 (.int .i64 g)).set 1 (nat l)).set 0 (nat l), [])) (fun g => g ≤ l.length) (fun g => l.length - g) 0 (by omega) ?_ ?_
 ·exact bU (by repeat (first | exact af | refine aj (by simp) ?_)) (by repeat (first | exact ac | refine ah (by simp) ?_))
 intro i hi
 by_cases h1 : i < l.length
 ·simp [h1]
  rw [ap (by omega) (by omega)]
  refine ⟨i + 1, h1, by dsimp only; omega, ?_⟩
  exact bU (by repeat (first | exact af | refine aj (by simp) ?_)) (by repeat (first | exact ac | refine ah (by simp) ?_))
 ·simp [h1]
theorem law02_Same {x : Raw} {k : Nat} (hx : x.Ok k) (hk : k ≤ 2 ^ 40) : CallD Tryz.prog F.law02_Same [x.v, x.v] (· = .bool true) := by
 have h1 := hx.ln
 have h2 := hx.ld
 refine aB F.law02_Same_ok ?_
 unfold F.law02_Same_c
 simp [ag, List.filter_cons, Raw.v]
 refine ai (law01_Same (l := x.num) (by omega)) (by simp) ?_
 simp
 refine ai (law01_Same (l := x.den) (by omega)) (by simp) ?_
 simp
theorem law03_Alike : ∀ {v : Tr}, v.Ok → CallD Tryz.prog F.law03_Alike [.agg v.cells, .agg v.cells] (· = .bool true) := by
 intro v
 induction v using Tr.ind with
 | h k n l ih =>
   intro hv
   cases hv with
   | mk hk hn hl hc =>
     refine aB F.law03_Alike_ok ?_
     unfold F.law03_Alike_c
     simp [ag, List.filter_cons, ct]
     refine aH (fun g : Nat => (((Sl.empty.set 5 (.int .i64 g)).set 3 (.ptr 1 0 0)).set 2 (.ptr 0 0 0), [(0, ⟨.own, 3, [[.int .i64 k, .int .i64 n, tl l]]⟩), (1, ⟨.own, 3, [[.int .i64 k, .int .i64 n, tl l]]⟩)])) (fun g => g ≤ l.length) (fun g => l.length - g) 0 (by omega) ?_ ?_
     ·refine aJ ?_ (by simp) (by repeat (first | exact ac | refine ah (by simp) ?_)) (by simp)
      repeat (first | exact af | refine aj (by simp) ?_)
     intro i hi
     by_cases h1 : i < l.length
     ·simp [h1, ag, List.filter_cons]
      have hmem := List.getElem_mem h1
      refine ak (ih _ hmem (hc _ hmem)) (by simp [ba]) ?_
      simp [h1]
      rw [ap (by omega) (by omega)]
      refine ⟨i + 1, h1, by dsimp only; omega, ?_⟩
      refine aJ ?_ (by simp) (by repeat (first | exact ac | refine ah (by simp) ?_)) (by simp)
      repeat (first | exact af | refine aj (by simp) ?_)
     ·simp [h1]
theorem law04_AlikeParts {l : List Part} {K : Nat} (hl : l.length ≤ 2 ^ 40) (hK : K ≤ 2 ^ 40) (ho : ∀ p ∈ l, p.v.Ok ∧ p.w.Ok K) : CallD Tryz.prog F.law04_AlikeParts [pl l, pl l] (· = .bool true) := by
 refine aB F.law04_AlikeParts_ok ?_
 unfold F.law04_AlikeParts_c
 simp [ag, List.filter_cons]
 refine aH (fun g : Nat => (((Sl.empty.set 5 (.int .i64 g)).set 1 (pl l)).set 0 (pl l), [])) (fun g => g ≤ l.length) (fun g => l.length - g) 0 (by omega) ?_ ?_
 ·exact bU (by repeat (first | exact af | refine aj (by simp) ?_)) (by repeat (first | exact ac | refine ah (by simp) ?_))
 intro i hi
 by_cases h1 : i < l.length
 ·obtain ⟨o1, o2⟩ := ho _ (List.getElem_mem h1)
  simp [h1]
  refine ak (law03_Alike o1) (by simp [ba]) ?_
  simp [h1]
  refine ak (law02_Same o2 hK) (by simp [bq, bW]) ?_
  simp
  rw [ap (by omega) (by omega)]
  refine ⟨i + 1, h1, by dsimp only; omega, ?_⟩
  exact bU (by repeat (first | exact af | refine aj (by simp) ?_)) (by repeat (first | exact ac | refine ah (by simp) ?_))
 ·simp [h1]
theorem law04_Alike {m : Ms} {K : Nat} (hl : m.parts.length ≤ 2 ^ 40) (hK : K ≤ 2 ^ 40) (hm : m.Ok K) : CallD Tryz.prog F.law04_Alike [m.v, m.v] (· = .bool true) := by
 refine aB F.law04_Alike_ok ?_
 unfold F.law04_Alike_c
 simp [ag, List.filter_cons, msC, am]
 refine aH (fun g : Nat => (((Sl.empty.set 5 (.int .i64 g)).set 3 (.ptr 1 0 0)).set 2 (.ptr 0 0 0), [(0, ⟨.own, 16, [msC m]⟩), (1, ⟨.own, 16, [msC m]⟩)])) (fun g => g ≤ 3) (fun g => 3 - g) 0 (by omega) ?_ ?_
 ·refine aJ ?_ (by simp [msC, am]) (by repeat (first | exact ac | refine ah (by simp) ?_)) (by simp [msC, am])
  repeat (first | exact af | refine aj (by simp) ?_)
 intro g hg
 by_cases c : g < 3
 ·have hg3 : g = 0 ∨ g = 1 ∨ g = 2 := by omega
  have stp : ∀ {x : Raw}, x.Ok K → CallD Tryz.prog F.law02_Same [x.v, x.v] (· = .bool true) := fun hx => law02_Same hx hK
  rcases hg3 with rfl | rfl | rfl
  ·simp [msC, am]
   refine ak (stp hm.f0) (by simp [Raw.v]) ?_
   simp
   rw [ap (by omega) (by omega)]
   refine ⟨1, by omega, by dsimp only; omega, ?_⟩
   refine aJ ?_ (by simp [msC, am]) (by repeat (first | exact ac | refine ah (by simp) ?_)) (by simp [msC, am])
   repeat (first | exact af | refine aj (by simp) ?_)
  ·simp [msC, am]
   refine ak (stp hm.f1) (by simp [Raw.v]) ?_
   simp
   rw [ap (by omega) (by omega)]
   refine ⟨2, by omega, by dsimp only; omega, ?_⟩
   refine aJ ?_ (by simp [msC, am]) (by repeat (first | exact ac | refine ah (by simp) ?_)) (by simp [msC, am])
   repeat (first | exact af | refine aj (by simp) ?_)
  ·simp [msC, am]
   refine ak (stp hm.f2) (by simp [Raw.v]) ?_
   simp
   rw [ap (by omega) (by omega)]
   refine ⟨3, by omega, by dsimp only; omega, ?_⟩
   refine aJ ?_ (by simp [msC, am]) (by repeat (first | exact ac | refine ah (by simp) ?_)) (by simp [msC, am])
   repeat (first | exact af | refine aj (by simp) ?_)
 have hg3 : g = 3 := by omega
 subst hg3
 simp [msC, am]
 refine ai (law04_AlikeParts hl hK hm.parts) (by simp) ?_
 simp
 refine ai (law02_Same hm.rf hK) (by simp [Raw.v]) ?_
 simp
 refine ai (law02_Same hm.lo hK) (by simp [Raw.v]) ?_
 simp
end Go.Proofs.YtmjgehbpcchjpaaGreatDoor
