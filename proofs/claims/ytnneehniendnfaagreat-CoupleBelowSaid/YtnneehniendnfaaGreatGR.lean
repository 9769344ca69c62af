/- Joined texts: TAlive, CAlive. -/
import Derived.Test.YtnneehniendnfaaGreatGE
import Derived.Test.YtnneehniendnfaaGreatGC
import Derived.Test.YtnneehniendnfaaGreatProg
import Derived.KernelRfl
import Derived.Test.YtnneehniendnfaaGreatGH
import Derived.Test.YtnneehniendnfaaGreatGO
import Derived.Test.YtnneehniendnfaaGreatGP
import Derived.Test.YtnneehniendnfaaGreatGL
import Derived.Test.YtnneehniendnfaaGreatGN
import Derived.Test.YtnneehniendnfaaGreatGM
import Derived.Test.YtnneehniendnfaaGreatGJ
import Derived.Test.YtnneehniendnfaaGreatGI
import Derived.Test.YtnneehniendnfaaGreatGK
/- Functions of the program, as the engine reads them; each is held against the translation. -/
namespace Go.Proofs.YtnneehniendnfaaGreat.F
open Go Go.Proofs Go.Proofs.YtnneehniendnfaaGreat.E Go.Proofs.YtnneehniendnfaaGreat.Q
abbrev law35_alive : Nat := 19
def law35_alive_c : MFn :=
  ⟨43,(.seq (r [o 0 (.mv (.c (.bool false)))] []) (.seq (r [o 6 (.call 59 [(i 1)]),o 7 (.call 59 [(i 2)]),o 8 (.call 20 [(.t 6),(.t 7)]),o 5 (.mv (.t 8)),o 9 (.ext (.t 5) 0),o 10 (.ext (.t 5) 1),
  o 1 (.alloc [.bool false,.nils,.nils]),z (.st 3 (.t 1) (.t 9)),o 2 (.mv (.t 10))] [1,2]) (.seq (r [o 12 (.call 59 [(i 1)]),o 13 (.call 59 [(i 2)]),o 14 (.call 22 [(.t 12),(.t 13)]),
  o 11 (.mv (.t 14)),o 15 (.ext (.t 11) 0),o 16 (.ext (.t 11) 1),o 3 (.mv (.t 15)),o 4 (.mv (.t 16))] [1,2,3,4]) (.seq (r [o 17 (.mv (.t 2)),o 18 (.bin .eql (.t 17) (i 0)),o 19 (.mv (.t 18)),
  y 20 19 (.mv (.t 4)),y 21 19 (.bin .eql (.t 20) (i 0)),o 22 (.pick (.t 19) (.t 21) (.c (.bool false))),o 23 (.mv (.t 22)),y 24 23 (.ld (some 3) (.t 1)),y 25 23 (.callF 53 []),
  y 26 23 (.callF 24 [(.t 24),(.t 25)]),o 27 (.pick (.t 23) (.t 26) (.c (.bool false))),o 28 (.mv (.t 27)),y 29 28 (.mv (.t 3)),y 30 28 (.lenS (.t 29)),y 31 28 (.bin .eql (.t 30) (i 1)),
  o 32 (.pick (.t 28) (.t 31) (.c (.bool false))),o 33 (.mv (.t 32)),y 34 33 (.callF 59 [(i 1)]),y 35 33 (.callF 59 [(i 2)]),y 36 33 (.mv (.t 3)),y 37 33 (.callF 16 [(.t 34),(.t 35),(.t 36)]),
  o 38 (.pick (.t 33) (.t 37) (.c (.bool false))),o 39 (.mv (.t 38)),y 40 39 (.callF 59 [(i 1)]),y 41 39 (.callF 14 [(.t 40)]),o 42 (.pick (.t 39) (.t 41) (.c (.bool false))),o 0 (.mv (.t 42))] [0])
  .ret)))),[.t 0]⟩
theorem law35_alive_ok : cFn Tryz.prog (kps [[],[1,2],[1,2,3,4],[0]]) [] 19 = some law35_alive_c := by kernel_rfl
abbrev couple_Apart : Nat := 20
def couple_Apart_c : MFn :=
  ⟨50,(.seq (r [o 4 (.alloc [.bool false,.nils,.nils]),o 5 (.mv (i 0))] [0,1,4]) (.seq (.seq (r [o 11 (.mv (.t 0)),o 12 (.call 14 [(.t 11)]),o 13 (.un .not (.t 12)),o 14 (.mv (.t 13)),
  n 15 14 (.mv (.t 1)),n 16 14 (.call 14 [(.t 15)]),n 17 14 (.un .not (.t 16)),o 18 (.pick (.t 14) (.c (.bool true)) (.t 17))] [0,1,4,18]) (.cond (.t 18) (.seq (r [o 19 (.build [.bool false,.nils,
  .nils] []),z (.st 3 (.t 4) (.t 19)),o 5 (.mv (i 1))] [4,5]) .ret) .skip)) (.seq (r [o 20 (.call 41 []),o 6 (.alloc [.bool false,.nils,.nils]),z (.st 3 (.t 6) (.t 20))] [0,1,4,6])
  (.seq (.seq (r [o 21 (.mv (.t 0)),o 22 (.lenS (.t 21)),o 23 (.mv (i 0))] [1,4,6,21,22,23]) (.block 0 (.loop (.seq (r [o 24 (.bin .lss (.t 23) (.t 22))] [1,4,6,21,22,23,24]) (.seq (.cond (.t 24)
  .skip (.exit 0)) (.seq (.block 1 (.seq (r [o 25 (.ixA 6 (.t 21) (.t 23)),o 26 (.ld (some 6) (.t 25)),o 8 (.alloc [.int .i64 0,.int .i64 0,.nils,.bool false,.nils,.nils]),z (.st 6 (.t 8)
  (.t 26))] [1,4,6,8,21,22,23]) (.seq (r [o 27 (.fA 3 (.t 8)),o 28 (.ld (some 3) (.t 27)),o 9 (.alloc [.bool false,.nils,.nils]),z (.st 3 (.t 9) (.t 28))] [1,4,6,8,9,21,22,23])
  (.seq (.seq (r [o 29 (.mv (.t 1)),o 30 (.fA 0 (.t 8)),o 31 (.ld (some 3) (.t 30)),o 32 (.call 60 [(.t 29),(.t 31)]),o 10 (.mv (.t 32))] [1,4,6,9,10,21,22,23]) (.seq (r [o 33 (.mv (.t 10)),
  o 34 (.bin .geq (.t 33) (i 0))] [1,4,6,9,10,21,22,23,34]) (.cond (.t 34) (r [o 35 (.ld (some 3) (.t 9)),o 36 (.mv (.t 1)),o 37 (.mv (.t 10)),o 38 (.ixA 6 (.t 36) (.t 37)),o 39 (.fA 3 (.t 38)),
  o 40 (.ld (some 3) (.t 39)),o 41 (.callF 56 [(.t 35),(.t 40)]),z (.st 3 (.t 9) (.t 41))] [1,4,6,9,21,22,23]) .skip))) (.seq (r [o 42 (.fA 0 (.t 9)),o 43 (.ld none (.t 42)),
  o 44 (.un .not (.t 43))] [1,4,6,9,21,22,23,44]) (.cond (.t 44) (r [o 45 (.ld (some 3) (.t 6)),o 46 (.ld (some 3) (.t 9)),o 47 (.call 46 [(.t 45),(.t 46)]),z (.st 3 (.t 6) (.t 47))] [1,4,6,21,22,
  23]) .skip)))))) (r [o 48 (.bin .add (.t 23) (i 1)),o 23 (.mv (.t 48))] [1,4,6,21,22,23]))))))) (.seq (r [o 49 (.ld (some 3) (.t 6)),z (.st 3 (.t 4) (.t 49)),o 5 (.mv (i 0))] [4,5]) .ret))))),
  [.cell 4 (some 3),.t 5]⟩
theorem couple_Apart_ok : cFn Tryz.prog (kps [[0,1,4],[0,1,4,18],[4,5],[0,1,4,6],[1,4,6,21,22,23],[1,4,6,21,22,23,24],[1,4,6,8,21,22,23],[1,4,6,8,9,21,22,23],[1,4,6,9,10,21,22,23],[1,4,6,9,10,21,22,23,34],[1,4,6,9,21,22,23],[1,4,6,9,21,22,23,44],[1,4,6,21,22,23],[1,4,6,21,22,23],[4,5]]) [] 20 = some couple_Apart_c := by kernel_rfl
abbrev couple_Best : Nat := 22
def couple_Best_c : MFn :=
  ⟨79,(.seq (r [o 4 (.mv (.c .nils)),o 5 (.mv (i 0))] [0,1]) (.seq (.seq (r [o 13 (.mv (.t 0)),o 14 (.call 14 [(.t 13)]),o 15 (.un .not (.t 14)),o 16 (.mv (.t 15)),n 17 16 (.mv (.t 1)),
  n 18 16 (.call 14 [(.t 17)]),n 19 16 (.un .not (.t 18)),o 20 (.pick (.t 16) (.c (.bool true)) (.t 19))] [0,1,20]) (.cond (.t 20) (.seq (r [o 4 (.mv (.c .nils)),o 5 (.mv (i 1))] [4,5]) .ret) .skip))
  (.seq (r [o 21 (.mv (.t 0)),o 22 (.call 54 [(.t 21)]),o 23 (.mv (.t 1)),o 24 (.call 54 [(.t 23)]),o 6 (.mv (.t 22)),o 7 (.mv (.t 24))] [0,1,6,7]) (.seq (r [o 8 (.mv (.c .nils))] [0,1,6,7,8])
  (.seq (.seq (r [o 25 (.mv (.t 0)),o 26 (.lenS (.t 25)),o 27 (.mv (i 0))] [1,6,7,8,25,26,27]) (.block 0 (.loop (.seq (r [o 28 (.bin .lss (.t 27) (.t 26))] [1,6,7,8,25,26,27,28]) (.seq (.cond (.t 28)
  .skip (.exit 0)) (.seq (.block 1 (.seq (r [o 29 (.mv (.t 27)),o 30 (.ixA 6 (.t 25) (.t 27)),o 31 (.ld (some 6) (.t 30)),o 10 (.alloc [.int .i64 0,.int .i64 0,.nils,.bool false,.nils,.nils]),
  o 9 (.mv (.t 29)),z (.st 6 (.t 10) (.t 31))] [1,6,7,8,9,10,25,26,27]) (.seq (r [o 32 (.mv (.t 1)),o 33 (.fA 0 (.t 10)),o 34 (.ld (some 3) (.t 33)),o 35 (.call 60 [(.t 32),(.t 34)]),
  o 11 (.mv (.t 35))] [1,6,7,8,9,11,25,26,27]) (.seq (r [o 36 (.mv (.t 11)),o 37 (.bin .geq (.t 36) (i 0))] [1,6,7,8,9,11,25,26,27,37]) (.cond (.t 37) (.seq (r [o 38 (.mv (.t 6)),o 39 (.mv (.t 9)),
  o 40 (.ixA 3 (.t 38) (.t 39)),o 41 (.ld (some 3) (.t 40)),o 42 (.mv (.t 7)),o 43 (.mv (.t 11)),o 44 (.ixA 3 (.t 42) (.t 43)),o 45 (.ld (some 3) (.t 44)),o 46 (.callF 64 [(.t 41),(.t 45)]),
  o 12 (.alloc [.bool false,.nils,.nils]),z (.st 3 (.t 12) (.t 46))] [1,6,7,8,9,11,12,25,26,27]) (.seq (r [o 47 (.mv (.t 8)),o 48 (.mv (.t 9)),o 49 (.mv (.t 11)),o 50 (.ld (some 3) (.t 12)),
  o 51 (.build [.int .i64 0,.int .i64 0,.bool false,.nils,.nils] [(0,1,(.t 48)),(1,1,(.t 49)),(2,3,(.t 50))]),o 52 (.buildSl 5 1 [.int .i64 0,.int .i64 0,.bool false,.nils,.nils] [(0,(.t 51))]),
  o 53 (.app 5 72 (.t 47) (.t 52)),o 8 (.mv (.t 53))] [1,6,7,8,9,11,12,25,26,27]) (r [o 54 (.mv (.t 6)),o 55 (.mv (.t 9)),o 56 (.mv (.t 7)),o 57 (.mv (.t 11)),o 58 (.mv (.t 6)),o 59 (.mv (.t 9)),
  o 60 (.ixA 3 (.t 58) (.t 59)),o 61 (.ld (some 3) (.t 60)),o 62 (.ld (some 3) (.t 12)),o 63 (.callF 56 [(.t 61),(.t 62)]),o 64 (.mv (.t 7)),o 65 (.mv (.t 11)),o 66 (.ixA 3 (.t 64) (.t 65)),
  o 67 (.ld (some 3) (.t 66)),o 68 (.ld (some 3) (.t 12)),o 69 (.callF 56 [(.t 67),(.t 68)]),o 70 (.ixA 3 (.t 54) (.t 55)),z (.st 3 (.t 70) (.t 63)),o 71 (.ixA 3 (.t 56) (.t 57)),z (.st 3 (.t 71)
  (.t 69))] [1,6,7,8,25,26,27]))) .skip))))) (r [o 72 (.bin .add (.t 27) (i 1)),o 27 (.mv (.t 72))] [1,6,7,8,25,26,27]))))))) (.seq (r [o 73 (.mv (.t 8)),o 74 (.mv (.t 6)),o 75 (.mv (.t 7)),
  o 76 (.call 66 [(.t 74),(.t 75)]),o 77 (.app 5 72 (.t 73) (.t 76)),o 78 (.call 65 [(.t 77)]),o 4 (.mv (.t 78)),o 5 (.mv (i 0))] [4,5]) .ret)))))),[.t 4,.t 5]⟩
theorem couple_Best_ok : cFn Tryz.prog (kps [[0,1],[0,1,20],[4,5],[0,1,6,7],[0,1,6,7,8],[1,6,7,8,25,26,27],[1,6,7,8,25,26,27,28],[1,6,7,8,9,10,25,26,27],[1,6,7,8,9,11,25,26,27],[1,6,7,8,9,11,25,26,27,37],[1,6,7,8,9,11,12,25,26,27],[1,6,7,8,9,11,12,25,26,27],[1,6,7,8,25,26,27],[1,6,7,8,25,26,27],[4,5]]) [] 22 = some couple_Best_c := by kernel_rfl
abbrev law35_sure : Nat := 59
def law35_sure_c : MFn :=
  ⟨8,(.seq (r [o 2 (.mv (.c .nils))] [0]) (.seq (r [o 3 (.mv (.t 0)),o 4 (.build [.int .i64 0,.int .i64 0,.nils] [(0,1,(i 2)),(1,1,(.t 3))]),o 5 (.call 53 []),o 6 (.build [.int .i64 0,.int .i64 0,.nils,
  .bool false,.nils,.nils] [(0,3,(.t 4)),(3,3,(.t 5))]),o 7 (.buildSl 6 1 [.int .i64 0,.int .i64 0,.nils,.bool false,.nils,.nils] [(0,(.t 6))]),o 2 (.mv (.t 7))] [2]) .ret)),[.t 2]⟩
theorem law35_sure_ok : cFn Tryz.prog (kps [[0],[2]]) [] 59 = some law35_sure_c := by kernel_rfl
abbrev couple_place : Nat := 60
def couple_place_c : MFn :=
  ⟨16,(.seq (r [o 3 (.box (.t 1)),o 4 (.mv (i 0))] [0,3]) (.seq (r [o 8 (.mv (.t 0)),o 9 (.ld (some 3) (.t 3)),o 10 (.call 111 [(.t 8),(.t 9),(.c (.clo 112 []))]),o 7 (.mv (.t 10)),o 11 (.ext (.t 7) 0),
  o 12 (.ext (.t 7) 1),o 5 (.mv (.t 11)),o 6 (.mv (.t 12))] [5,6]) (.seq (.seq (r [o 13 (.mv (.t 6)),o 14 (.un .not (.t 13))] [5,14]) (.cond (.t 14) (.seq (r [o 4 (.mv (i (-1)))] [4]) .ret) .skip))
  (.seq (r [o 15 (.mv (.t 5)),o 4 (.mv (.t 15))] [4]) .ret)))),[.t 4]⟩
theorem couple_place_ok : cFn Tryz.prog (kps [[0,3],[5,6],[5,14],[4],[4]]) [] 60 = some couple_place_c := by kernel_rfl
abbrev couple_gathered : Nat := 65
def couple_gathered_c : MFn :=
  ⟨47,(.seq (r [o 2 (.mv (.c .nils))] [0]) (.seq (r [o 7 (.mv (.t 0)),o 8 (.call 114 [(.t 7),(.c (.clo 55 []))])] [0]) (.seq (r [o 3 (.mv (.c .nils))] [0,3]) (.seq (.seq (r [o 9 (.mv (.t 0)),
  o 10 (.lenS (.t 9)),o 11 (.mv (i 0))] [3,9,10,11]) (.block 0 (.loop (.seq (r [o 12 (.bin .lss (.t 11) (.t 10))] [3,9,10,11,12]) (.seq (.cond (.t 12) .skip (.exit 0))
  (.seq (.block 1 (.seq (r [o 13 (.ixA 5 (.t 9) (.t 11)),o 14 (.ld (some 5) (.t 13)),o 5 (.alloc [.int .i64 0,.int .i64 0,.bool false,.nils,.nils]),z (.st 5 (.t 5) (.t 14))] [3,5,9,10,11])
  (.seq (.seq (r [o 15 (.mv (.t 3)),o 16 (.lenS (.t 15)),o 17 (.bin .sub (.t 16) (i 1)),o 6 (.mv (.t 17))] [3,5,6,9,10,11]) (.seq (r [o 18 (.mv (.t 6)),o 19 (.bin .geq (.t 18) (i 0)),
  o 20 (.mv (.t 19)),y 21 20 (.mv (.t 3)),y 22 20 (.mv (.t 6)),y 23 20 (.ixA 5 (.t 21) (.t 22)),y 24 20 (.ld (some 5) (.t 23)),y 25 20 (.ld (some 5) (.t 5)),y 26 20 (.callF 55 [(.t 24),(.t 25)]),
  y 27 20 (.bin .eql (.t 26) (i 0)),o 28 (.pick (.t 20) (.t 27) (.c (.bool false)))] [3,5,6,9,10,11,28]) (.cond (.t 28) (.seq (r [o 29 (.mv (.t 3)),o 30 (.mv (.t 6)),o 31 (.mv (.t 3)),
  o 32 (.mv (.t 6)),o 33 (.ixA 5 (.t 31) (.t 32)),o 34 (.fA 2 (.t 33)),o 35 (.ld (some 3) (.t 34)),o 36 (.fA 2 (.t 5)),o 37 (.ld (some 3) (.t 36)),o 38 (.callF 46 [(.t 35),(.t 37)]),
  o 39 (.ixA 5 (.t 29) (.t 30)),o 40 (.fA 2 (.t 39)),z (.st 3 (.t 40) (.t 38))] [3,9,10,11]) (.exit 1)) .skip))) (r [o 41 (.mv (.t 3)),o 42 (.ld (some 5) (.t 5)),o 43 (.buildSl 5 1 [.int .i64 0,
  .int .i64 0,.bool false,.nils,.nils] [(0,(.t 42))]),o 44 (.app 5 72 (.t 41) (.t 43)),o 3 (.mv (.t 44))] [3,9,10,11])))) (r [o 45 (.bin .add (.t 11) (i 1)),o 11 (.mv (.t 45))] [3,9,10,11])))))))
  (.seq (r [o 46 (.mv (.t 3)),o 2 (.mv (.t 46))] [2]) .ret))))),[.t 2]⟩
theorem couple_gathered_ok : cFn Tryz.prog (kps [[0],[0],[0,3],[3,9,10,11],[3,9,10,11,12],[3,5,9,10,11],[3,5,6,9,10,11],[3,5,6,9,10,11,28],[3,9,10,11],[3,9,10,11],[3,9,10,11],[2]]) [] 65 = some couple_gathered_c := by kernel_rfl
abbrev couple_inOrder : Nat := 66
def couple_inOrder_c : MFn :=
  ⟨74,(.seq (r [o 4 (.mv (.c .nils))] [0,1]) (.seq (r [o 5 (.mv (.c .nils))] [0,1,5]) (.seq (.seq (r [o 6 (.mv (i 0)),o 7 (.mv (i 0))] [0,1,5,6,7]) (.block 0 (.loop (.seq (.seq (r [o 9 (.mv (.t 6)),
  o 10 (.mv (.t 0)),o 11 (.lenS (.t 10)),o 12 (.bin .lss (.t 9) (.t 11)),o 13 (.mv (.t 12)),y 14 13 (.mv (.t 7)),y 15 13 (.mv (.t 1)),y 16 13 (.lenS (.t 15)),y 17 13 (.bin .lss (.t 14) (.t 16)),
  o 18 (.pick (.t 13) (.t 17) (.c (.bool false)))] [0,1,5,6,7,18]) (.cond (.t 18) .skip (.exit 0))) (.block 1 (.block 2 (.seq (r [o 54 (.mv (.t 0)),o 55 (.mv (.t 6)),o 56 (.ixA 3 (.t 54) (.t 55)),
  o 57 (.fA 1 (.t 56)),o 58 (.ld none (.t 57)),o 59 (.lenS (.t 58)),o 60 (.bin .eql (.t 59) (i 0)),o 53 (.mv (.t 60))] [0,1,5,6,7,53]) (.cond (.t 53) (r [o 61 (.mv (.t 6)),o 62 (.bin .add (.t 61)
  (i 1)),o 6 (.mv (.t 62))] [0,1,5,6,7]) (.seq (r [o 64 (.mv (.t 1)),o 65 (.mv (.t 7)),o 66 (.ixA 3 (.t 64) (.t 65)),o 67 (.fA 1 (.t 66)),o 68 (.ld none (.t 67)),o 69 (.lenS (.t 68)),
  o 70 (.bin .eql (.t 69) (i 0)),o 63 (.mv (.t 70))] [0,1,5,6,7,63]) (.cond (.t 63) (r [o 71 (.mv (.t 7)),o 72 (.bin .add (.t 71) (i 1)),o 7 (.mv (.t 72))] [0,1,5,6,7]) (.seq (r [o 19 (.mv (.t 0)),
  o 20 (.mv (.t 6)),o 21 (.ixA 3 (.t 19) (.t 20)),o 22 (.ld (some 3) (.t 21)),o 23 (.mv (.t 1)),o 24 (.mv (.t 7)),o 25 (.ixA 3 (.t 23) (.t 24)),o 26 (.ld (some 3) (.t 25)),o 27 (.callF 64 [(.t 22),
  (.t 26)]),o 8 (.alloc [.bool false,.nils,.nils]),z (.st 3 (.t 8) (.t 27))] [0,1,5,6,7,8]) (.seq (r [o 28 (.mv (.t 5)),o 29 (.mv (.t 6)),o 30 (.mv (.t 7)),o 31 (.ld (some 3) (.t 8)),
  o 32 (.build [.int .i64 0,.int .i64 0,.bool false,.nils,.nils] [(0,1,(.t 29)),(1,1,(.t 30)),(2,3,(.t 31))]),o 33 (.buildSl 5 1 [.int .i64 0,.int .i64 0,.bool false,.nils,.nils] [(0,(.t 32))]),
  o 34 (.app 5 72 (.t 28) (.t 33)),o 5 (.mv (.t 34))] [0,1,5,6,7,8]) (r [o 35 (.mv (.t 0)),o 36 (.mv (.t 6)),o 37 (.mv (.t 1)),o 38 (.mv (.t 7)),o 39 (.mv (.t 0)),o 40 (.mv (.t 6)),
  o 41 (.ixA 3 (.t 39) (.t 40)),o 42 (.ld (some 3) (.t 41)),o 43 (.ld (some 3) (.t 8)),o 44 (.callF 56 [(.t 42),(.t 43)]),o 45 (.mv (.t 1)),o 46 (.mv (.t 7)),o 47 (.ixA 3 (.t 45) (.t 46)),
  o 48 (.ld (some 3) (.t 47)),o 49 (.ld (some 3) (.t 8)),o 50 (.callF 56 [(.t 48),(.t 49)]),o 51 (.ixA 3 (.t 35) (.t 36)),z (.st 3 (.t 51) (.t 44)),o 52 (.ixA 3 (.t 37) (.t 38)),z (.st 3 (.t 52)
  (.t 50))] [0,1,5,6,7]))))))))))))) (.seq (r [o 73 (.mv (.t 5)),o 4 (.mv (.t 73))] [4]) .ret)))),[.t 4]⟩
theorem couple_inOrder_ok : cFn Tryz.prog (kps [[0,1],[0,1,5],[0,1,5,6,7],[0,1,5,6,7,18],[0,1,5,6,7,8],[0,1,5,6,7,8],[0,1,5,6,7],[0,1,5,6,7,53],[0,1,5,6,7],[0,1,5,6,7,63],[0,1,5,6,7],[4]]) [] 66 = some couple_inOrder_c := by kernel_rfl
abbrev slices_BinarySearchFunc_Part_Part_Value : Nat := 111
def slices_BinarySearchFunc_Part_Part_Value_c : MFn :=
  ⟨49,(.seq (r [o 4 (.box (.t 1)),o 6 (.mv (i 0)),o 7 (.mv (.c (.bool false)))] [0,2,4]) (.seq (r [o 12 (.mv (.t 0)),o 13 (.lenS (.t 12)),o 8 (.mv (.t 13))] [0,2,4,8]) (.seq (r [o 14 (.mv (.t 8)),
  o 9 (.mv (i 0)),o 10 (.mv (.t 14))] [0,2,4,8,9,10]) (.seq (.block 0 (.loop (.seq (.seq (r [o 15 (.mv (.t 9)),o 16 (.mv (.t 10)),o 17 (.bin .lss (.t 15) (.t 16))] [0,2,4,8,9,10,17]) (.cond (.t 17)
  .skip (.exit 0))) (.block 1 (.seq (r [o 18 (.mv (.t 9)),o 19 (.mv (.t 10)),o 20 (.bin .add (.t 18) (.t 19)),o 21 (.cvt .u64 (.t 20)),o 22 (.bin .shr (.t 21) (.c (.int .u64 1))),
  o 23 (.cvt .i64 (.t 22)),o 11 (.mv (.t 23))] [0,2,4,8,9,10,11]) (.seq (r [o 24 (.mv (.t 2)),o 25 (.mv (.t 0)),o 26 (.mv (.t 11)),o 27 (.ixA 6 (.t 25) (.t 26)),o 28 (.ld (some 6) (.t 27)),
  o 29 (.ld (some 3) (.t 4)),o 30 (.callVF (.t 24) [(.t 28),(.t 29)]),o 31 (.bin .lss (.t 30) (i 0))] [0,2,4,8,9,10,11,31]) (.cond (.t 31) (r [o 32 (.mv (.t 11)),o 33 (.bin .add (.t 32) (i 1)),
  o 9 (.mv (.t 33))] [0,2,4,8,9,10]) (r [o 34 (.mv (.t 11)),o 10 (.mv (.t 34))] [0,2,4,8,9,10])))))))) (.seq (r [o 35 (.mv (.t 9)),o 36 (.mv (.t 9)),o 37 (.mv (.t 8)),o 38 (.bin .lss (.t 36) (.t 37)),
  o 39 (.mv (.t 38)),y 40 39 (.mv (.t 2)),y 41 39 (.mv (.t 0)),y 42 39 (.mv (.t 9)),y 43 39 (.ixA 6 (.t 41) (.t 42)),y 44 39 (.ld (some 6) (.t 43)),y 45 39 (.ld (some 3) (.t 4)),
  y 46 39 (.callVF (.t 40) [(.t 44),(.t 45)]),y 47 39 (.bin .eql (.t 46) (i 0)),o 48 (.pick (.t 39) (.t 47) (.c (.bool false))),o 6 (.mv (.t 35)),o 7 (.mv (.t 48))] [6,7]) .ret))))),[.t 6,.t 7]⟩
theorem slices_BinarySearchFunc_Part_Part_Value_ok : cFn Tryz.prog (kps [[0,2,4],[0,2,4,8],[0,2,4,8,9,10],[0,2,4,8,9,10,17],[0,2,4,8,9,10,11],[0,2,4,8,9,10,11,31],[0,2,4,8,9,10],[0,2,4,8,9,10],[6,7]]) [] 111 = some slices_BinarySearchFunc_Part_Part_Value_c := by kernel_rfl
abbrev couple_place_1 : Nat := 112
def couple_place_1_c : MFn :=
  ⟨9,(.seq (r [o 2 (.box (.t 0)),o 3 (.box (.t 1)),o 4 (.mv (i 0))] [2,3]) (.seq (r [o 5 (.fA 0 (.t 2)),o 6 (.ld (some 3) (.t 5)),o 7 (.ld (some 3) (.t 3)),o 8 (.call 45 [(.t 6),(.t 7)]),
  o 4 (.mv (.t 8))] [4]) .ret)),[.t 4]⟩
theorem couple_place_1_ok : cFn Tryz.prog (kps [[2,3],[4]]) [] 112 = some couple_place_1_c := by kernel_rfl
abbrev slices_SortStableFunc_Pair_Pair : Nat := 114
def slices_SortStableFunc_Pair_Pair_c : MFn :=
  ⟨9,(r [o 4 (.mv (.t 0)),o 5 (.mv (.t 0)),o 6 (.lenS (.t 5)),o 7 (.mv (.t 1)),o 8 (.call 136 [(.t 4),(.t 6),(.t 7)])] []),[]⟩
theorem slices_SortStableFunc_Pair_Pair_ok : cFn Tryz.prog (kps [[]]) [] 114 = some slices_SortStableFunc_Pair_Pair_c := by kernel_rfl
abbrev slices_stableCmpFunc_Pair : Nat := 136
def slices_stableCmpFunc_Pair_c : MFn :=
  ⟨63,(.seq (r [o 6 (.mv (i 20))] [0,1,2,6]) (.seq (r [o 10 (.mv (.t 6)),o 7 (.mv (i 0)),o 8 (.mv (.t 10))] [0,1,2,6,7,8]) (.seq (.block 0 (.loop (.seq (.seq (r [o 11 (.mv (.t 8)),o 12 (.mv (.t 1)),
  o 13 (.bin .leq (.t 11) (.t 12))] [0,1,2,6,7,8,13]) (.cond (.t 13) .skip (.exit 0))) (.block 1 (.seq (r [o 14 (.mv (.t 0)),o 15 (.mv (.t 7)),o 16 (.mv (.t 8)),o 17 (.mv (.t 2)),
  o 18 (.call 148 [(.t 14),(.t 15),(.t 16),(.t 17)])] [0,1,2,6,8]) (.seq (r [o 19 (.mv (.t 8)),o 7 (.mv (.t 19))] [0,1,2,6,7,8]) (r [o 20 (.mv (.t 8)),o 21 (.mv (.t 6)),o 22 (.bin .add (.t 20)
  (.t 21)),o 8 (.mv (.t 22))] [0,1,2,6,7,8]))))))) (.seq (r [o 23 (.mv (.t 0)),o 24 (.mv (.t 7)),o 25 (.mv (.t 1)),o 26 (.mv (.t 2)),o 27 (.call 148 [(.t 23),(.t 24),(.t 25),(.t 26)])] [0,1,2,6])
  (.block 2 (.loop (.seq (.seq (r [o 28 (.mv (.t 6)),o 29 (.mv (.t 1)),o 30 (.bin .lss (.t 28) (.t 29))] [0,1,2,6,30]) (.cond (.t 30) .skip (.exit 2))) (.block 3 (.seq (r [o 31 (.mv (.t 6)),
  o 32 (.bin .mul (i 2) (.t 31)),o 7 (.mv (i 0)),o 8 (.mv (.t 32))] [0,1,2,6,7,8]) (.seq (.block 4 (.loop (.seq (.seq (r [o 33 (.mv (.t 8)),o 34 (.mv (.t 1)),o 35 (.bin .leq (.t 33) (.t 34))] [0,1,2,
  6,7,8,35]) (.cond (.t 35) .skip (.exit 4))) (.block 5 (.seq (r [o 36 (.mv (.t 0)),o 37 (.mv (.t 7)),o 38 (.mv (.t 7)),o 39 (.mv (.t 6)),o 40 (.bin .add (.t 38) (.t 39)),o 41 (.mv (.t 8)),
  o 42 (.mv (.t 2)),o 43 (.call 149 [(.t 36),(.t 37),(.t 40),(.t 41),(.t 42)])] [0,1,2,6,8]) (.seq (r [o 44 (.mv (.t 8)),o 7 (.mv (.t 44))] [0,1,2,6,7,8]) (r [o 45 (.mv (.t 8)),o 46 (.mv (.t 6)),
  o 47 (.bin .mul (i 2) (.t 46)),o 48 (.bin .add (.t 45) (.t 47)),o 8 (.mv (.t 48))] [0,1,2,6,7,8]))))))) (.seq (.seq (r [o 49 (.mv (.t 7)),o 50 (.mv (.t 6)),o 51 (.bin .add (.t 49) (.t 50)),
  o 9 (.mv (.t 51))] [0,1,2,6,7,9]) (.seq (r [o 52 (.mv (.t 9)),o 53 (.mv (.t 1)),o 54 (.bin .lss (.t 52) (.t 53))] [0,1,2,6,7,9,54]) (.cond (.t 54) (r [o 55 (.mv (.t 0)),o 56 (.mv (.t 7)),
  o 57 (.mv (.t 9)),o 58 (.mv (.t 1)),o 59 (.mv (.t 2)),o 60 (.call 149 [(.t 55),(.t 56),(.t 57),(.t 58),(.t 59)])] [0,1,2,6]) .skip))) (r [o 61 (.mv (.t 6)),o 62 (.bin .mul (.t 61) (i 2)),
  o 6 (.mv (.t 62))] [0,1,2,6])))))))))))),[]⟩
theorem slices_stableCmpFunc_Pair_ok : cFn Tryz.prog (kps [[0,1,2,6],[0,1,2,6,7,8],[0,1,2,6,7,8,13],[0,1,2,6,8],[0,1,2,6,7,8],[0,1,2,6,7,8],[0,1,2,6],[0,1,2,6,30],[0,1,2,6,7,8],[0,1,2,6,7,8,35],[0,1,2,6,8],[0,1,2,6,7,8],[0,1,2,6,7,8],[0,1,2,6,7,9],[0,1,2,6,7,9,54],[0,1,2,6],[0,1,2,6]]) [] 136 = some slices_stableCmpFunc_Pair_c := by kernel_rfl
abbrev slices_EqualFunc_Type_Value_Type_Value : Nat := 140
def slices_EqualFunc_Type_Value_Type_Value_c : MFn :=
  ⟨32,(.seq (r [o 6 (.mv (.c (.bool false)))] [0,1,2]) (.seq (.seq (r [o 10 (.mv (.t 0)),o 11 (.lenS (.t 10)),o 12 (.mv (.t 1)),o 13 (.lenS (.t 12)),o 14 (.bin .neq (.t 11) (.t 13))] [0,1,2,14])
  (.cond (.t 14) (.seq (r [o 6 (.mv (.c (.bool false)))] [6]) .ret) .skip)) (.seq (.seq (r [o 15 (.mv (.t 0)),o 16 (.lenS (.t 15)),o 17 (.mv (i 0))] [1,2,15,16,17])
  (.block 0 (.loop (.seq (r [o 18 (.bin .lss (.t 17) (.t 16))] [1,2,15,16,17,18]) (.seq (.cond (.t 18) .skip (.exit 0)) (.seq (.block 1 (.seq (r [o 19 (.mv (.t 17)),o 20 (.ixA 2 (.t 15) (.t 17)),
  o 21 (.ld (some 2) (.t 20)),o 8 (.alloc [.int .i64 0,.nils]),o 7 (.mv (.t 19)),z (.st 2 (.t 8) (.t 21))] [1,2,7,8,15,16,17]) (.seq (r [o 22 (.mv (.t 1)),o 23 (.mv (.t 7)),o 24 (.ixA 3 (.t 22)
  (.t 23)),o 25 (.ld (some 3) (.t 24)),o 9 (.alloc [.int .i64 0,.int .i64 0,.nils]),z (.st 3 (.t 9) (.t 25))] [1,2,8,9,15,16,17]) (.seq (r [o 26 (.mv (.t 2)),o 27 (.ld (some 2) (.t 8)),
  o 28 (.ld (some 3) (.t 9)),o 29 (.callV (.t 26) [(.t 27),(.t 28)]),o 30 (.un .not (.t 29))] [1,2,15,16,17,30]) (.cond (.t 30) (.seq (r [o 6 (.mv (.c (.bool false)))] [6]) .ret) .skip)))))
  (r [o 31 (.bin .add (.t 17) (i 1)),o 17 (.mv (.t 31))] [1,2,15,16,17]))))))) (.seq (r [o 6 (.mv (.c (.bool true)))] [6]) .ret)))),[.t 6]⟩
theorem slices_EqualFunc_Type_Value_Type_Value_ok : cFn Tryz.prog (kps [[0,1,2],[0,1,2,14],[6],[1,2,15,16,17],[1,2,15,16,17,18],[1,2,7,8,15,16,17],[1,2,8,9,15,16,17],[1,2,15,16,17,30],[6],[1,2,15,16,17],[6]]) [] 140 = some slices_EqualFunc_Type_Value_Type_Value_c := by kernel_rfl
abbrev slices_ContainsFunc_Value_Value : Nat := 141
def slices_ContainsFunc_Value_Value_c : MFn :=
  ⟨9,(.seq (r [o 4 (.mv (.c (.bool false)))] [0,1]) (.seq (r [o 5 (.mv (.t 0)),o 6 (.mv (.t 1)),o 7 (.call 150 [(.t 5),(.t 6)]),o 8 (.bin .geq (.t 7) (i 0)),o 4 (.mv (.t 8))] [4]) .ret)),[.t 4]⟩
theorem slices_ContainsFunc_Value_Value_ok : cFn Tryz.prog (kps [[0,1],[4]]) [] 141 = some slices_ContainsFunc_Value_Value_c := by kernel_rfl
abbrev value_has_1 : Nat := 142
def value_has_1_c : MFn :=
  ⟨11,(.seq (r [o 2 (.box (.t 0)),o 3 (.mv (.c (.bool false)))] [1,2]) (.seq (r [o 4 (.fA 1 (.t 1)),o 5 (.ld none (.t 4)),o 6 (.ixA 2 (.t 5) (i 0)),o 7 (.ld (some 2) (.t 6)),o 8 (.ld (some 3) (.t 2)),
  o 9 (.callF 124 [(.t 7),(.t 8)]),o 10 (.un .not (.t 9)),o 3 (.mv (.t 10))] [3]) .ret)),[.t 3]⟩
theorem value_has_1_ok : cFn Tryz.prog (kps [[1,2],[3]]) [] 142 = some value_has_1_c := by kernel_rfl
abbrev slices_insertionSortCmpFunc_Pair : Nat := 148
def slices_insertionSortCmpFunc_Pair_c : MFn :=
  ⟨53,(.seq (r [o 10 (.mv (.t 1)),o 11 (.bin .add (.t 10) (i 1)),o 8 (.mv (.t 11))] [0,1,2,3,8]) (.block 0 (.loop (.seq (.seq (r [o 12 (.mv (.t 8)),o 13 (.mv (.t 2)),o 14 (.bin .lss (.t 12)
  (.t 13))] [0,1,2,3,8,14]) (.cond (.t 14) .skip (.exit 0))) (.seq (.block 1 (.seq (r [o 17 (.mv (.t 8)),o 9 (.mv (.t 17))] [0,1,2,3,8,9]) (.block 2 (.loop (.seq (.seq (r [o 18 (.mv (.t 9)),
  o 19 (.mv (.t 1)),o 20 (.bin .gtr (.t 18) (.t 19)),o 21 (.mv (.t 20)),y 22 21 (.mv (.t 3)),y 23 21 (.mv (.t 0)),y 24 21 (.mv (.t 9)),y 25 21 (.ixA 5 (.t 23) (.t 24)),y 26 21 (.ld (some 5) (.t 25)),
  y 27 21 (.mv (.t 0)),y 28 21 (.mv (.t 9)),y 29 21 (.bin .sub (.t 28) (i 1)),y 30 21 (.ixA 5 (.t 27) (.t 29)),y 31 21 (.ld (some 5) (.t 30)),y 32 21 (.callVF (.t 22) [(.t 26),(.t 31)]),
  y 33 21 (.bin .lss (.t 32) (i 0)),o 34 (.pick (.t 21) (.t 33) (.c (.bool false)))] [0,1,2,3,8,9,34]) (.cond (.t 34) .skip (.exit 2))) (.seq (.block 3 (r [o 37 (.mv (.t 0)),o 38 (.mv (.t 9)),
  o 39 (.mv (.t 0)),o 40 (.mv (.t 9)),o 41 (.bin .sub (.t 40) (i 1)),o 42 (.mv (.t 0)),o 43 (.mv (.t 9)),o 44 (.bin .sub (.t 43) (i 1)),o 45 (.ixA 5 (.t 42) (.t 44)),o 46 (.ld (some 5) (.t 45)),
  o 47 (.mv (.t 0)),o 48 (.mv (.t 9)),o 49 (.ixA 5 (.t 47) (.t 48)),o 50 (.ld (some 5) (.t 49)),o 51 (.ixA 5 (.t 37) (.t 38)),z (.st 5 (.t 51) (.t 46)),o 52 (.ixA 5 (.t 39) (.t 41)),z (.st 5 (.t 52)
  (.t 50))] [0,1,2,3,8,9])) (r [o 35 (.mv (.t 9)),o 36 (.bin .sub (.t 35) (i 1)),o 9 (.mv (.t 36))] [0,1,2,3,8,9]))))))) (r [o 15 (.mv (.t 8)),o 16 (.bin .add (.t 15) (i 1)),o 8 (.mv (.t 16))] [0,1,2,
  3,8])))))),[]⟩
theorem slices_insertionSortCmpFunc_Pair_ok : cFn Tryz.prog (kps [[0,1,2,3,8],[0,1,2,3,8,14],[0,1,2,3,8],[0,1,2,3,8,9],[0,1,2,3,8,9,34],[0,1,2,3,8,9],[0,1,2,3,8,9]]) [] 148 = some slices_insertionSortCmpFunc_Pair_c := by kernel_rfl
abbrev slices_symMergeCmpFunc_Pair : Nat := 149
def slices_symMergeCmpFunc_Pair_c : MFn :=
  ⟨220,(.seq (.seq (r [o 25 (.mv (.t 2)),o 26 (.mv (.t 1)),o 27 (.bin .sub (.t 25) (.t 26)),o 28 (.bin .eql (.t 27) (i 1))] [0,1,2,3,4,28]) (.cond (.t 28) (.seq (r [o 29 (.mv (.t 2)),
  o 10 (.mv (.t 29))] [0,1,3,4,10]) (.seq (r [o 30 (.mv (.t 3)),o 11 (.mv (.t 30))] [0,1,4,10,11]) (.seq (.block 0 (.loop (.seq (.seq (r [o 31 (.mv (.t 10)),o 32 (.mv (.t 11)),o 33 (.bin .lss (.t 31)
  (.t 32))] [0,1,4,10,11,33]) (.cond (.t 33) .skip (.exit 0))) (.block 1 (.seq (r [o 34 (.mv (.t 10)),o 35 (.mv (.t 11)),o 36 (.bin .add (.t 34) (.t 35)),o 37 (.cvt .u64 (.t 36)),
  o 38 (.bin .shr (.t 37) (.c (.int .u64 1))),o 39 (.cvt .i64 (.t 38)),o 12 (.mv (.t 39))] [0,1,4,10,11,12]) (.seq (r [o 40 (.mv (.t 4)),o 41 (.mv (.t 0)),o 42 (.mv (.t 12)),o 43 (.ixA 5 (.t 41)
  (.t 42)),o 44 (.ld (some 5) (.t 43)),o 45 (.mv (.t 0)),o 46 (.mv (.t 1)),o 47 (.ixA 5 (.t 45) (.t 46)),o 48 (.ld (some 5) (.t 47)),o 49 (.callVF (.t 40) [(.t 44),(.t 48)]),o 50 (.bin .lss (.t 49)
  (i 0))] [0,1,4,10,11,12,50]) (.cond (.t 50) (r [o 51 (.mv (.t 12)),o 52 (.bin .add (.t 51) (i 1)),o 10 (.mv (.t 52))] [0,1,4,10,11]) (r [o 53 (.mv (.t 12)),o 11 (.mv (.t 53))] [0,1,4,10,11]))))))))
  (.seq (.seq (r [o 54 (.mv (.t 1)),o 13 (.mv (.t 54))] [0,10,13]) (.block 2 (.loop (.seq (.seq (r [o 55 (.mv (.t 13)),o 56 (.mv (.t 10)),o 57 (.bin .sub (.t 56) (i 1)),o 58 (.bin .lss (.t 55)
  (.t 57))] [0,10,13,58]) (.cond (.t 58) .skip (.exit 2))) (.seq (.block 3 (r [o 61 (.mv (.t 0)),o 62 (.mv (.t 13)),o 63 (.mv (.t 0)),o 64 (.mv (.t 13)),o 65 (.bin .add (.t 64) (i 1)),
  o 66 (.mv (.t 0)),o 67 (.mv (.t 13)),o 68 (.bin .add (.t 67) (i 1)),o 69 (.ixA 5 (.t 66) (.t 68)),o 70 (.ld (some 5) (.t 69)),o 71 (.mv (.t 0)),o 72 (.mv (.t 13)),o 73 (.ixA 5 (.t 71) (.t 72)),
  o 74 (.ld (some 5) (.t 73)),o 75 (.ixA 5 (.t 61) (.t 62)),z (.st 5 (.t 75) (.t 70)),o 76 (.ixA 5 (.t 63) (.t 65)),z (.st 5 (.t 76) (.t 74))] [0,10,13])) (r [o 59 (.mv (.t 13)),
  o 60 (.bin .add (.t 59) (i 1)),o 13 (.mv (.t 60))] [0,10,13])))))) .ret)))) .skip)) (.seq (.seq (r [o 77 (.mv (.t 3)),o 78 (.mv (.t 2)),o 79 (.bin .sub (.t 77) (.t 78)),o 80 (.bin .eql (.t 79)
  (i 1))] [0,1,2,3,4,80]) (.cond (.t 80) (.seq (r [o 81 (.mv (.t 1)),o 14 (.mv (.t 81))] [0,2,4,14]) (.seq (r [o 82 (.mv (.t 2)),o 15 (.mv (.t 82))] [0,2,4,14,15])
  (.seq (.block 4 (.loop (.seq (.seq (r [o 83 (.mv (.t 14)),o 84 (.mv (.t 15)),o 85 (.bin .lss (.t 83) (.t 84))] [0,2,4,14,15,85]) (.cond (.t 85) .skip (.exit 4)))
  (.block 5 (.seq (r [o 86 (.mv (.t 14)),o 87 (.mv (.t 15)),o 88 (.bin .add (.t 86) (.t 87)),o 89 (.cvt .u64 (.t 88)),o 90 (.bin .shr (.t 89) (.c (.int .u64 1))),o 91 (.cvt .i64 (.t 90)),
  o 16 (.mv (.t 91))] [0,2,4,14,15,16]) (.seq (r [o 92 (.mv (.t 4)),o 93 (.mv (.t 0)),o 94 (.mv (.t 2)),o 95 (.ixA 5 (.t 93) (.t 94)),o 96 (.ld (some 5) (.t 95)),o 97 (.mv (.t 0)),o 98 (.mv (.t 16)),
  o 99 (.ixA 5 (.t 97) (.t 98)),o 100 (.ld (some 5) (.t 99)),o 101 (.callVF (.t 92) [(.t 96),(.t 100)]),o 102 (.bin .lss (.t 101) (i 0)),o 103 (.un .not (.t 102))] [0,2,4,14,15,16,103])
  (.cond (.t 103) (r [o 104 (.mv (.t 16)),o 105 (.bin .add (.t 104) (i 1)),o 14 (.mv (.t 105))] [0,2,4,14,15]) (r [o 106 (.mv (.t 16)),o 15 (.mv (.t 106))] [0,2,4,14,15]))))))))
  (.seq (.seq (r [o 107 (.mv (.t 2)),o 17 (.mv (.t 107))] [0,14,17]) (.block 6 (.loop (.seq (.seq (r [o 108 (.mv (.t 17)),o 109 (.mv (.t 14)),o 110 (.bin .gtr (.t 108) (.t 109))] [0,14,17,110])
  (.cond (.t 110) .skip (.exit 6))) (.seq (.block 7 (r [o 113 (.mv (.t 0)),o 114 (.mv (.t 17)),o 115 (.mv (.t 0)),o 116 (.mv (.t 17)),o 117 (.bin .sub (.t 116) (i 1)),o 118 (.mv (.t 0)),
  o 119 (.mv (.t 17)),o 120 (.bin .sub (.t 119) (i 1)),o 121 (.ixA 5 (.t 118) (.t 120)),o 122 (.ld (some 5) (.t 121)),o 123 (.mv (.t 0)),o 124 (.mv (.t 17)),o 125 (.ixA 5 (.t 123) (.t 124)),
  o 126 (.ld (some 5) (.t 125)),o 127 (.ixA 5 (.t 113) (.t 114)),z (.st 5 (.t 127) (.t 122)),o 128 (.ixA 5 (.t 115) (.t 117)),z (.st 5 (.t 128) (.t 126))] [0,14,17])) (r [o 111 (.mv (.t 17)),
  o 112 (.bin .sub (.t 111) (i 1)),o 17 (.mv (.t 112))] [0,14,17])))))) .ret)))) .skip)) (.seq (r [o 129 (.mv (.t 1)),o 130 (.mv (.t 3)),o 131 (.bin .add (.t 129) (.t 130)),o 132 (.cvt .u64 (.t 131)),
  o 133 (.bin .shr (.t 132) (.c (.int .u64 1))),o 134 (.cvt .i64 (.t 133)),o 18 (.mv (.t 134))] [0,1,2,3,4,18]) (.seq (r [o 135 (.mv (.t 18)),o 136 (.mv (.t 2)),o 137 (.bin .add (.t 135) (.t 136)),
  o 19 (.mv (.t 137))] [0,1,2,3,4,18,19]) (.seq (r [o 20 (.mv (i 0)),o 21 (.mv (i 0))] [0,1,2,3,4,18,19]) (.seq (.seq (r [o 138 (.mv (.t 2)),o 139 (.mv (.t 18)),o 140 (.bin .gtr (.t 138)
  (.t 139))] [0,1,2,3,4,18,19,140]) (.cond (.t 140) (.seq (r [o 141 (.mv (.t 19)),o 142 (.mv (.t 3)),o 143 (.bin .sub (.t 141) (.t 142)),o 20 (.mv (.t 143))] [0,1,2,3,4,18,19,20])
  (r [o 144 (.mv (.t 18)),o 21 (.mv (.t 144))] [0,1,2,3,4,18,19,20,21])) (.seq (r [o 145 (.mv (.t 1)),o 20 (.mv (.t 145))] [0,1,2,3,4,18,19,20]) (r [o 146 (.mv (.t 2)),o 21 (.mv (.t 146))] [0,1,2,3,4,
  18,19,20,21])))) (.seq (r [o 147 (.mv (.t 19)),o 148 (.bin .sub (.t 147) (i 1)),o 22 (.mv (.t 148))] [0,1,2,3,4,18,19,20,21,22]) (.seq (.block 8 (.loop (.seq (.seq (r [o 149 (.mv (.t 20)),
  o 150 (.mv (.t 21)),o 151 (.bin .lss (.t 149) (.t 150))] [0,1,2,3,4,18,19,20,21,22,151]) (.cond (.t 151) .skip (.exit 8))) (.block 9 (.seq (r [o 152 (.mv (.t 20)),o 153 (.mv (.t 21)),
  o 154 (.bin .add (.t 152) (.t 153)),o 155 (.cvt .u64 (.t 154)),o 156 (.bin .shr (.t 155) (.c (.int .u64 1))),o 157 (.cvt .i64 (.t 156)),o 23 (.mv (.t 157))] [0,1,2,3,4,18,19,20,21,22,23])
  (.seq (r [o 158 (.mv (.t 4)),o 159 (.mv (.t 0)),o 160 (.mv (.t 22)),o 161 (.mv (.t 23)),o 162 (.bin .sub (.t 160) (.t 161)),o 163 (.ixA 5 (.t 159) (.t 162)),o 164 (.ld (some 5) (.t 163)),
  o 165 (.mv (.t 0)),o 166 (.mv (.t 23)),o 167 (.ixA 5 (.t 165) (.t 166)),o 168 (.ld (some 5) (.t 167)),o 169 (.callVF (.t 158) [(.t 164),(.t 168)]),o 170 (.bin .lss (.t 169) (i 0)),
  o 171 (.un .not (.t 170))] [0,1,2,3,4,18,19,20,21,22,23,171]) (.cond (.t 171) (r [o 172 (.mv (.t 23)),o 173 (.bin .add (.t 172) (i 1)),o 20 (.mv (.t 173))] [0,1,2,3,4,18,19,20,21,22])
  (r [o 174 (.mv (.t 23)),o 21 (.mv (.t 174))] [0,1,2,3,4,18,19,20,21,22])))))))) (.seq (r [o 175 (.mv (.t 19)),o 176 (.mv (.t 20)),o 177 (.bin .sub (.t 175) (.t 176)),o 24 (.mv (.t 177))] [0,1,2,3,4,
  18,20,24]) (.seq (.seq (r [o 178 (.mv (.t 20)),o 179 (.mv (.t 2)),o 180 (.bin .lss (.t 178) (.t 179)),o 181 (.mv (.t 180)),y 182 181 (.mv (.t 2)),y 183 181 (.mv (.t 24)),
  y 184 181 (.bin .lss (.t 182) (.t 183)),o 185 (.pick (.t 181) (.t 184) (.c (.bool false)))] [0,1,2,3,4,18,20,24,185]) (.cond (.t 185) (r [o 186 (.mv (.t 0)),o 187 (.mv (.t 20)),o 188 (.mv (.t 2)),
  o 189 (.mv (.t 24)),o 190 (.mv (.t 4)),o 191 (.call 153 [(.t 186),(.t 187),(.t 188),(.t 189),(.t 190)])] [0,1,3,4,18,20,24]) .skip)) (.seq (.seq (r [o 192 (.mv (.t 1)),o 193 (.mv (.t 20)),
  o 194 (.bin .lss (.t 192) (.t 193)),o 195 (.mv (.t 194)),y 196 195 (.mv (.t 20)),y 197 195 (.mv (.t 18)),y 198 195 (.bin .lss (.t 196) (.t 197)),o 199 (.pick (.t 195) (.t 198)
  (.c (.bool false)))] [0,1,3,4,18,20,24,199]) (.cond (.t 199) (r [o 200 (.mv (.t 0)),o 201 (.mv (.t 1)),o 202 (.mv (.t 20)),o 203 (.mv (.t 18)),o 204 (.mv (.t 4)),o 205 (.call 149 [(.t 200),(.t 201),
  (.t 202),(.t 203),(.t 204)])] [0,3,4,18,24]) .skip)) (.seq (r [o 206 (.mv (.t 18)),o 207 (.mv (.t 24)),o 208 (.bin .lss (.t 206) (.t 207)),o 209 (.mv (.t 208)),y 210 209 (.mv (.t 24)),
  y 211 209 (.mv (.t 3)),y 212 209 (.bin .lss (.t 210) (.t 211)),o 213 (.pick (.t 209) (.t 212) (.c (.bool false)))] [0,3,4,18,24,213]) (.cond (.t 213) (r [o 214 (.mv (.t 0)),o 215 (.mv (.t 18)),
  o 216 (.mv (.t 24)),o 217 (.mv (.t 3)),o 218 (.mv (.t 4)),o 219 (.call 149 [(.t 214),(.t 215),(.t 216),(.t 217),(.t 218)])] []) .skip))))))))))))),[]⟩
theorem slices_symMergeCmpFunc_Pair_ok : cFn Tryz.prog (kps [[0,1,2,3,4,28],[0,1,3,4,10],[0,1,4,10,11],[0,1,4,10,11,33],[0,1,4,10,11,12],[0,1,4,10,11,12,50],[0,1,4,10,11],[0,1,4,10,11],[0,10,13],[0,10,13,58],[0,10,13],[0,10,13],[0,1,2,3,4,80],[0,2,4,14],[0,2,4,14,15],[0,2,4,14,15,85],[0,2,4,14,15,16],[0,2,4,14,15,16,103],[0,2,4,14,15],[0,2,4,14,15],[0,14,17],[0,14,17,110],[0,14,17],[0,14,17],[0,1,2,3,4,18],[0,1,2,3,4,18,19],[0,1,2,3,4,18,19],[0,1,2,3,4,18,19,140],[0,1,2,3,4,18,19,20],[0,1,2,3,4,18,19,20,21],[0,1,2,3,4,18,19,20],[0,1,2,3,4,18,19,20,21],[0,1,2,3,4,18,19,20,21,22],[0,1,2,3,4,18,19,20,21,22,151],[0,1,2,3,4,18,19,20,21,22,23],[0,1,2,3,4,18,19,20,21,22,23,171],[0,1,2,3,4,18,19,20,21,22],[0,1,2,3,4,18,19,20,21,22],[0,1,2,3,4,18,20,24],[0,1,2,3,4,18,20,24,185],[0,1,3,4,18,20,24],[0,1,3,4,18,20,24,199],[0,3,4,18,24],[0,3,4,18,24,213],[]]) [] 149 = some slices_symMergeCmpFunc_Pair_c := by kernel_rfl
abbrev slices_IndexFunc_Value_Value : Nat := 150
def slices_IndexFunc_Value_Value_c : MFn :=
  ⟨19,(.seq (r [o 4 (.mv (i 0))] [0,1]) (.seq (.seq (r [o 6 (.mv (.t 0)),o 7 (.lenS (.t 6)),o 8 (.mv (i 0))] [0,1,7,8]) (.block 0 (.loop (.seq (r [o 9 (.bin .lss (.t 8) (.t 7))] [0,1,7,8,9])
  (.seq (.cond (.t 9) .skip (.exit 0)) (.seq (.block 1 (.seq (r [o 10 (.mv (.t 8)),o 5 (.mv (.t 10))] [0,1,5,7,8]) (.seq (r [o 11 (.mv (.t 1)),o 12 (.mv (.t 0)),o 13 (.mv (.t 5)),o 14 (.ixA 3 (.t 12)
  (.t 13)),o 15 (.ld (some 3) (.t 14)),o 16 (.callV (.t 11) [(.t 15)])] [0,1,5,7,8,16]) (.cond (.t 16) (.seq (r [o 17 (.mv (.t 5)),o 4 (.mv (.t 17))] [4]) .ret) .skip)))) (r [o 18 (.bin .add (.t 8)
  (i 1)),o 8 (.mv (.t 18))] [0,1,7,8]))))))) (.seq (r [o 4 (.mv (i (-1)))] [4]) .ret))),[.t 4]⟩
theorem slices_IndexFunc_Value_Value_ok : cFn Tryz.prog (kps [[0,1],[0,1,7,8],[0,1,7,8,9],[0,1,5,7,8],[0,1,5,7,8,16],[4],[0,1,7,8],[4]]) [] 150 = some slices_IndexFunc_Value_Value_c := by kernel_rfl
abbrev slices_rotateCmpFunc_Pair : Nat := 153
def slices_rotateCmpFunc_Pair_c : MFn :=
  ⟨58,(.seq (r [o 12 (.mv (.t 2)),o 13 (.mv (.t 1)),o 14 (.bin .sub (.t 12) (.t 13)),o 10 (.mv (.t 14))] [0,2,3,4,10]) (.seq (r [o 15 (.mv (.t 3)),o 16 (.mv (.t 2)),o 17 (.bin .sub (.t 15) (.t 16)),
  o 11 (.mv (.t 17))] [0,2,4,10,11]) (.seq (.block 0 (.loop (.seq (.seq (r [o 18 (.mv (.t 10)),o 19 (.mv (.t 11)),o 20 (.bin .neq (.t 18) (.t 19))] [0,2,4,10,11,20]) (.cond (.t 20) .skip (.exit 0)))
  (.block 1 (.seq (r [o 21 (.mv (.t 10)),o 22 (.mv (.t 11)),o 23 (.bin .gtr (.t 21) (.t 22))] [0,2,4,10,11,23]) (.cond (.t 23) (.seq (r [o 24 (.mv (.t 0)),o 25 (.mv (.t 2)),o 26 (.mv (.t 10)),
  o 27 (.bin .sub (.t 25) (.t 26)),o 28 (.mv (.t 2)),o 29 (.mv (.t 11)),o 30 (.mv (.t 4)),o 31 (.call 154 [(.t 24),(.t 27),(.t 28),(.t 29),(.t 30)])] [0,2,4,10,11]) (r [o 32 (.mv (.t 10)),
  o 33 (.mv (.t 11)),o 34 (.bin .sub (.t 32) (.t 33)),o 10 (.mv (.t 34))] [0,2,4,10,11])) (.seq (r [o 35 (.mv (.t 0)),o 36 (.mv (.t 2)),o 37 (.mv (.t 10)),o 38 (.bin .sub (.t 36) (.t 37)),
  o 39 (.mv (.t 2)),o 40 (.mv (.t 11)),o 41 (.bin .add (.t 39) (.t 40)),o 42 (.mv (.t 10)),o 43 (.bin .sub (.t 41) (.t 42)),o 44 (.mv (.t 10)),o 45 (.mv (.t 4)),o 46 (.call 154 [(.t 35),(.t 38),
  (.t 43),(.t 44),(.t 45)])] [0,2,4,10,11]) (r [o 47 (.mv (.t 11)),o 48 (.mv (.t 10)),o 49 (.bin .sub (.t 47) (.t 48)),o 11 (.mv (.t 49))] [0,2,4,10,11])))))))) (r [o 50 (.mv (.t 0)),
  o 51 (.mv (.t 2)),o 52 (.mv (.t 10)),o 53 (.bin .sub (.t 51) (.t 52)),o 54 (.mv (.t 2)),o 55 (.mv (.t 10)),o 56 (.mv (.t 4)),o 57 (.call 154 [(.t 50),(.t 53),(.t 54),(.t 55),(.t 56)])] [])))),[]⟩
theorem slices_rotateCmpFunc_Pair_ok : cFn Tryz.prog (kps [[0,2,3,4,10],[0,2,4,10,11],[0,2,4,10,11,20],[0,2,4,10,11,23],[0,2,4,10,11],[0,2,4,10,11],[0,2,4,10,11],[0,2,4,10,11],[]]) [] 153 = some slices_rotateCmpFunc_Pair_c := by kernel_rfl
abbrev slices_swapRangeCmpFunc_Pair : Nat := 154
def slices_swapRangeCmpFunc_Pair_c : MFn :=
  ⟨38,(.seq (r [o 10 (.mv (i 0))] [0,1,2,3,10]) (.block 0 (.loop (.seq (.seq (r [o 11 (.mv (.t 10)),o 12 (.mv (.t 3)),o 13 (.bin .lss (.t 11) (.t 12))] [0,1,2,3,10,13]) (.cond (.t 13) .skip (.exit 0)))
  (.seq (.block 1 (r [o 16 (.mv (.t 0)),o 17 (.mv (.t 1)),o 18 (.mv (.t 10)),o 19 (.bin .add (.t 17) (.t 18)),o 20 (.mv (.t 0)),o 21 (.mv (.t 2)),o 22 (.mv (.t 10)),o 23 (.bin .add (.t 21) (.t 22)),
  o 24 (.mv (.t 0)),o 25 (.mv (.t 2)),o 26 (.mv (.t 10)),o 27 (.bin .add (.t 25) (.t 26)),o 28 (.ixA 5 (.t 24) (.t 27)),o 29 (.ld (some 5) (.t 28)),o 30 (.mv (.t 0)),o 31 (.mv (.t 1)),
  o 32 (.mv (.t 10)),o 33 (.bin .add (.t 31) (.t 32)),o 34 (.ixA 5 (.t 30) (.t 33)),o 35 (.ld (some 5) (.t 34)),o 36 (.ixA 5 (.t 16) (.t 19)),z (.st 5 (.t 36) (.t 29)),o 37 (.ixA 5 (.t 20) (.t 23)),
  z (.st 5 (.t 37) (.t 35))] [0,1,2,3,10])) (r [o 14 (.mv (.t 10)),o 15 (.bin .add (.t 14) (i 1)),o 10 (.mv (.t 15))] [0,1,2,3,10])))))),[]⟩
theorem slices_swapRangeCmpFunc_Pair_ok : cFn Tryz.prog (kps [[0,1,2,3,10],[0,1,2,3,10,13],[0,1,2,3,10],[0,1,2,3,10]]) [] 154 = some slices_swapRangeCmpFunc_Pair_c := by kernel_rfl
end Go.Proofs.YtnneehniendnfaaGreat.F

namespace Go.Proofs.YtnneehniendnfaaGreat
open Go Go.Proofs Go.Proofs.YtnneehniendnfaaGreat.E
def TAliveT (f : Nat) : Option MFn :=
  (match Nat.blt f 96 with
  | true =>
    (match Nat.blt f 57 with
    | true =>
      (match Nat.blt f 42 with
      | true =>
        (match Nat.blt f 24 with
        | true =>
          (match Nat.blt f 19 with
          | true =>
            (match Nat.blt f 16 with
            | true =>
              (match Nat.beq f 14 with | true => some F.couple_Right_c | false => none)
            | false =>
              (match Nat.beq f 16 with | true => some F.couple_Couples_c | false => none))
          | false =>
            (match Nat.blt f 20 with
            | true =>
              (match Nat.beq f 19 with | true => some F.law35_alive_c | false => none)
            | false =>
              (match Nat.blt f 22 with
              | true =>
                (match Nat.beq f 20 with | true => some F.couple_Apart_c | false => none)
              | false =>
                (match Nat.beq f 22 with | true => some F.couple_Best_c | false => none))))
        | false =>
          (match Nat.blt f 30 with
          | true =>
            (match Nat.blt f 27 with
            | true =>
              (match Nat.beq f 24 with | true => some F.ref02_Same_c | false => none)
            | false =>
              (match Nat.blt f 29 with
              | true =>
                (match Nat.beq f 27 with | true => some F.ref02_Compare_c | false => none)
              | false =>
                (match Nat.beq f 29 with | true => some F.ref02_Zero_c | false => none)))
          | false =>
            (match Nat.blt f 31 with
            | true =>
              (match Nat.beq f 30 with | true => some F.ref02_Add_c | false => none)
            | false =>
              (match Nat.blt f 41 with
              | true =>
                (match Nat.beq f 31 with | true => some F.ref02_Sub_c | false => none)
              | false =>
                (match Nat.beq f 41 with | true => some F.ratio_Zero_c | false => none)))))
      | false =>
        (match Nat.blt f 48 with
        | true =>
          (match Nat.blt f 45 with
          | true =>
            (match Nat.blt f 43 with
            | true =>
              (match Nat.beq f 42 with | true => some F.value_Right_c | false => none)
            | false =>
              (match Nat.blt f 44 with
              | true =>
                (match Nat.beq f 43 with | true => some F.ratio_Right_c | false => none)
              | false =>
                (match Nat.beq f 44 with | true => some F.ratio_Sign_c | false => none)))
          | false =>
            (match Nat.blt f 46 with
            | true =>
              (match Nat.beq f 45 with | true => some F.value_Compare_c | false => none)
            | false =>
              (match Nat.blt f 47 with
              | true =>
                (match Nat.beq f 46 with | true => some F.ratio_Add_c | false => none)
              | false =>
                (match Nat.beq f 47 with | true => some F.ratio_Same_c | false => none))))
        | false =>
          (match Nat.blt f 54 with
          | true =>
            (match Nat.blt f 51 with
            | true =>
              (match Nat.beq f 48 with | true => some F.ratio_One_c | false => none)
            | false =>
              (match Nat.blt f 53 with
              | true =>
                (match Nat.beq f 51 with | true => some F.ref02_Sign_c | false => none)
              | false =>
                (match Nat.beq f 53 with | true => some F.ref02_One_c | false => none)))
          | false =>
            (match Nat.blt f 55 with
            | true =>
              (match Nat.beq f 54 with | true => some F.couple_weights_c | false => none)
            | false =>
              (match Nat.blt f 56 with
              | true =>
                (match Nat.beq f 55 with | true => some F.couple_compare_c | false => none)
              | false =>
                (match Nat.beq f 56 with | true => some F.ratio_Sub_c | false => none))))))
    | false =>
      (match Nat.blt f 76 with
      | true =>
        (match Nat.blt f 65 with
        | true =>
          (match Nat.blt f 60 with
          | true =>
            (match Nat.blt f 58 with
            | true =>
              (match Nat.beq f 57 with | true => some F.slices_ContainsFunc_Ratio_Ratio_c | false => none)
            | false =>
              (match Nat.blt f 59 with
              | true =>
                (match Nat.beq f 58 with | true => some F.couple_Couples_1_c | false => none)
              | false =>
                (match Nat.beq f 59 with | true => some F.law35_sure_c | false => none)))
          | false =>
            (match Nat.blt f 61 with
            | true =>
              (match Nat.beq f 60 with | true => some F.couple_place_c | false => none)
            | false =>
              (match Nat.blt f 64 with
              | true =>
                (match Nat.beq f 61 with | true => some F.ref02_Neg_c | false => none)
              | false =>
                (match Nat.beq f 64 with | true => some F.ratio_Least_c | false => none))))
        | false =>
          (match Nat.blt f 73 with
          | true =>
            (match Nat.blt f 66 with
            | true =>
              (match Nat.beq f 65 with | true => some F.couple_gathered_c | false => none)
            | false =>
              (match Nat.blt f 72 with
              | true =>
                (match Nat.beq f 66 with | true => some F.couple_inOrder_c | false => none)
              | false =>
                (match Nat.beq f 72 with | true => some F.ref01_Of_c | false => none)))
          | false =>
            (match Nat.blt f 74 with
            | true =>
              (match Nat.beq f 73 with | true => some F.ref02_valid_c | false => none)
            | false =>
              (match Nat.blt f 75 with
              | true =>
                (match Nat.beq f 74 with | true => some F.ref01_Mul_c | false => none)
              | false =>
                (match Nat.beq f 75 with | true => some F.ref01_Add_c | false => none)))))
      | false =>
        (match Nat.blt f 90 with
        | true =>
          (match Nat.blt f 82 with
          | true =>
            (match Nat.blt f 77 with
            | true =>
              (match Nat.beq f 76 with | true => some F.ref01_Compare_c | false => none)
            | false =>
              (match Nat.blt f 78 with
              | true =>
                (match Nat.beq f 77 with | true => some F.ref01_Sub_c | false => none)
              | false =>
                (match Nat.beq f 78 with | true => some F.ref02_Of_c | false => none)))
          | false =>
            (match Nat.blt f 88 with
            | true =>
              (match Nat.beq f 82 with | true => some F.ratio_Compare_c | false => none)
            | false =>
              (match Nat.blt f 89 with
              | true =>
                (match Nat.beq f 88 with | true => some F.nat_Of_c | false => none)
              | false =>
                (match Nat.beq f 89 with | true => some F.value_shape_c | false => none))))
        | false =>
          (match Nat.blt f 93 with
          | true =>
            (match Nat.blt f 91 with
            | true =>
              (match Nat.beq f 90 with | true => some F.value_TypeRight_c | false => none)
            | false =>
              (match Nat.blt f 92 with
              | true =>
                (match Nat.beq f 91 with | true => some F.value_closed_c | false => none)
              | false =>
                (match Nat.beq f 92 with | true => some F.value_Size_c | false => none)))
          | false =>
            (match Nat.blt f 94 with
            | true =>
              (match Nat.beq f 93 with | true => some F.nat_Right_c | false => none)
            | false =>
              (match Nat.blt f 95 with
              | true =>
                (match Nat.beq f 94 with | true => some F.nat_Small_c | false => none)
              | false =>
                (match Nat.beq f 95 with | true => some F.nat_Gcd_c | false => none)))))))
  | false =>
    (match Nat.blt f 128 with
    | true =>
      (match Nat.blt f 112 with
      | true =>
        (match Nat.blt f 102 with
        | true =>
          (match Nat.blt f 99 with
          | true =>
            (match Nat.blt f 97 with
            | true =>
              (match Nat.beq f 96 with | true => some F.nat_Compare_c | false => none)
            | false =>
              (match Nat.blt f 98 with
              | true =>
                (match Nat.beq f 97 with | true => some F.cmp_Compare_int_c | false => none)
              | false =>
                (match Nat.beq f 98 with | true => some F.slices_CompareFunc_Value_Value_Value_Value_c | false => none)))
          | false =>
            (match Nat.blt f 100 with
            | true =>
              (match Nat.beq f 99 with | true => some F.ratio_made_c | false => none)
            | false =>
              (match Nat.blt f 101 with
              | true =>
                (match Nat.beq f 100 with | true => some F.nat_Mul_c | false => none)
              | false =>
                (match Nat.beq f 101 with | true => some F.nat_Add_c | false => none))))
        | false =>
          (match Nat.blt f 109 with
          | true =>
            (match Nat.blt f 106 with
            | true =>
              (match Nat.beq f 102 with | true => some F.nat_Sub_c | false => none)
            | false =>
              (match Nat.blt f 108 with
              | true =>
                (match Nat.beq f 106 with | true => some F.ref01_Gcd_c | false => none)
              | false =>
                (match Nat.beq f 108 with | true => some F.cmp_Or_int_c | false => none)))
          | false =>
            (match Nat.blt f 110 with
            | true =>
              (match Nat.beq f 109 with | true => some F.ratio_Neg_c | false => none)
            | false =>
              (match Nat.blt f 111 with
              | true =>
                (match Nat.beq f 110 with | true => some F.slices_IndexFunc_Ratio_Ratio_c | false => none)
              | false =>
                (match Nat.beq f 111 with | true => some F.slices_BinarySearchFunc_Part_Part_Value_c | false => none)))))
      | false =>
        (match Nat.blt f 122 with
        | true =>
          (match Nat.blt f 116 with
          | true =>
            (match Nat.blt f 114 with
            | true =>
              (match Nat.beq f 112 with | true => some F.couple_place_1_c | false => none)
            | false =>
              (match Nat.blt f 115 with
              | true =>
                (match Nat.beq f 114 with | true => some F.slices_SortStableFunc_Pair_Pair_c | false => none)
              | false =>
                (match Nat.beq f 115 with | true => some F.ref01_trim_c | false => none)))
          | false =>
            (match Nat.blt f 117 with
            | true =>
              (match Nat.beq f 116 with | true => some F.ref01_at_c | false => none)
            | false =>
              (match Nat.blt f 118 with
              | true =>
                (match Nat.beq f 117 with | true => some F.ref01_Bits_c | false => none)
              | false =>
                (match Nat.beq f 118 with | true => some F.ref01_Div_c | false => none))))
        | false =>
          (match Nat.blt f 125 with
          | true =>
            (match Nat.blt f 123 with
            | true =>
              (match Nat.beq f 122 with | true => some F.slices_Clone_Nat_uint32_c | false => none)
            | false =>
              (match Nat.blt f 124 with
              | true =>
                (match Nat.beq f 123 with | true => some F.nat_trim_c | false => none)
              | false =>
                (match Nat.beq f 124 with | true => some F.value_has_c | false => none)))
          | false =>
            (match Nat.blt f 126 with
            | true =>
              (match Nat.beq f 125 with | true => some F.value_join_c | false => none)
            | false =>
              (match Nat.blt f 127 with
              | true =>
                (match Nat.beq f 126 with | true => some F.value_deep_c | false => none)
              | false =>
                (match Nat.beq f 127 with | true => some F.nat_Div_c | false => none))))))
    | false =>
      (match Nat.blt f 143 with
      | true =>
        (match Nat.blt f 137 with
        | true =>
          (match Nat.blt f 134 with
          | true =>
            (match Nat.blt f 129 with
            | true =>
              (match Nat.beq f 128 with | true => some F.cmp_isNaN_int_c | false => none)
            | false =>
              (match Nat.blt f 133 with
              | true =>
                (match Nat.beq f 129 with | true => some F.ratio_Of_c | false => none)
              | false =>
                (match Nat.beq f 133 with | true => some F.ref01_Small_c | false => none)))
          | false =>
            (match Nat.blt f 135 with
            | true =>
              (match Nat.beq f 134 with | true => some F.ref01_even_c | false => none)
            | false =>
              (match Nat.blt f 136 with
              | true =>
                (match Nat.beq f 135 with | true => some F.ref01_half_c | false => none)
              | false =>
                (match Nat.beq f 136 with | true => some F.slices_stableCmpFunc_Pair_c | false => none))))
        | false =>
          (match Nat.blt f 140 with
          | true =>
            (match Nat.blt f 138 with
            | true =>
              (match Nat.beq f 137 with | true => some F.ref01_short_c | false => none)
            | false =>
              (match Nat.blt f 139 with
              | true =>
                (match Nat.beq f 138 with | true => some F.ref01_guess_c | false => none)
              | false =>
                (match Nat.beq f 139 with | true => some F.ref01_times_c | false => none)))
          | false =>
            (match Nat.blt f 141 with
            | true =>
              (match Nat.beq f 140 with | true => some F.slices_EqualFunc_Type_Value_Type_Value_c | false => none)
            | false =>
              (match Nat.blt f 142 with
              | true =>
                (match Nat.beq f 141 with | true => some F.slices_ContainsFunc_Value_Value_c | false => none)
              | false =>
                (match Nat.beq f 142 with | true => some F.value_has_1_c | false => none)))))
      | false =>
        (match Nat.blt f 149 with
        | true =>
          (match Nat.blt f 146 with
          | true =>
            (match Nat.blt f 144 with
            | true =>
              (match Nat.beq f 143 with | true => some F.slices_ContainsFunc_Type_Type_c | false => none)
            | false =>
              (match Nat.blt f 145 with
              | true =>
                (match Nat.beq f 144 with | true => some F.value_deep_1_c | false => none)
              | false =>
                (match Nat.beq f 145 with | true => some F.nat_short_c | false => none)))
          | false =>
            (match Nat.blt f 147 with
            | true =>
              (match Nat.beq f 146 with | true => some F.math_bits_LeadingZeros32_c | false => none)
            | false =>
              (match Nat.blt f 148 with
              | true =>
                (match Nat.beq f 147 with | true => some F.nat_shifted_c | false => none)
              | false =>
                (match Nat.beq f 148 with | true => some F.slices_insertionSortCmpFunc_Pair_c | false => none))))
        | false =>
          (match Nat.blt f 152 with
          | true =>
            (match Nat.blt f 150 with
            | true =>
              (match Nat.beq f 149 with | true => some F.slices_symMergeCmpFunc_Pair_c | false => none)
            | false =>
              (match Nat.blt f 151 with
              | true =>
                (match Nat.beq f 150 with | true => some F.slices_IndexFunc_Value_Value_c | false => none)
              | false =>
                (match Nat.beq f 151 with | true => some F.slices_IndexFunc_Type_Type_c | false => none)))
          | false =>
            (match Nat.blt f 153 with
            | true =>
              (match Nat.beq f 152 with | true => some F.math_bits_Len32_c | false => none)
            | false =>
              (match Nat.blt f 154 with
              | true =>
                (match Nat.beq f 153 with | true => some F.slices_rotateCmpFunc_Pair_c | false => none)
              | false =>
                (match Nat.beq f 154 with | true => some F.slices_swapRangeCmpFunc_Pair_c | false => none))))))))
theorem TAliveT_ok : TabOK Tryz.prog TAliveT := by
  intro f mf h
  unfold TAliveT at h
  repeat' split at h
  all_goals first | (simp at h; done) | skip
  · rename_i e; have e := Nat.eq_of_beq_eq_true e; subst e; injection h with h; subst h; exact ⟨_, _, F.couple_Right_ok⟩
  · rename_i e; have e := Nat.eq_of_beq_eq_true e; subst e; injection h with h; subst h; exact ⟨_, _, F.couple_Couples_ok⟩
  · rename_i e; have e := Nat.eq_of_beq_eq_true e; subst e; injection h with h; subst h; exact ⟨_, _, F.law35_alive_ok⟩
  · rename_i e; have e := Nat.eq_of_beq_eq_true e; subst e; injection h with h; subst h; exact ⟨_, _, F.couple_Apart_ok⟩
  · rename_i e; have e := Nat.eq_of_beq_eq_true e; subst e; injection h with h; subst h; exact ⟨_, _, F.couple_Best_ok⟩
  · rename_i e; have e := Nat.eq_of_beq_eq_true e; subst e; injection h with h; subst h; exact ⟨_, _, F.ref02_Same_ok⟩
  · rename_i e; have e := Nat.eq_of_beq_eq_true e; subst e; injection h with h; subst h; exact ⟨_, _, F.ref02_Compare_ok⟩
  · rename_i e; have e := Nat.eq_of_beq_eq_true e; subst e; injection h with h; subst h; exact ⟨_, _, F.ref02_Zero_ok⟩
  · rename_i e; have e := Nat.eq_of_beq_eq_true e; subst e; injection h with h; subst h; exact ⟨_, _, F.ref02_Add_ok⟩
  · rename_i e; have e := Nat.eq_of_beq_eq_true e; subst e; injection h with h; subst h; exact ⟨_, _, F.ref02_Sub_ok⟩
  · rename_i e; have e := Nat.eq_of_beq_eq_true e; subst e; injection h with h; subst h; exact ⟨_, _, F.ratio_Zero_ok⟩
  · rename_i e; have e := Nat.eq_of_beq_eq_true e; subst e; injection h with h; subst h; exact ⟨_, _, F.value_Right_ok⟩
  · rename_i e; have e := Nat.eq_of_beq_eq_true e; subst e; injection h with h; subst h; exact ⟨_, _, F.ratio_Right_ok⟩
  · rename_i e; have e := Nat.eq_of_beq_eq_true e; subst e; injection h with h; subst h; exact ⟨_, _, F.ratio_Sign_ok⟩
  · rename_i e; have e := Nat.eq_of_beq_eq_true e; subst e; injection h with h; subst h; exact ⟨_, _, F.value_Compare_ok⟩
  · rename_i e; have e := Nat.eq_of_beq_eq_true e; subst e; injection h with h; subst h; exact ⟨_, _, F.ratio_Add_ok⟩
  · rename_i e; have e := Nat.eq_of_beq_eq_true e; subst e; injection h with h; subst h; exact ⟨_, _, F.ratio_Same_ok⟩
  · rename_i e; have e := Nat.eq_of_beq_eq_true e; subst e; injection h with h; subst h; exact ⟨_, _, F.ratio_One_ok⟩
  · rename_i e; have e := Nat.eq_of_beq_eq_true e; subst e; injection h with h; subst h; exact ⟨_, _, F.ref02_Sign_ok⟩
  · rename_i e; have e := Nat.eq_of_beq_eq_true e; subst e; injection h with h; subst h; exact ⟨_, _, F.ref02_One_ok⟩
  · rename_i e; have e := Nat.eq_of_beq_eq_true e; subst e; injection h with h; subst h; exact ⟨_, _, F.couple_weights_ok⟩
  · rename_i e; have e := Nat.eq_of_beq_eq_true e; subst e; injection h with h; subst h; exact ⟨_, _, F.couple_compare_ok⟩
  · rename_i e; have e := Nat.eq_of_beq_eq_true e; subst e; injection h with h; subst h; exact ⟨_, _, F.ratio_Sub_ok⟩
  · rename_i e; have e := Nat.eq_of_beq_eq_true e; subst e; injection h with h; subst h; exact ⟨_, _, F.slices_ContainsFunc_Ratio_Ratio_ok⟩
  · rename_i e; have e := Nat.eq_of_beq_eq_true e; subst e; injection h with h; subst h; exact ⟨_, _, F.couple_Couples_1_ok⟩
  · rename_i e; have e := Nat.eq_of_beq_eq_true e; subst e; injection h with h; subst h; exact ⟨_, _, F.law35_sure_ok⟩
  · rename_i e; have e := Nat.eq_of_beq_eq_true e; subst e; injection h with h; subst h; exact ⟨_, _, F.couple_place_ok⟩
  · rename_i e; have e := Nat.eq_of_beq_eq_true e; subst e; injection h with h; subst h; exact ⟨_, _, F.ref02_Neg_ok⟩
  · rename_i e; have e := Nat.eq_of_beq_eq_true e; subst e; injection h with h; subst h; exact ⟨_, _, F.ratio_Least_ok⟩
  · rename_i e; have e := Nat.eq_of_beq_eq_true e; subst e; injection h with h; subst h; exact ⟨_, _, F.couple_gathered_ok⟩
  · rename_i e; have e := Nat.eq_of_beq_eq_true e; subst e; injection h with h; subst h; exact ⟨_, _, F.couple_inOrder_ok⟩
  · rename_i e; have e := Nat.eq_of_beq_eq_true e; subst e; injection h with h; subst h; exact ⟨_, _, F.ref01_Of_ok⟩
  · rename_i e; have e := Nat.eq_of_beq_eq_true e; subst e; injection h with h; subst h; exact ⟨_, _, F.ref02_valid_ok⟩
  · rename_i e; have e := Nat.eq_of_beq_eq_true e; subst e; injection h with h; subst h; exact ⟨_, _, F.ref01_Mul_ok⟩
  · rename_i e; have e := Nat.eq_of_beq_eq_true e; subst e; injection h with h; subst h; exact ⟨_, _, F.ref01_Add_ok⟩
  · rename_i e; have e := Nat.eq_of_beq_eq_true e; subst e; injection h with h; subst h; exact ⟨_, _, F.ref01_Compare_ok⟩
  · rename_i e; have e := Nat.eq_of_beq_eq_true e; subst e; injection h with h; subst h; exact ⟨_, _, F.ref01_Sub_ok⟩
  · rename_i e; have e := Nat.eq_of_beq_eq_true e; subst e; injection h with h; subst h; exact ⟨_, _, F.ref02_Of_ok⟩
  · rename_i e; have e := Nat.eq_of_beq_eq_true e; subst e; injection h with h; subst h; exact ⟨_, _, F.ratio_Compare_ok⟩
  · rename_i e; have e := Nat.eq_of_beq_eq_true e; subst e; injection h with h; subst h; exact ⟨_, _, F.nat_Of_ok⟩
  · rename_i e; have e := Nat.eq_of_beq_eq_true e; subst e; injection h with h; subst h; exact ⟨_, _, F.value_shape_ok⟩
  · rename_i e; have e := Nat.eq_of_beq_eq_true e; subst e; injection h with h; subst h; exact ⟨_, _, F.value_TypeRight_ok⟩
  · rename_i e; have e := Nat.eq_of_beq_eq_true e; subst e; injection h with h; subst h; exact ⟨_, _, F.value_closed_ok⟩
  · rename_i e; have e := Nat.eq_of_beq_eq_true e; subst e; injection h with h; subst h; exact ⟨_, _, F.value_Size_ok⟩
  · rename_i e; have e := Nat.eq_of_beq_eq_true e; subst e; injection h with h; subst h; exact ⟨_, _, F.nat_Right_ok⟩
  · rename_i e; have e := Nat.eq_of_beq_eq_true e; subst e; injection h with h; subst h; exact ⟨_, _, F.nat_Small_ok⟩
  · rename_i e; have e := Nat.eq_of_beq_eq_true e; subst e; injection h with h; subst h; exact ⟨_, _, F.nat_Gcd_ok⟩
  · rename_i e; have e := Nat.eq_of_beq_eq_true e; subst e; injection h with h; subst h; exact ⟨_, _, F.nat_Compare_ok⟩
  · rename_i e; have e := Nat.eq_of_beq_eq_true e; subst e; injection h with h; subst h; exact ⟨_, _, F.cmp_Compare_int_ok⟩
  · rename_i e; have e := Nat.eq_of_beq_eq_true e; subst e; injection h with h; subst h; exact ⟨_, _, F.slices_CompareFunc_Value_Value_Value_Value_ok⟩
  · rename_i e; have e := Nat.eq_of_beq_eq_true e; subst e; injection h with h; subst h; exact ⟨_, _, F.ratio_made_ok⟩
  · rename_i e; have e := Nat.eq_of_beq_eq_true e; subst e; injection h with h; subst h; exact ⟨_, _, F.nat_Mul_ok⟩
  · rename_i e; have e := Nat.eq_of_beq_eq_true e; subst e; injection h with h; subst h; exact ⟨_, _, F.nat_Add_ok⟩
  · rename_i e; have e := Nat.eq_of_beq_eq_true e; subst e; injection h with h; subst h; exact ⟨_, _, F.nat_Sub_ok⟩
  · rename_i e; have e := Nat.eq_of_beq_eq_true e; subst e; injection h with h; subst h; exact ⟨_, _, F.ref01_Gcd_ok⟩
  · rename_i e; have e := Nat.eq_of_beq_eq_true e; subst e; injection h with h; subst h; exact ⟨_, _, F.cmp_Or_int_ok⟩
  · rename_i e; have e := Nat.eq_of_beq_eq_true e; subst e; injection h with h; subst h; exact ⟨_, _, F.ratio_Neg_ok⟩
  · rename_i e; have e := Nat.eq_of_beq_eq_true e; subst e; injection h with h; subst h; exact ⟨_, _, F.slices_IndexFunc_Ratio_Ratio_ok⟩
  · rename_i e; have e := Nat.eq_of_beq_eq_true e; subst e; injection h with h; subst h; exact ⟨_, _, F.slices_BinarySearchFunc_Part_Part_Value_ok⟩
  · rename_i e; have e := Nat.eq_of_beq_eq_true e; subst e; injection h with h; subst h; exact ⟨_, _, F.couple_place_1_ok⟩
  · rename_i e; have e := Nat.eq_of_beq_eq_true e; subst e; injection h with h; subst h; exact ⟨_, _, F.slices_SortStableFunc_Pair_Pair_ok⟩
  · rename_i e; have e := Nat.eq_of_beq_eq_true e; subst e; injection h with h; subst h; exact ⟨_, _, F.ref01_trim_ok⟩
  · rename_i e; have e := Nat.eq_of_beq_eq_true e; subst e; injection h with h; subst h; exact ⟨_, _, F.ref01_at_ok⟩
  · rename_i e; have e := Nat.eq_of_beq_eq_true e; subst e; injection h with h; subst h; exact ⟨_, _, F.ref01_Bits_ok⟩
  · rename_i e; have e := Nat.eq_of_beq_eq_true e; subst e; injection h with h; subst h; exact ⟨_, _, F.ref01_Div_ok⟩
  · rename_i e; have e := Nat.eq_of_beq_eq_true e; subst e; injection h with h; subst h; exact ⟨_, _, F.slices_Clone_Nat_uint32_ok⟩
  · rename_i e; have e := Nat.eq_of_beq_eq_true e; subst e; injection h with h; subst h; exact ⟨_, _, F.nat_trim_ok⟩
  · rename_i e; have e := Nat.eq_of_beq_eq_true e; subst e; injection h with h; subst h; exact ⟨_, _, F.value_has_ok⟩
  · rename_i e; have e := Nat.eq_of_beq_eq_true e; subst e; injection h with h; subst h; exact ⟨_, _, F.value_join_ok⟩
  · rename_i e; have e := Nat.eq_of_beq_eq_true e; subst e; injection h with h; subst h; exact ⟨_, _, F.value_deep_ok⟩
  · rename_i e; have e := Nat.eq_of_beq_eq_true e; subst e; injection h with h; subst h; exact ⟨_, _, F.nat_Div_ok⟩
  · rename_i e; have e := Nat.eq_of_beq_eq_true e; subst e; injection h with h; subst h; exact ⟨_, _, F.cmp_isNaN_int_ok⟩
  · rename_i e; have e := Nat.eq_of_beq_eq_true e; subst e; injection h with h; subst h; exact ⟨_, _, F.ratio_Of_ok⟩
  · rename_i e; have e := Nat.eq_of_beq_eq_true e; subst e; injection h with h; subst h; exact ⟨_, _, F.ref01_Small_ok⟩
  · rename_i e; have e := Nat.eq_of_beq_eq_true e; subst e; injection h with h; subst h; exact ⟨_, _, F.ref01_even_ok⟩
  · rename_i e; have e := Nat.eq_of_beq_eq_true e; subst e; injection h with h; subst h; exact ⟨_, _, F.ref01_half_ok⟩
  · rename_i e; have e := Nat.eq_of_beq_eq_true e; subst e; injection h with h; subst h; exact ⟨_, _, F.slices_stableCmpFunc_Pair_ok⟩
  · rename_i e; have e := Nat.eq_of_beq_eq_true e; subst e; injection h with h; subst h; exact ⟨_, _, F.ref01_short_ok⟩
  · rename_i e; have e := Nat.eq_of_beq_eq_true e; subst e; injection h with h; subst h; exact ⟨_, _, F.ref01_guess_ok⟩
  · rename_i e; have e := Nat.eq_of_beq_eq_true e; subst e; injection h with h; subst h; exact ⟨_, _, F.ref01_times_ok⟩
  · rename_i e; have e := Nat.eq_of_beq_eq_true e; subst e; injection h with h; subst h; exact ⟨_, _, F.slices_EqualFunc_Type_Value_Type_Value_ok⟩
  · rename_i e; have e := Nat.eq_of_beq_eq_true e; subst e; injection h with h; subst h; exact ⟨_, _, F.slices_ContainsFunc_Value_Value_ok⟩
  · rename_i e; have e := Nat.eq_of_beq_eq_true e; subst e; injection h with h; subst h; exact ⟨_, _, F.value_has_1_ok⟩
  · rename_i e; have e := Nat.eq_of_beq_eq_true e; subst e; injection h with h; subst h; exact ⟨_, _, F.slices_ContainsFunc_Type_Type_ok⟩
  · rename_i e; have e := Nat.eq_of_beq_eq_true e; subst e; injection h with h; subst h; exact ⟨_, _, F.value_deep_1_ok⟩
  · rename_i e; have e := Nat.eq_of_beq_eq_true e; subst e; injection h with h; subst h; exact ⟨_, _, F.nat_short_ok⟩
  · rename_i e; have e := Nat.eq_of_beq_eq_true e; subst e; injection h with h; subst h; exact ⟨_, _, F.math_bits_LeadingZeros32_ok⟩
  · rename_i e; have e := Nat.eq_of_beq_eq_true e; subst e; injection h with h; subst h; exact ⟨_, _, F.nat_shifted_ok⟩
  · rename_i e; have e := Nat.eq_of_beq_eq_true e; subst e; injection h with h; subst h; exact ⟨_, _, F.slices_insertionSortCmpFunc_Pair_ok⟩
  · rename_i e; have e := Nat.eq_of_beq_eq_true e; subst e; injection h with h; subst h; exact ⟨_, _, F.slices_symMergeCmpFunc_Pair_ok⟩
  · rename_i e; have e := Nat.eq_of_beq_eq_true e; subst e; injection h with h; subst h; exact ⟨_, _, F.slices_IndexFunc_Value_Value_ok⟩
  · rename_i e; have e := Nat.eq_of_beq_eq_true e; subst e; injection h with h; subst h; exact ⟨_, _, F.slices_IndexFunc_Type_Type_ok⟩
  · rename_i e; have e := Nat.eq_of_beq_eq_true e; subst e; injection h with h; subst h; exact ⟨_, _, F.math_bits_Len32_ok⟩
  · rename_i e; have e := Nat.eq_of_beq_eq_true e; subst e; injection h with h; subst h; exact ⟨_, _, F.slices_rotateCmpFunc_Pair_ok⟩
  · rename_i e; have e := Nat.eq_of_beq_eq_true e; subst e; injection h with h; subst h; exact ⟨_, _, F.slices_swapRangeCmpFunc_Pair_ok⟩
end Go.Proofs.YtnneehniendnfaaGreat

namespace Go.Proofs.YtnneehniendnfaaGreat
open Go Go.Proofs Go.Proofs.YtnneehniendnfaaGreat.E
def aliveX (f : Nat) : Bool := match Nat.beq f F.couple_weights || (Nat.beq f F.nat_shifted || (Nat.beq f F.couple_gathered || (Nat.beq f F.couple_inOrder || (Nat.beq f F.slices_SortStableFunc_Pair_Pair || (Nat.beq f F.slices_stableCmpFunc_Pair || (Nat.beq f F.slices_insertionSortCmpFunc_Pair)))))) with | true => true | false => false
def aliveB (f : Nat) (ds : List V) : Option V := match Nat.beq f F.slices_Clone_Nat_uint32, ds with | true, [.dat []] => some (.dat []) | _, _ => none
theorem aliveB_ok : BOK Tryz.prog aliveB := by
  intro f ds d h
  unfold aliveB at h
  split at h
  · rename_i e
    have e := Nat.eq_of_beq_eq_true e
    subst e
    injection h with h
    subst h
    exact slices_Clone (l := []) (by simp)
  · simp at h
set_option maxRecDepth 100000 in
theorem law35_alive : CallD Tryz.prog F.law35_alive [] (· = .bool true) :=
  callD_run (X := aliveX) TAliveT_ok aliveB_ok 100 (by kernel_rfl)
end Go.Proofs.YtnneehniendnfaaGreat
