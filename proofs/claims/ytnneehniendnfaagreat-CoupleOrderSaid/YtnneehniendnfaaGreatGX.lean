/- Joined texts: DL, CBel, CConc, CBel2, CBel3. -/
import Derived.Test.YtnneehniendnfaaGreatJDK
import Derived.Test.YtnneehniendnfaaGreatGQ
import Derived.Test.YtnneehniendnfaaGreatGU
import Derived.Test.YtnneehniendnfaaGreatGV
import Derived.Test.YtnneehniendnfaaGreatGS
import Derived.Test.YtnneehniendnfaaGreatGP
import Derived.Test.YtnneehniendnfaaGreatGC
import Derived.Test.YtnneehniendnfaaGreatProg
import Derived.KernelRfl
import Derived.Test.YtnneehniendnfaaGreatGD
/- Functions of the program, as the engine reads them; each is held against the translation. -/
namespace Go.Proofs.YtnneehniendnfaaGreat.F
open Go Go.Proofs Go.Proofs.YtnneehniendnfaaGreat.E Go.Proofs.YtnneehniendnfaaGreat.Q
abbrev law35_upTo : Nat := 37
def law35_upTo_c : MFn :=
  ⟨30,(.seq (r [o 4 (.alloc [.bool false,.nils,.nils])] [0,1,4]) (.seq (r [o 7 (.call 29 []),o 5 (.alloc [.bool false,.nils,.nils]),z (.st 3 (.t 5) (.t 7))] [0,1,4,5]) (.seq (.seq (r [o 8 (.mv (.t 0)),
  o 9 (.lenS (.t 8)),o 10 (.mv (i 0))] [0,1,4,5,9,10]) (.block 0 (.loop (.seq (r [o 11 (.bin .lss (.t 10) (.t 9))] [0,1,4,5,9,10,11]) (.seq (.cond (.t 11) .skip (.exit 0))
  (.seq (.block 1 (.seq (r [o 12 (.mv (.t 10)),o 6 (.mv (.t 12))] [0,1,4,5,6,9,10]) (.seq (r [o 13 (.mv (.t 0)),o 14 (.mv (.t 6)),o 15 (.ixA 6 (.t 13) (.t 14)),o 16 (.fA 0 (.t 15)),
  o 17 (.fA 1 (.t 16)),o 18 (.ld none (.t 17)),o 19 (.mv (.t 1)),o 20 (.bin .leq (.t 18) (.t 19))] [0,1,4,5,6,9,10,20]) (.cond (.t 20) (r [o 21 (.ld (some 3) (.t 5)),o 22 (.mv (.t 0)),
  o 23 (.mv (.t 6)),o 24 (.ixA 6 (.t 22) (.t 23)),o 25 (.fA 3 (.t 24)),o 26 (.ld (some 3) (.t 25)),o 27 (.callF 30 [(.t 21),(.t 26)]),z (.st 3 (.t 5) (.t 27))] [0,1,4,5,9,10]) .skip))))
  (r [o 28 (.bin .add (.t 10) (i 1)),o 10 (.mv (.t 28))] [0,1,4,5,9,10]))))))) (.seq (r [o 29 (.ld (some 3) (.t 5)),z (.st 3 (.t 4) (.t 29))] [4]) .ret)))),[.cell 4 (some 3)]⟩
theorem law35_upTo_ok : cFn Tryz.prog (kps [[0,1,4],[0,1,4,5],[0,1,4,5,9,10],[0,1,4,5,9,10,11],[0,1,4,5,6,9,10],[0,1,4,5,6,9,10,20],[0,1,4,5,9,10],[0,1,4,5,9,10],[4]]) [] 37 = some law35_upTo_c := by kernel_rfl
abbrev couple_Below_1 : Nat := 85
def couple_Below_1_c : MFn :=
  ⟨7,(.seq (r [o 1 (.box (.t 0)),o 2 (.mv (.c (.bool false)))] [1]) (.seq (r [o 3 (.fA 0 (.t 1)),o 4 (.fA 0 (.t 3)),o 5 (.ld none (.t 4)),o 6 (.bin .neq (.t 5) (i 2)),o 2 (.mv (.t 6))] [2]) .ret)),
  [.t 2]⟩
theorem couple_Below_1_ok : cFn Tryz.prog (kps [[1],[2]]) [] 85 = some couple_Below_1_c := by kernel_rfl
abbrev slices_IndexFunc_Part_Part : Nat := 120
def slices_IndexFunc_Part_Part_c : MFn :=
  ⟨19,(.seq (r [o 4 (.mv (i 0))] [0,1]) (.seq (.seq (r [o 6 (.mv (.t 0)),o 7 (.lenS (.t 6)),o 8 (.mv (i 0))] [0,1,7,8]) (.block 0 (.loop (.seq (r [o 9 (.bin .lss (.t 8) (.t 7))] [0,1,7,8,9])
  (.seq (.cond (.t 9) .skip (.exit 0)) (.seq (.block 1 (.seq (r [o 10 (.mv (.t 8)),o 5 (.mv (.t 10))] [0,1,5,7,8]) (.seq (r [o 11 (.mv (.t 1)),o 12 (.mv (.t 0)),o 13 (.mv (.t 5)),o 14 (.ixA 6 (.t 12)
  (.t 13)),o 15 (.ld (some 6) (.t 14)),o 16 (.callV (.t 11) [(.t 15)])] [0,1,5,7,8,16]) (.cond (.t 16) (.seq (r [o 17 (.mv (.t 5)),o 4 (.mv (.t 17))] [4]) .ret) .skip)))) (r [o 18 (.bin .add (.t 8)
  (i 1)),o 8 (.mv (.t 18))] [0,1,7,8]))))))) (.seq (r [o 4 (.mv (i (-1)))] [4]) .ret))),[.t 4]⟩
theorem slices_IndexFunc_Part_Part_ok : cFn Tryz.prog (kps [[0,1],[0,1,7,8],[0,1,7,8,9],[0,1,5,7,8],[0,1,5,7,8,16],[4],[0,1,7,8],[4]]) [] 120 = some slices_IndexFunc_Part_Part_c := by kernel_rfl
abbrev slices_ContainsFunc_Part_Part : Nat := 83
def slices_ContainsFunc_Part_Part_c : MFn :=
  ⟨9,(.seq (r [o 4 (.mv (.c (.bool false)))] [0,1]) (.seq (r [o 5 (.mv (.t 0)),o 6 (.mv (.t 1)),o 7 (.call 120 [(.t 5),(.t 6)]),o 8 (.bin .geq (.t 7) (i 0)),o 4 (.mv (.t 8))] [4]) .ret)),[.t 4]⟩
theorem slices_ContainsFunc_Part_Part_ok : cFn Tryz.prog (kps [[0,1],[4]]) [] 83 = some slices_ContainsFunc_Part_Part_c := by kernel_rfl
abbrev slices_Grow_Part_Part : Nat := 121
def slices_Grow_Part_Part_c : MFn :=
  ⟨27,(.seq (r [o 4 (.mv (.c .nils))] [0,1]) (.seq (.seq (r [o 5 (.mv (.t 1)),o 6 (.bin .lss (.t 5) (i 0))] [0,1,6]) (.cond (.t 6) (r [o 7 (.mkI 9 (.c (.str ⟨#[99,97,110,110,111,116,32,98,101,32,110,
  101,103,97,116,105,118,101]⟩))),z (.no)] [0,1]) .skip)) (.seq (.seq (r [o 8 (.mv (.t 1)),o 9 (.mv (.t 0)),o 10 (.capN (.t 9)),o 11 (.mv (.t 0)),o 12 (.lenS (.t 11)),o 13 (.bin .sub (.t 10) (.t 12)),
  o 14 (.bin .sub (.t 8) (.t 13)),o 1 (.mv (.t 14))] [0,1]) (.seq (r [o 15 (.mv (.t 1)),o 16 (.bin .gtr (.t 15) (i 0))] [0,1,16]) (.cond (.t 16) (r [o 17 (.mv (.t 0)),o 18 (.mv (.t 0)),
  o 19 (.capN (.t 18)),o 20 (.slc 6 (.t 17) none (some (.t 19)) none),o 21 (.mv (.t 1)),o 22 (.appN 6 96 [.int .i64 0,.int .i64 0,.nils,.bool false,.nils,.nils] (.t 20) (.t 21)),o 23 (.mv (.t 0)),
  o 24 (.lenS (.t 23)),o 25 (.slc 6 (.t 22) none (some (.t 24)) none),o 0 (.mv (.t 25))] [0]) .skip))) (.seq (r [o 26 (.mv (.t 0)),o 4 (.mv (.t 26))] [4]) .ret)))),[.t 4]⟩
theorem slices_Grow_Part_Part_ok : cFn Tryz.prog (kps [[0,1],[0,1,6],[0,1],[0,1],[0,1,16],[0],[4]]) [] 121 = some slices_Grow_Part_Part_c := by kernel_rfl
abbrev slices_Concat_Part_Part : Nat := 84
def slices_Concat_Part_Part_c : MFn :=
  ⟨36,(.seq (r [o 2 (.mv (.c .nils))] [0]) (.seq (r [o 3 (.mv (i 0))] [0,3]) (.seq (.seq (r [o 9 (.mv (.t 0)),o 10 (.lenS (.t 9)),o 11 (.mv (i 0))] [0,3,9,10,11])
  (.block 0 (.loop (.seq (r [o 12 (.bin .lss (.t 11) (.t 10))] [0,3,9,10,11,12]) (.seq (.cond (.t 12) .skip (.exit 0)) (.seq (.block 1 (.seq (r [o 13 (.ixA 1 (.t 9) (.t 11)),o 14 (.ld none (.t 13)),
  o 5 (.mv (.t 14))] [0,3,5,9,10,11]) (.seq (r [o 15 (.mv (.t 3)),o 16 (.mv (.t 5)),o 17 (.lenS (.t 16)),o 18 (.bin .add (.t 15) (.t 17)),o 3 (.mv (.t 18))] [0,3,9,10,11]) (.seq (r [o 19 (.mv (.t 3)),
  o 20 (.bin .lss (.t 19) (i 0))] [0,3,9,10,11,20]) (.cond (.t 20) (r [o 21 (.mkI 9 (.c (.str ⟨#[108,101,110,32,111,117,116,32,111,102,32,114,97,110,103,101]⟩))),z (.no)] [0,3,9,10,11]) .skip)))))
  (r [o 22 (.bin .add (.t 11) (i 1)),o 11 (.mv (.t 22))] [0,3,9,10,11]))))))) (.seq (r [o 23 (.mv (.t 3)),o 24 (.call 121 [(.c .nils),(.t 23)]),o 6 (.mv (.t 24))] [0,6])
  (.seq (.seq (r [o 25 (.mv (.t 0)),o 26 (.lenS (.t 25)),o 27 (.mv (i 0))] [6,25,26,27]) (.block 2 (.loop (.seq (r [o 28 (.bin .lss (.t 27) (.t 26))] [6,25,26,27,28]) (.seq (.cond (.t 28)
  .skip (.exit 2)) (.seq (.block 3 (.seq (r [o 29 (.ixA 1 (.t 25) (.t 27)),o 30 (.ld none (.t 29)),o 8 (.mv (.t 30))] [6,8,25,26,27]) (r [o 31 (.mv (.t 6)),o 32 (.mv (.t 8)),o 33 (.app 6 96 (.t 31)
  (.t 32)),o 6 (.mv (.t 33))] [6,25,26,27]))) (r [o 34 (.bin .add (.t 27) (i 1)),o 27 (.mv (.t 34))] [6,25,26,27]))))))) (.seq (r [o 35 (.mv (.t 6)),o 2 (.mv (.t 35))] [2]) .ret)))))),[.t 2]⟩
theorem slices_Concat_Part_Part_ok : cFn Tryz.prog (kps [[0],[0,3],[0,3,9,10,11],[0,3,9,10,11,12],[0,3,5,9,10,11],[0,3,9,10,11],[0,3,9,10,11,20],[0,3,9,10,11],[0,3,9,10,11],[0,6],[6,25,26,27],[6,25,26,27,28],[6,8,25,26,27],[6,25,26,27],[6,25,26,27],[2]]) [] 84 = some slices_Concat_Part_Part_c := by kernel_rfl
abbrev couple_Below : Nat := 35
def couple_Below_c : MFn :=
  ⟨71,(.seq (r [o 4 (.mv (.c .nils)),o 5 (.mv (i 0)),o 6 (.mv (i 0))] [0,1]) (.seq (.seq (r [o 11 (.mv (.t 0)),o 12 (.call 14 [(.t 11)]),o 13 (.un .not (.t 12)),o 14 (.mv (.t 13)),n 15 14 (.mv (.t 1)),
  n 16 14 (.call 14 [(.t 15)]),n 17 14 (.un .not (.t 16)),o 18 (.pick (.t 14) (.c (.bool true)) (.t 17))] [0,1,18]) (.cond (.t 18) (.seq (r [o 4 (.mv (.c .nils)),o 5 (.mv (i 0)),o 6 (.mv (i 1))] [4,5,
  6]) .ret) .skip)) (.seq (.seq (r [o 19 (.mv (.t 0)),o 20 (.mv (.t 1)),o 21 (.buildSl 1 2 [.nils] [(0,(.t 19)),(1,(.t 20))]),o 22 (.call 84 [(.t 21)]),o 23 (.call 83 [(.t 22),(.c (.clo 85 []))])] [0,
  1,23]) (.cond (.t 23) (.seq (r [o 4 (.mv (.c .nils)),o 5 (.mv (i 0)),o 6 (.mv (i 30))] [4,5,6]) .ret) .skip)) (.seq (r [o 24 (.call 41 []),o 7 (.alloc [.bool false,.nils,.nils]),z (.st 3 (.t 7)
  (.t 24)),o 8 (.mv (i 0))] [0,1,7,8]) (.seq (.seq (r [o 25 (.mv (.t 1)),o 26 (.lenS (.t 25)),o 27 (.mv (i 0))] [0,1,7,8,25,26,27]) (.block 0 (.loop (.seq (r [o 28 (.bin .lss (.t 27) (.t 26))] [0,1,7,
  8,25,26,27,28]) (.seq (.cond (.t 28) .skip (.exit 0)) (.seq (.block 1 (.seq (r [o 29 (.mv (.t 27)),o 30 (.ixA 6 (.t 25) (.t 27)),o 31 (.ld (some 6) (.t 30)),o 10 (.alloc [.int .i64 0,.int .i64 0,
  .nils,.bool false,.nils,.nils]),o 9 (.mv (.t 29)),z (.st 6 (.t 10) (.t 31))] [0,1,7,8,9,10,25,26,27]) (.seq (r [o 32 (.ld (some 3) (.t 7)),o 33 (.fA 3 (.t 10)),o 34 (.ld (some 3) (.t 33)),
  o 35 (.call 46 [(.t 32),(.t 34)]),z (.st 3 (.t 7) (.t 35))] [0,1,7,8,9,10,25,26,27]) (.seq (.block 2 (.loop (.seq (.seq (r [o 36 (.mv (.t 8)),o 37 (.mv (.t 0)),o 38 (.lenS (.t 37)),
  o 39 (.bin .lss (.t 36) (.t 38)),o 40 (.mv (.t 39)),y 41 40 (.mv (.t 0)),y 42 40 (.mv (.t 8)),y 43 40 (.ixA 6 (.t 41) (.t 42)),y 44 40 (.fA 0 (.t 43)),y 45 40 (.fA 1 (.t 44)),
  y 46 40 (.ld none (.t 45)),y 47 40 (.fA 0 (.t 10)),y 48 40 (.fA 1 (.t 47)),y 49 40 (.ld none (.t 48)),y 50 40 (.bin .leq (.t 46) (.t 49)),o 51 (.pick (.t 40) (.t 50) (.c (.bool false)))] [0,1,7,8,9,
  10,25,26,27,51]) (.cond (.t 51) .skip (.exit 2))) (.seq (.block 3 (r [o 54 (.ld (some 3) (.t 7)),o 55 (.mv (.t 0)),o 56 (.mv (.t 8)),o 57 (.ixA 6 (.t 55) (.t 56)),o 58 (.fA 3 (.t 57)),
  o 59 (.ld (some 3) (.t 58)),o 60 (.callF 56 [(.t 54),(.t 59)]),z (.st 3 (.t 7) (.t 60))] [0,1,7,8,9,10,25,26,27])) (r [o 52 (.mv (.t 8)),o 53 (.bin .add (.t 52) (i 1)),o 8 (.mv (.t 53))] [0,1,7,8,9,
  10,25,26,27]))))) (.seq (r [o 61 (.ld (some 3) (.t 7)),o 62 (.call 44 [(.t 61)]),o 63 (.bin .gtr (.t 62) (i 0))] [0,1,7,8,9,25,26,27,63]) (.cond (.t 63) (.seq (r [o 64 (.mv (.t 9)),
  o 4 (.mv (.c .nils)),o 5 (.mv (.t 64)),o 6 (.mv (i 0))] [4,5,6]) .ret) .skip)))))) (r [o 65 (.bin .add (.t 27) (i 1)),o 27 (.mv (.t 65))] [0,1,7,8,25,26,27]))))))) (.seq (r [o 66 (.mv (.t 0)),
  o 67 (.call 54 [(.t 66)]),o 68 (.mv (.t 1)),o 69 (.call 54 [(.t 68)]),o 70 (.call 66 [(.t 67),(.t 69)]),o 4 (.mv (.t 70)),o 5 (.mv (i (-1))),o 6 (.mv (i 0))] [4,5,6]) .ret)))))),[.t 4,.t 5,.t 6]⟩
theorem couple_Below_ok : cFn Tryz.prog (kps [[0,1],[0,1,18],[4,5,6],[0,1,23],[4,5,6],[0,1,7,8],[0,1,7,8,25,26,27],[0,1,7,8,25,26,27,28],[0,1,7,8,9,10,25,26,27],[0,1,7,8,9,10,25,26,27],[0,1,7,8,9,10,25,26,27,51],[0,1,7,8,9,10,25,26,27],[0,1,7,8,9,10,25,26,27],[0,1,7,8,9,25,26,27,63],[4,5,6],[0,1,7,8,25,26,27],[4,5,6]]) [] 35 = some couple_Below_c := by kernel_rfl
abbrev ref35_Below : Nat := 36
def ref35_Below_c : MFn :=
  ⟨93,(.seq (r [o 4 (.mv (.c .nils)),o 5 (.mv (i 0)),o 6 (.mv (i 0))] [0,1]) (.seq (.seq (r [o 17 (.mv (.t 0)),o 18 (.call 15 [(.t 17)]),o 19 (.un .not (.t 18)),o 20 (.mv (.t 19)),n 21 20 (.mv (.t 1)),
  n 22 20 (.call 15 [(.t 21)]),n 23 20 (.un .not (.t 22)),o 24 (.pick (.t 20) (.c (.bool true)) (.t 23))] [0,1,24]) (.cond (.t 24) (.seq (r [o 4 (.mv (.c .nils)),o 5 (.mv (i 0)),o 6 (.mv (i 1))] [4,5,
  6]) .ret) .skip)) (.seq (.seq (r [o 25 (.mv (.t 0)),o 26 (.mv (.t 1)),o 27 (.call 28 [(.t 25),(.t 26)]),o 28 (.lenS (.t 27)),o 29 (.mv (i 0))] [0,1,27,28,29])
  (.block 0 (.loop (.seq (r [o 30 (.bin .lss (.t 29) (.t 28))] [0,1,27,28,29,30]) (.seq (.cond (.t 30) .skip (.exit 0)) (.seq (.block 1 (.seq (r [o 31 (.ixA 3 (.t 27) (.t 29)),o 32 (.ld (some 3)
  (.t 31)),o 8 (.alloc [.int .i64 0,.int .i64 0,.nils]),z (.st 3 (.t 8) (.t 32))] [0,1,8,27,28,29]) (.seq (r [o 33 (.fA 0 (.t 8)),o 34 (.ld none (.t 33)),o 35 (.bin .neq (.t 34) (i 2))] [0,1,27,28,29,
  35]) (.cond (.t 35) (.seq (r [o 4 (.mv (.c .nils)),o 5 (.mv (i 0)),o 6 (.mv (i 30))] [4,5,6]) .ret) .skip)))) (r [o 36 (.bin .add (.t 29) (i 1)),o 29 (.mv (.t 36))] [0,1,27,28,29])))))))
  (.seq (.seq (r [o 37 (.mv (.t 1)),o 38 (.lenS (.t 37)),o 39 (.mv (i 0))] [0,1,37,38,39]) (.block 2 (.loop (.seq (r [o 40 (.bin .lss (.t 39) (.t 38))] [0,1,37,38,39,40]) (.seq (.cond (.t 40)
  .skip (.exit 2)) (.seq (.block 3 (.seq (r [o 41 (.mv (.t 39)),o 42 (.ixA 6 (.t 37) (.t 39)),o 43 (.ld (some 6) (.t 42)),o 10 (.alloc [.int .i64 0,.int .i64 0,.nils,.bool false,.nils,.nils]),
  o 9 (.mv (.t 41)),z (.st 6 (.t 10) (.t 43))] [0,1,9,10,37,38,39]) (.seq (r [o 44 (.call 29 []),o 45 (.call 29 []),o 11 (.alloc [.bool false,.nils,.nils]),o 12 (.alloc [.bool false,.nils,.nils]),
  z (.st 3 (.t 11) (.t 44)),z (.st 3 (.t 12) (.t 45))] [0,1,9,10,11,12,37,38,39]) (.seq (.seq (r [o 46 (.mv (.t 0)),o 47 (.lenS (.t 46)),o 48 (.mv (i 0))] [0,1,9,10,11,12,37,38,39,46,47,48])
  (.block 4 (.loop (.seq (r [o 49 (.bin .lss (.t 48) (.t 47))] [0,1,9,10,11,12,37,38,39,46,47,48,49]) (.seq (.cond (.t 49) .skip (.exit 4)) (.seq (.block 5 (.seq (r [o 50 (.ixA 6 (.t 46) (.t 48)),
  o 51 (.ld (some 6) (.t 50)),o 14 (.alloc [.int .i64 0,.int .i64 0,.nils,.bool false,.nils,.nils]),z (.st 6 (.t 14) (.t 51))] [0,1,9,10,11,12,14,37,38,39,46,47,48]) (.seq (r [o 52 (.fA 0 (.t 14)),
  o 53 (.fA 1 (.t 52)),o 54 (.ld none (.t 53)),o 55 (.fA 0 (.t 10)),o 56 (.fA 1 (.t 55)),o 57 (.ld none (.t 56)),o 58 (.bin .leq (.t 54) (.t 57))] [0,1,9,10,11,12,14,37,38,39,46,47,48,58])
  (.cond (.t 58) (r [o 59 (.ld (some 3) (.t 11)),o 60 (.fA 3 (.t 14)),o 61 (.ld (some 3) (.t 60)),o 62 (.call 30 [(.t 59),(.t 61)]),z (.st 3 (.t 11) (.t 62))] [0,1,9,10,11,12,37,38,39,46,47,48])
  .skip)))) (r [o 63 (.bin .add (.t 48) (i 1)),o 48 (.mv (.t 63))] [0,1,9,10,11,12,37,38,39,46,47,48]))))))) (.seq (.seq (r [o 64 (.mv (.t 1)),o 65 (.lenS (.t 64)),o 66 (.mv (i 0))] [0,1,9,10,11,12,
  37,38,39,64,65,66]) (.block 6 (.loop (.seq (r [o 67 (.bin .lss (.t 66) (.t 65))] [0,1,9,10,11,12,37,38,39,64,65,66,67]) (.seq (.cond (.t 67) .skip (.exit 6))
  (.seq (.block 7 (.seq (r [o 68 (.ixA 6 (.t 64) (.t 66)),o 69 (.ld (some 6) (.t 68)),o 16 (.alloc [.int .i64 0,.int .i64 0,.nils,.bool false,.nils,.nils]),z (.st 6 (.t 16) (.t 69))] [0,1,9,10,11,12,
  16,37,38,39,64,65,66]) (.seq (r [o 70 (.fA 0 (.t 16)),o 71 (.fA 1 (.t 70)),o 72 (.ld none (.t 71)),o 73 (.fA 0 (.t 10)),o 74 (.fA 1 (.t 73)),o 75 (.ld none (.t 74)),o 76 (.bin .leq (.t 72)
  (.t 75))] [0,1,9,10,11,12,16,37,38,39,64,65,66,76]) (.cond (.t 76) (r [o 77 (.ld (some 3) (.t 12)),o 78 (.fA 3 (.t 16)),o 79 (.ld (some 3) (.t 78)),o 80 (.call 30 [(.t 77),(.t 79)]),
  z (.st 3 (.t 12) (.t 80))] [0,1,9,10,11,12,37,38,39,64,65,66]) .skip)))) (r [o 81 (.bin .add (.t 66) (i 1)),o 66 (.mv (.t 81))] [0,1,9,10,11,12,37,38,39,64,65,66])))))))
  (.seq (r [o 82 (.ld (some 3) (.t 12)),o 83 (.ld (some 3) (.t 11)),o 84 (.call 27 [(.t 82),(.t 83)]),o 85 (.bin .gtr (.t 84) (i 0))] [0,1,9,37,38,39,85]) (.cond (.t 85) (.seq (r [o 86 (.mv (.t 9)),
  o 4 (.mv (.c .nils)),o 5 (.mv (.t 86)),o 6 (.mv (i 0))] [4,5,6]) .ret) .skip))))))) (r [o 87 (.bin .add (.t 39) (i 1)),o 39 (.mv (.t 87))] [0,1,37,38,39]))))))) (.seq (r [o 88 (.mv (.t 0)),
  o 89 (.call 67 [(.t 88)]),o 90 (.mv (.t 1)),o 91 (.call 67 [(.t 90)]),o 92 (.call 71 [(.c .nils),(.t 89),(.t 91)]),o 4 (.mv (.t 92)),o 5 (.mv (i (-1))),o 6 (.mv (i 0))] [4,5,6]) .ret))))),[.t 4,
  .t 5,.t 6]⟩
theorem ref35_Below_ok : cFn Tryz.prog (kps [[0,1],[0,1,24],[4,5,6],[0,1,27,28,29],[0,1,27,28,29,30],[0,1,8,27,28,29],[0,1,27,28,29,35],[4,5,6],[0,1,27,28,29],[0,1,37,38,39],[0,1,37,38,39,40],[0,1,9,10,37,38,39],[0,1,9,10,11,12,37,38,39],[0,1,9,10,11,12,37,38,39,46,47,48],[0,1,9,10,11,12,37,38,39,46,47,48,49],[0,1,9,10,11,12,14,37,38,39,46,47,48],[0,1,9,10,11,12,14,37,38,39,46,47,48,58],[0,1,9,10,11,12,37,38,39,46,47,48],[0,1,9,10,11,12,37,38,39,46,47,48],[0,1,9,10,11,12,37,38,39,64,65,66],[0,1,9,10,11,12,37,38,39,64,65,66,67],[0,1,9,10,11,12,16,37,38,39,64,65,66],[0,1,9,10,11,12,16,37,38,39,64,65,66,76],[0,1,9,10,11,12,37,38,39,64,65,66],[0,1,9,10,11,12,37,38,39,64,65,66],[0,1,9,37,38,39,85],[4,5,6],[0,1,37,38,39],[4,5,6]]) [] 36 = some ref35_Below_c := by kernel_rfl
end Go.Proofs.YtnneehniendnfaaGreat.F

namespace Go.Proofs.YtnneehniendnfaaGreat
open Go Go.Proofs Go.Proofs.YtnneehniendnfaaGreat.E
set_option linter.unusedSimpArgs false
set_option linter.unusedVariables false
theorem gr_up : ∀ (f : Nat) {x y : List Rat} {i k : Nat}, (x.length - i) + (y.length - k) ≤ f → Up (gr x y i k) ∧ ∀ p ∈ gr x y i k, (i : Int) ≤ p.A ∧ (k : Int) ≤ p.B := by
  intro f
  induction f with
  | zero =>
    intro x y i k hf
    rw [gr_end (by omega)]
    exact ⟨List.Pairwise.nil, by simp⟩
  | succ f ih =>
    intro x y i k hf
    by_cases h : i < x.length ∧ k < y.length
    · obtain ⟨hi, hk⟩ := h
      rw [gr_step hi hk]
      have key : ∀ g : List Pq, Up g → (∀ p ∈ g, (i : Int) ≤ p.A ∧ (k : Int) ≤ p.B ∧ (i < p.A ∨ (i : Int) = p.A ∧ k < p.B ∨ (k : Int) < p.B)) → Up ((if 0 < minR x[i] y[k] then [(⟨i, k, minR x[i] y[k]⟩ : Pq)] else []) ++ g) ∧ ∀ p ∈ (if 0 < minR x[i] y[k] then [(⟨i, k, minR x[i] y[k]⟩ : Pq)] else []) ++ g, (i : Int) ≤ p.A ∧ (k : Int) ≤ p.B := by
        intro g u hg
        by_cases h0 : 0 < minR x[i] y[k]
        · rw [if_pos h0]
          refine ⟨?_, fun p hp => ?_⟩
          · show List.Pairwise _ (_ :: g)
            rw [List.pairwise_cons]
            refine ⟨fun p hp => ?_, u⟩
            have := hg p hp
            unfold ltk; dsimp only; omega
          · rcases List.mem_append.1 hp with hp | hp
            · simp only [List.mem_singleton] at hp; subst hp; dsimp only; omega
            · have := hg p hp; omega
        · rw [if_neg h0]
          exact ⟨u, fun p hp => by have := hg p hp; omega⟩
      by_cases c : x[i] - minR x[i] y[k] = 0
      · rw [if_pos c]
        obtain ⟨u, hg⟩ := ih (x := x.set i (x[i] - minR x[i] y[k])) (y := y.set k (y[k] - minR x[i] y[k])) (i := i + 1) (k := k) (by simp; omega)
        exact key _ u fun p hp => by have := hg p hp; omega
      · rw [if_neg c]
        obtain ⟨u, hg⟩ := ih (x := x.set i (x[i] - minR x[i] y[k])) (y := y.set k (y[k] - minR x[i] y[k])) (i := i) (k := k + 1) (by simp; omega)
        exact key _ u fun p hp => by have := hg p hp; omega
    · rw [gr_end h]
      exact ⟨List.Pairwise.nil, by simp⟩
def preL (l : List Rat) (i : Nat) : Rat := sumBy id (l.take i)
theorem sum_at (l : List Rat) : sumBy id l = sumBy (at0 l) (List.range l.length) := (sum_range fun i hi => at0_eq hi).symm
theorem sum_if_range {f : Nat → Rat} {i : Nat} : ∀ {n : Nat}, i ≤ n → sumBy (fun j => if j < i then f j else 0) (List.range n) = sumBy f (List.range i)
  | 0, h => by obtain rfl : i = 0 := by omega
               rfl
  | n + 1, h => by
    rw [List.range_succ, sumBy_snoc]
    by_cases e : i = n + 1
    · subst e
      rw [if_pos (by omega), List.range_succ, sumBy_snoc]
      congr 1
      exact sumBy_congr fun j hj => if_pos (by have := List.mem_range.1 hj; omega)
    · rw [if_neg (by omega), Rat.add_zero, sum_if_range (by omega)]
theorem pre_at {l : List Rat} {i : Nat} (h : i ≤ l.length) : preL l i = sumBy (fun j => if j < i then at0 l j else 0) (List.range l.length) := by
  rw [sum_if_range h]
  unfold preL
  rw [← sum_range (l := l.take i) (g := at0 l) (f := id) fun j hj => by
    have hj2 : j < l.length := by rw [List.length_take] at hj; omega
    rw [at0_eq hj2]; simp]
  rw [List.length_take, Nat.min_eq_left h]
theorem low_sum {x x0 : List Rat} {i : Nat} (hl : x.length = x0.length) (hi : i ≤ x0.length) (hle : ∀ j, at0 x j ≤ at0 x0 j) (hz : ∀ j, j < i → at0 x j = 0) : sumBy id x ≤ sumBy id x0 - preL x0 i := by
  rw [pre_at hi, sum_at x, sum_at x0, hl, ← sumBy_sub]
  refine sumBy_le fun j _ => ?_
  by_cases h : j < i
  · rw [if_pos h, hz j h]; grind
  · rw [if_neg h]; have := hle j; grind
theorem high_sum {y y0 : List Rat} {k : Nat} (hl : y.length = y0.length) (hk : k < y0.length) (hn : ∀ v ∈ y, 0 ≤ v) (he : ∀ j, k < j → at0 y j = at0 y0 j) (hp : 0 < at0 y k) : sumBy id y0 - preL y0 (k + 1) < sumBy id y := by
  have n0 : ∀ j, 0 ≤ at0 y j := fun j => by
    by_cases h : j < y.length
    · rw [at0_eq h]; exact hn _ (List.getElem_mem h)
    · rw [at0_none (by omega)]; grind
  have h1 : sumBy id y0 - preL y0 (k + 1) + at0 y k ≤ sumBy id y := by
    have e : at0 y k = sumBy (fun j : Nat => if ((k : Nat) : Int) = (j : Int) then at0 y k else 0) (List.range y0.length) := by rw [sum_pick, if_pos (by omega)]
    conv => lhs; rw [e]
    rw [pre_at (by omega), sum_at y, sum_at y0, hl, ← sumBy_sub, ← sumBy_add]
    refine sumBy_le fun j _ => ?_
    by_cases h : j < k + 1
    · rw [if_pos h]
      by_cases h2 : k = j
      · subst h2; rw [if_pos rfl]; grind
      · rw [if_neg (by omega)]; have := n0 j; grind
    · rw [if_neg h, if_neg (by omega), he j (by omega)]; grind
  grind
theorem gr_low {x0 y0 : List Rat} (h0 : sumBy id x0 = sumBy id y0) : ∀ (f : Nat) {x y : List Rat} {i k : Nat}, (x.length - i) + (y.length - k) ≤ f → x.length = x0.length → y.length = y0.length → (∀ v ∈ x, 0 ≤ v) → (∀ v ∈ y, 0 ≤ v) →
    (∀ j, at0 x j ≤ at0 x0 j) → (∀ j, j < i → at0 x j = 0) → (∀ j, k < j → at0 y j = at0 y0 j) → sumBy id x = sumBy id y →
    ∀ p ∈ gr x y i k, ∃ a b : Nat, p.A = a ∧ p.B = b ∧ a < x0.length ∧ b < y0.length ∧ preL x0 a < preL y0 (b + 1) := by
  intro f
  induction f with
  | zero =>
    intro x y i k hf _ _ _ _ _ _ _ _ p hp
    rw [gr_end (by omega)] at hp; simp at hp
  | succ f ih =>
    intro x y i k hf lx ly nx ny hx zx hy hs
    by_cases h : i < x.length ∧ k < y.length
    · obtain ⟨hi, hk⟩ := h
      have ni := nx _ (List.getElem_mem hi)
      have nk := ny _ (List.getElem_mem hk)
      obtain ⟨m1, m2, m3⟩ := minR_le x[i] y[k]
      have mn : 0 ≤ minR x[i] y[k] := by rcases m3 with m3 | m3 <;> rw [m3] <;> assumption
      rw [gr_step hi hk]
      have now : 0 < minR x[i] y[k] → preL x0 i < preL y0 (k + 1) := fun hw => by
        have a1 := low_sum (i := i) lx (by omega) hx zx
        have a2 := high_sum (k := k) ly (by omega) ny hy (by rw [at0_eq hk]; grind)
        rw [h0] at a1
        grind
      generalize hw : minR x[i] y[k] = w at *
      have nx' : ∀ v ∈ x.set i (x[i] - w), 0 ≤ v := fun v hv => by
        rcases List.mem_or_eq_of_mem_set hv with hv | rfl
        · exact nx v hv
        · grind
      have ny' : ∀ v ∈ y.set k (y[k] - w), 0 ≤ v := fun v hv => by
        rcases List.mem_or_eq_of_mem_set hv with hv | rfl
        · exact ny v hv
        · grind
      have hs' : sumBy id (x.set i (x[i] - w)) = sumBy id (y.set k (y[k] - w)) := by rw [sum_set hi, sum_set hk, hs]; grind
      have hx' : ∀ j, at0 (x.set i (x[i] - w)) j ≤ at0 x0 j := fun j => by
        rw [at0_set hi]
        split
        · rename_i e; subst e; have := hx i; rw [at0_eq hi] at this; grind
        · exact hx j
      have zx' : ∀ j, j < i → at0 (x.set i (x[i] - w)) j = 0 := fun j hj => by rw [at0_set hi, if_neg (by omega)]; exact zx j hj
      have hy' : ∀ j, k < j → at0 (y.set k (y[k] - w)) j = at0 y0 j := fun j hj => by rw [at0_set hk, if_neg (by omega)]; exact hy j hj
      intro p hp
      rcases List.mem_append.1 hp with hp | hp
      · by_cases hw0 : 0 < w
        · rw [if_pos hw0] at hp; simp only [List.mem_singleton] at hp; subst hp
          exact ⟨i, k, rfl, rfl, by omega, by omega, now hw0⟩
        · rw [if_neg hw0] at hp; simp at hp
      · by_cases c : x[i] - w = 0
        · rw [if_pos c] at hp
          refine ih (by simp; omega) (by simpa using lx) (by simpa using ly) nx' ny' hx' (fun j hj => ?_) hy' hs' p hp
          by_cases e : j = i
          · subst e; rw [at0_set hi, if_pos rfl]; exact c
          · exact zx' j (by omega)
        · rw [if_neg c] at hp
          refine ih (by simp; omega) (by simpa using lx) (by simpa using ly) nx' ny' hx' zx' (fun j hj => hy' j (by omega)) hs' p hp
    · intro p hp
      rw [gr_end h] at hp; simp at hp
def upQ (l : List Part) (t : Int) : Rat := sumBy (fun p => if p.v.n ≤ t then p.w.q else 0) l
structure Ints (l : List Part) : Prop where
  k : ∀ p ∈ l, p.v.k = 2
  up : ∀ i j (hi : i < l.length) (hj : j < l.length), i < j → l[i].v.n < l[j].v.n
theorem leaf_of {t : Tr} (h : rightT t = true) (hk : t.k = 2) : t.l = [] := by
  rw [rightT_shape] at h
  cases t with
  | mk k n l =>
    simp only [Tr.k] at hk; subst hk
    rw [shapeT_mk] at h
    simp [leafOK] at h
    by_cases h1 : l = []
    · exact h1
    · simp [h1] at h
theorem ints_of {l : List Part} (h : rightP l = true) (hk : ∀ p ∈ l, p.v.k = 2) : Ints l := by
  refine ⟨hk, fun i j hi hj hij => ?_⟩
  have hr := rise_of h i j hi hj hij
  have h0 := h
  simp only [rightP, Bool.and_eq_true, List.all_eq_true, List.mem_range, decide_eq_true_eq] at h0
  have leaf : ∀ i (hi : i < l.length), l[i].v = .mk 2 l[i].v.n [] := fun i hi => by
    have h1 := h0.1.2 i hi
    rw [partAt_eq hi] at h1
    simp only [Bool.and_eq_true] at h1
    have hk1 := hk _ (List.getElem_mem hi)
    have := leaf_of h1.1.1.1 hk1
    cases hv : l[i].v with
    | mk k n m => rw [hv] at this hk1; simp only [Tr.k, Tr.l] at *; subst hk1; subst this; rfl
  rw [leaf i hi, leaf j hj, cmpT_mk, cmpI_self] at hr
  rw [orI_lt, orI_lt, cmpI_lt] at hr
  rcases hr with hr | ⟨_, hr | ⟨_, hr⟩⟩
  · omega
  · exact hr
  · have e : cmpL [] [] = 0 := by rw [cmpL]
    omega
theorem q_pre {l : List Part} {i : Nat} (h : i ≤ l.length) : preL (l.map (·.w.q)) i = sumBy (fun j => if j < i then wq l j else 0) (List.range l.length) := by
  rw [pre_at (by simpa using h)]
  simp only [List.length_map]
  exact sumBy_congr fun j _ => by rw [at0_wq]
theorem up_by (l : List Part) (t : Int) : upQ l t = sumBy (fun j => if (match l[j]? with | some p => decide (p.v.n ≤ t) | none => false) then wq l j else 0) (List.range l.length) := by
  unfold upQ
  refine (sum_range fun j hj => ?_).symm
  rw [List.getElem?_eq_getElem hj, wq_eq hj]
  by_cases h : l[j].v.n ≤ t <;> simp [h]
section
variable {l : List Part}
theorem up_le (hp : ∀ p ∈ l, 0 < p.w.q) (hi : Ints l) {i : Nat} (h : i < l.length) {t : Int} (ht : t < l[i].v.n) : upQ l t ≤ preL (l.map (·.w.q)) i := by
  rw [q_pre (by omega), up_by]
  refine sumBy_le fun j hj => ?_
  have hj := List.mem_range.1 hj
  rw [List.getElem?_eq_getElem hj, wq_eq hj]
  have p0 := hp _ (List.getElem_mem hj)
  by_cases h1 : l[j].v.n ≤ t
  · have : j < i := by
      refine Nat.lt_of_not_le fun hle => ?_
      by_cases e : j = i
      · subst e; omega
      · have := hi.up i j h hj (by omega); omega
    simp [h1, this]
  · simp [h1]; split <;> grind
theorem up_pre (hi : Ints l) {i : Nat} (h : i ≤ l.length) {t : Int} (h1 : ∀ j (hj : j < l.length), j < i → l[j].v.n ≤ t) (h2 : ∀ hi : i < l.length, t < l[i].v.n) : upQ l t = preL (l.map (·.w.q)) i := by
  rw [q_pre h, up_by]
  refine sumBy_congr fun j hj => ?_
  have hj := List.mem_range.1 hj
  rw [List.getElem?_eq_getElem hj]
  by_cases c : j < i
  · simp [c, h1 j hj c]
  · have : ¬ l[j].v.n ≤ t := by
      have h3 := h2 (by omega)
      by_cases e : j = i
      · subst e; omega
      · have := hi.up i j (by omega) hj (by omega); omega
    simp [c, this]
theorem up_at_self (hi : Ints l) {k : Nat} (hk : k < l.length) : upQ l l[k].v.n = preL (l.map (·.w.q)) (k + 1) := by
  refine up_pre hi (by omega) (fun j hj hjk => ?_) (fun h => hi.up k (k + 1) hk h (by omega))
  by_cases e : j = k
  · subst e; omega
  · have := hi.up j k hj hk (by omega); omega
theorem up_mono (hp : ∀ p ∈ l, 0 < p.w.q) {s t : Int} (h : s ≤ t) : upQ l s ≤ upQ l t := sumBy_le fun p hp' => by
  have := hp p hp'
  by_cases h1 : p.v.n ≤ s
  · rw [if_pos h1, if_pos (by omega)]; grind
  · rw [if_neg h1]; split <;> grind
theorem up_nonneg (hp : ∀ p ∈ l, 0 < p.w.q) (t : Int) : 0 ≤ upQ l t := sum_nonneg fun p hp' => by
  have := hp p hp'
  split <;> grind
theorem below_all {a : List Part} (pa : ∀ p ∈ a, 0 < p.w.q) (hi : Ints l) (h : ∀ k (hk : k < l.length), upQ l l[k].v.n ≤ upQ a l[k].v.n) (t : Int) : upQ l t ≤ upQ a t := by
  -- the last place that is not above t
  have ex : ∀ n, n ≤ l.length → (∀ j (hj : j < l.length), j < n → l[j].v.n ≤ t) → (∀ hn : n < l.length, t < l[n].v.n) → upQ l t ≤ upQ a t := by
    intro n hn h1 h2
    rw [up_pre hi hn h1 h2]
    cases n with
    | zero => show 0 ≤ _; exact up_nonneg pa t
    | succ n =>
      rw [← up_at_self hi (show n < l.length by omega)]
      have := h n (by omega)
      have := up_mono pa (h1 n (by omega) (by omega))
      grind
  have find : ∀ n, n ≤ l.length → (∀ j (hj : j < l.length), j < n → l[j].v.n ≤ t) → ∃ m, m ≤ l.length ∧ (∀ j (hj : j < l.length), j < m → l[j].v.n ≤ t) ∧ ∀ hm : m < l.length, t < l[m].v.n := by
    intro n hn
    induction hd : l.length - n generalizing n with
    | zero => intro h1; exact ⟨n, hn, h1, fun h => by omega⟩
    | succ d ih =>
      intro h1
      have hlt : n < l.length := by omega
      by_cases c : l[n].v.n ≤ t
      · refine ih (n + 1) (by omega) (by omega) fun j hj hjn => ?_
        by_cases e : j = n
        · subst e; exact c
        · exact h1 j hj (by omega)
      · exact ⟨n, hn, h1, fun _ => by omega⟩
  obtain ⟨m, h1, h2, h3⟩ := find 0 (by omega) (by omega)
  exact ex m h1 h2 h3
end
end Go.Proofs.YtnneehniendnfaaGreat

namespace Go.Proofs.YtnneehniendnfaaGreat
open Go Go.Proofs Go.Proofs.YtnneehniendnfaaGreat.E
set_option linter.unusedSimpArgs false
set_option linter.unusedVariables false
theorem partC_0 (p : Part) : (partC p)[0]? = some (.int .i64 p.v.k) := by
  unfold partC; cases h : p.v with | mk k n l => simp [cells_mk, Tr.k]
theorem partC_1 (p : Part) : (partC p)[1]? = some (.int .i64 p.v.n) := by
  unfold partC; cases h : p.v with | mk k n l => simp [cells_mk, Tr.n]
theorem partC_e0 (p : Part) (h : 0 < (partC p).length) : (partC p)[0]'h = .int .i64 p.v.k := by
  have := partC_0 p; rw [List.getElem?_eq_getElem h] at this; simpa using this
theorem partC_e1 (p : Part) (h : 1 < (partC p).length) : (partC p)[1]'h = .int .i64 p.v.n := by
  have := partC_1 p; rw [List.getElem?_eq_getElem h] at this; simpa using this
theorem cells_0 (t : Tr) : t.cells[0]? = some (.int .i64 t.k) := by cases t; simp [cells_mk, Tr.k]
theorem cells_1 (t : Tr) : t.cells[1]? = some (.int .i64 t.n) := by cases t; simp [cells_mk, Tr.n]
def intP (l : List Part) : Bool := l.all fun p => decide (p.v.k = 2)
theorem intP_of {l : List Part} (h : intP l = true) : ∀ p ∈ l, p.v.k = 2 := by
  unfold intP at h; rw [List.all_eq_true] at h; intro p hp; simpa using h p hp
def failB (a b : List Part) (k : Nat) : Prop := ∃ h : k < b.length, upQ a b[k].v.n < upQ b b[k].v.n
def belowR (a b : List Part) (r : V) : Prop :=
  if rightP a && rightP b then
    if intP a && intP b then
      (∃ k : Nat, k < b.length ∧ failB a b k ∧ (∀ j, j < k → ¬ failB a b j) ∧ r = .tup [.dat [], .int .i64 k, .int .i64 0]) ∨
        ((∀ j, j < b.length → ¬ failB a b j) ∧ r = .tup [.dat ((gr (a.map (·.w.q)) (b.map (·.w.q)) 0 0).map Pq.c), .int .i64 (-1), .int .i64 0])
    else r = .tup [.dat [], .int .i64 0, .int .i64 30]
  else r = .tup [.dat [], .int .i64 0, .int .i64 1]
section
variable {l : List Part}
theorem up_fits (ho : ∀ p ∈ l, p.Ok 1000000) (t : Int) (m : List Part) (hm : ∀ p ∈ m, p ∈ l) (hl : m.length ≤ 60) : Fits (upQ m t) (2 ^ 31) := by
  refine (sumBy_fits (k := 1000000) _ fun p hp => ?_).mono ?_
  · split
    · exact Raw.fits (ho p (hm p hp)).w (by omega)
    · exact fits_zero.mono (by omega)
  · have : m.length * (1000000 + 1) ≤ 60 * (1000000 + 1) := Nat.mul_le_mul_right _ hl
    omega
theorem up_take {i : Nat} (h : i < l.length) (t : Int) : upQ (l.take (i + 1)) t = upQ (l.take i) t + (if l[i].v.n ≤ t then l[i].w.q else 0) := sumBy_take (f := fun p : Part => if p.v.n ≤ t then p.w.q else 0) h
theorem law35_upTo {t : Int} (hl : l.length ≤ 60) (ho : ∀ p ∈ l, p.Ok 1000000) : CallD Tryz.prog F.law35_upTo [pl l, .int .i64 t] (· = ratV (upQ l t)) := by
  refine callD_by F.law35_upTo_ok ?_
  unfold F.law35_upTo_c
  simp [setOb, List.filter_cons]
  refine callK_of ref02_Zero (by simp) ?_
  simp [setOb, List.filter_cons, ratV, raw_v]
  refine wm_loop (fun g : Nat => ((((((Sl.empty.set 10 (.int .i64 g)).set 9 (.int .i64 l.length)).set 5 (.ptr 1 0 0)).set 4 (.ptr 0 0 0)).set 1 (.int .i64 t)).set 0 (pl l), [(0, ⟨.own, 3, [[.bool false, .nils, .nils]]⟩), (1, ⟨.own, 3, [(rawOf (upQ (l.take g) t)).c]⟩)]))
    (fun g => g ≤ l.length) (fun g => l.length - g) 0 (by omega) ?_ ?_
  · refine weak_obs ?_ (by simp [upQ, sumBy]) (by repeat (first | exact sin_empty | refine sin_set (by simp) ?_)) (by simp; exact fun y hy => rawc_within _ y hy)
    repeat (first | exact sub_empty | refine sub_set (by simp) ?_)
  intro i hi
  have hf : Fits (upQ (l.take i) t) (2 ^ 31) := up_fits ho t _ (fun p hp => List.mem_of_mem_take hp) (by rw [List.length_take]; omega)
  by_cases h1 : i < l.length
  · have hst := up_take h1 t
    have okp := ho _ (List.getElem_mem h1)
    by_cases c : l[i].v.n ≤ t
    · rw [if_pos c] at hst
      simp [h1, partC_e1, partC_1, c]
      refine callFK_of (ref02_Add (rawOf_ok hf) (Raw.Ok.mono okp.w (by omega))) (by simp [toD_rawc, raw_v]) ?_
      simp [ratV, raw_v, rawOf_q, ← hst, setOb, List.filter_cons]
      rw [wrap64 (by omega) (by omega)]
      refine ⟨i + 1, h1, by dsimp only; omega, ?_⟩
      refine weak_obs ?_ (by simp) (by repeat (first | exact sin_empty | refine sin_set (by simp) ?_)) (by simp; exact fun y hy => rawc_within _ y hy)
      repeat (first | exact sub_empty | refine sub_set (by simp) ?_)
    · rw [if_neg c, Rat.add_zero] at hst
      simp [h1, partC_e1, partC_1, c]
      rw [wrap64 (by omega) (by omega)]
      refine ⟨i + 1, h1, by dsimp only; omega, ?_⟩
      dsimp only
      rw [hst]
      refine weak_obs ?_ (by simp) (by repeat (first | exact sin_empty | refine sin_set (by simp) ?_)) (by simp; exact fun y hy => rawc_within _ y hy)
      repeat (first | exact sub_empty | refine sub_set (by simp) ?_)
  · have hil : i = l.length := by omega
    subst hil
    simp [h1, setOb, List.filter_cons, toD_rawc, ratV, raw_v]
end
theorem couple_Below_1 {p : Part} : CallD Tryz.prog F.couple_Below_1 [.agg (partC p)] (· = .bool (decide (p.v.k ≠ 2))) := by
  refine callD_by F.couple_Below_1_ok ?_
  unfold F.couple_Below_1_c
  simp [setOb, List.filter_cons, partC_0, partC_e0]
section
variable {p : Part → Bool} {l : List Part} {f : Nat}
theorem index_Part0 (hl : l.length < 9223372036854775808) (h : ∀ a ∈ l, CallD Tryz.prog f [.agg (partC a)] (· = .bool (p a))) :
    CallX Tryz.prog F.slices_IndexFunc_Part_Part [pl l, .clo f []] [] (fun v s => v = .int .i64 (fidx p l) ∧ s = []) := by
  refine callX_by F.slices_IndexFunc_Part_Part_ok ?_
  unfold F.slices_IndexFunc_Part_Part_c
  simp
  refine wm_loop (fun g : Nat => ((((Sl.empty.set 8 (.int .i64 g)).set 7 (.int .i64 l.length)).set 1 (.clo f [])).set 0 (pl l), [])) (fun g => g ≤ l.length ∧ ∀ j (hj : j < l.length), j < g → p l[j] = false) (fun g => l.length - g) 0 ⟨by omega, fun j hj h => by omega⟩ ?_ ?_
  · exact weak_p (by repeat (first | exact sub_empty | refine sub_set (by simp) ?_)) (by repeat (first | exact sin_empty | refine sin_set (by simp) ?_))
  rintro i ⟨hi, hb⟩
  by_cases h1 : i < l.length
  · simp [h1]
    refine ⟨_, _, ⟨rfl, rfl⟩, callK_of (h _ (List.getElem_mem h1)) (by simp [toD_partC]) ?_⟩
    cases hp : p l[i] with
    | true =>
      simp
      exact doneX_same (by simp) (by simp; rfl) (by simp [fidx_at h1 hp hb]) (Has.refl _) shut_nil (by simp)
    | false =>
      simp
      rw [wrap64 (by omega) (by omega)]
      refine ⟨i + 1, ⟨by omega, fun j hj hji => ?_⟩, by dsimp only; omega, ?_⟩
      · by_cases e : j = i
        · subst e; exact hp
        · exact hb j hj (by omega)
      · exact weak_p (by repeat (first | exact sub_empty | refine sub_set (by simp) ?_)) (by repeat (first | exact sin_empty | refine sin_set (by simp) ?_))
  · simp [h1]
    exact doneX_same (by simp) (by simp; rfl) (by simp [fidx_none (fun j hj => hb j hj (by omega))]) (Has.refl _) shut_nil (by simp)
theorem contains_Part (hl : l.length < 9223372036854775808) (h : ∀ a ∈ l, CallD Tryz.prog f [.agg (partC a)] (· = .bool (p a))) :
    CallD Tryz.prog F.slices_ContainsFunc_Part_Part [pl l, .clo f []] (· = .bool (l.any p)) := by
  refine callD_by F.slices_ContainsFunc_Part_Part_ok ?_
  unfold F.slices_ContainsFunc_Part_Part_c
  simp
  refine callK_X (index_Part0 hl h) ?_
  rintro r s ⟨rfl, rfl⟩
  simp [fidx_nonneg]
end
end Go.Proofs.YtnneehniendnfaaGreat

namespace Go.Proofs.YtnneehniendnfaaGreat
open Go Go.Proofs Go.Proofs.YtnneehniendnfaaGreat.E
set_option linter.unusedSimpArgs false
set_option linter.unusedVariables false
def zPart : List V := [.int .i64 0, .int .i64 0, .nils, .bool false, .nils, .nils]
theorem zPart_plain : ∀ y ∈ zPart, ∀ p : Nat → Bool, y.within p = true := by
  intro y hy p
  simp [zPart] at hy
  rcases hy with rfl | rfl | rfl | rfl <;> simp
theorem slices_Grow0 {n : Nat} (h0 : 0 < n) (h1 : n ≤ 1000) : CallX Tryz.prog F.slices_Grow_Part_Part [.nils, .int .i64 n] [] (fun v s => ∃ q, v = .ref q 0 0 ∧ s = [(q, ⟨.own, 6, List.replicate n zPart⟩)]) := by
  refine callX_by F.slices_Grow_Part_Part_ok ?_
  unfold F.slices_Grow_Part_Part_c
  have e1 : ¬ (n : Int) < 0 := by omega
  have w0 : IntKind.i64.wrap 0 = 0 := wrap64 (by omega) (by omega)
  have w1 : IntKind.i64.wrap (n : Int) = n := wrap64 (by omega) (by omega)
  have e2 : (0 : Int) < n := by omega
  have e4 : ((n : Int) - 0) = n := by omega
  simp [e1, w0, w1, e2, e4]
  rw [if_pos (by omega)]
  simp [setOb, List.filter_cons]
  refine ⟨fun _ => ?_, fun h => by omega⟩
  refine doneX_gen (r := .ref 0 0 0) (l := [.ref 0 0 0]) (σ1 := [(0, ⟨.own, 6, List.replicate n zPart⟩)]) (by simp) (by simp) rfl (Has.refl _) (by simp) (shut_of fun p hp r hr y hy => ?_) (by simp [E.look]) ⟨0, rfl, rfl⟩
  simp only [List.mem_singleton] at hp; subst hp
  have := (List.mem_replicate.1 hr).2; subst this
  exact zPart_plain y hy _
theorem slices_Concat {a b : List Part} (ha : a ≠ []) (hb : b ≠ []) (la : a.length ≤ 400) (lb : b.length ≤ 400) : CallD Tryz.prog F.slices_Concat_Part_Part [.dat [[pl a], [pl b]]] (· = pl (a ++ b)) := by
  have a0 : 0 < a.length := List.length_pos_iff.2 ha
  have b0 : 0 < b.length := List.length_pos_iff.2 hb
  refine callD_by F.slices_Concat_Part_Part_ok ?_
  unfold F.slices_Concat_Part_Part_c
  simp
  refine wm_loop (fun g : Nat => (((((Sl.empty.set 11 (.int .i64 g)).set 10 (.int .i64 2)).set 9 (.dat [[pl a], [pl b]])).set 3 (.int .i64 (if g = 0 then 0 else if g = 1 then (a.length : Int) else a.length + b.length))).set 0 (.dat [[pl a], [pl b]]), [])) (fun g => g ≤ 2) (fun g => 2 - g) 0 (by omega) ?_ ?_
  · exact weak_p (by repeat (first | exact sub_empty | refine sub_set (by simp) ?_)) (by repeat (first | exact sin_empty | refine sin_set (by simp) ?_))
  intro g hg
  rcases (show g = 0 ∨ g = 1 ∨ g = 2 by omega) with rfl | rfl | rfl
  · simp
    rw [wrap64 (by omega) (by omega)]
    have e1 : ¬ (a.length : Int) < 0 := by omega
    simp [e1]
    rw [wrap64 (by omega) (by omega)]
    refine ⟨1, by omega, by dsimp only; omega, ?_⟩
    exact weak_p (by repeat (first | exact sub_empty | refine sub_set (by simp) ?_)) (by repeat (first | exact sin_empty | refine sin_set (by simp) ?_))
  · simp
    rw [wrap64 (by omega) (by omega)]
    have e1 : ¬ (a.length : Int) + b.length < 0 := by omega
    simp only [e1, decide_false]
    simp
    rw [wrap64 (by omega) (by omega)]
    intro _
    refine ⟨2, by omega, by dsimp only; omega, ?_⟩
    exact weak_p (by repeat (first | exact sub_empty | refine sub_set (by simp) ?_)) (by repeat (first | exact sin_empty | refine sin_set (by simp) ?_))
  simp
  have hG := slices_Grow0 (n := a.length + b.length) (by omega) (by omega)
  have ec : ((a.length + b.length : Nat) : Int) = (a.length : Int) + b.length := by omega
  rw [ec] at hG
  refine callK_X hG ?_
  rintro r s ⟨q, rfl, rfl⟩
  simp
  refine wm_loop (fun g : Nat × Nat => ((((Sl.empty.set 27 (.int .i64 g.2)).set 26 (.int .i64 2)).set 25 (.dat [[pl a], [pl b]])).set 6 (.ref g.1 0 (if g.2 = 0 then 0 else if g.2 = 1 then a.length else a.length + b.length)),
      [(g.1, ⟨.own, 6, if g.2 = 0 then List.replicate (a.length + b.length) zPart else if g.2 = 1 then a.map partC else (a ++ b).map partC⟩)]))
    (fun g => g.2 ≤ 2) (fun g => 2 - g.2) (q, 0) (by simp) ?_ ?_
  · refine weak_obs ?_ (by simp) (by repeat (first | exact sin_empty | refine sin_set (by simp) ?_)) (fun p hp r hr y hy => ?_)
    · repeat (first | exact sub_empty | refine sub_set (by simp) ?_)
    · simp at hp; subst hp
      have := (List.mem_replicate.1 hr).2; subst this
      exact zPart_plain y hy _
  have hw : ∀ l : List Part, Plain (l.map partC) := fun l r hr y hy p => by
    obtain ⟨x, _, rfl⟩ := List.mem_map.1 hr
    simp [partC] at hy
    rcases hy with hy | hy
    · exact cells_within _ y hy
    · exact rawc_within _ y hy
  have hall : ∀ l : List Part, ((l.map partC).all fun r => r.length == 6) = true := fun l => by simp
  rintro ⟨q, g⟩ hg
  dsimp only at hg
  rcases (show g = 0 ∨ g = 1 ∨ g = 2 by omega) with rfl | rfl | rfl
  · obtain ⟨p, a', rfl⟩ := List.exists_cons_of_ne_nil ha
    simp at la
    simp
    rw [if_neg (by omega), if_pos (by omega)]
    simp
    rw [wrap64 (by omega) (by omega)]
    refine ⟨(q + 1, 1), by simp, by dsimp only; omega, ?_⟩
    refine weak_obs ?_ (by simp) (by repeat (first | exact sin_empty | refine sin_set (by simp) ?_)) (fun x hx r hr y hy => ?_)
    · repeat (first | exact sub_empty | refine sub_set (by simp) ?_)
    · simp at hx; subst hx
      exact hw (p :: a') r (by simpa using hr) y hy _
  · obtain ⟨p, b', rfl⟩ := List.exists_cons_of_ne_nil hb
    simp at lb
    simp
    rw [if_pos (by omega)]
    simp
    rw [wrap64 (by omega) (by omega)]
    refine ⟨(q + 1, 2), by simp, by dsimp only; omega, ?_⟩
    refine weak_obs ?_ (by simp) (by repeat (first | exact sin_empty | refine sin_set (by simp) ?_)) (fun x hx r hr y hy => ?_)
    · repeat (first | exact sub_empty | refine sub_set (by simp) ?_)
    · simp at hx; subst hx
      exact hw (a ++ p :: b') r (by simpa using hr) y hy _
  · simp
    rw [E.toD_ref (k := 11) (st := .own) (es := 6) (l := (a ++ b).map partC) (by simp [E.look]) (by simp) (by simp) (by simp) (by omega) (fun r hr => by
      obtain ⟨x, _, rfl⟩ := List.mem_map.1 hr; exact toD_partC _ _ _)]
end Go.Proofs.YtnneehniendnfaaGreat

namespace Go.Proofs.YtnneehniendnfaaGreat
open Go Go.Proofs Go.Proofs.YtnneehniendnfaaGreat.E
set_option linter.unusedSimpArgs false
set_option linter.unusedVariables false
theorem belowR_int {a b : List Part} (ha : rightP a = true) (hb : rightP b = true) (h : (intP a && intP b) = true) (r : V) : belowR a b r ↔ ((∃ k : Nat, k < b.length ∧ failB a b k ∧ (∀ j, j < k → ¬ failB a b j) ∧ r = .tup [.dat [], .int .i64 k, .int .i64 0]) ∨
        ((∀ j, j < b.length → ¬ failB a b j) ∧ r = .tup [.dat ((gr (a.map (·.w.q)) (b.map (·.w.q)) 0 0).map Pq.c), .int .i64 (-1), .int .i64 0])) := by
  unfold belowR; rw [ha, hb, h]; rfl
theorem belowR_kind {a b : List Part} (ha : rightP a = true) (hb : rightP b = true) (h : (intP a && intP b) = false) (r : V) : belowR a b r ↔ r = .tup [.dat [], .int .i64 0, .int .i64 30] := by
  unfold belowR; rw [ha, hb, h]; rfl
theorem any_kind (a b : List Part) : ((a ++ b).any fun p => decide (p.v.k ≠ 2)) = !(intP a && intP b) := by
  unfold intP
  rw [List.any_append]
  have e : ∀ l : List Part, (l.any fun p => decide (p.v.k ≠ 2)) = !(l.all fun p => decide (p.v.k = 2)) := fun l => by
    induction l with
    | nil => rfl
    | cons p l ih => simp only [List.any_cons, List.all_cons, ih, Bool.not_and]; congr 1; by_cases h : p.v.k = 2 <;> simp [h]
  rw [e, e, Bool.not_and]
theorem cmpR_pos {a b : Rat} : 0 < cmpR a b ↔ b < a := by
  unfold cmpR
  split
  · exact ⟨fun h => by omega, fun h => by grind⟩
  · split
    · rename_i h; exact ⟨fun _ => h, fun _ => by omega⟩
    · rename_i h; exact ⟨fun h => by omega, fun h' => (h h').elim⟩
theorem part_plain (p : Part) : ∀ y ∈ partC p, ∀ f : Nat → Bool, y.within f = true := by
  intro y hy f
  rcases List.mem_append.1 hy with hy | hy
  · exact cells_within _ y hy
  · exact rawc_within _ y hy
theorem preL_fits {l : List Part} (ho : ∀ p ∈ l, p.Ok 1000000) (hl : l.length ≤ 60) (i : Nat) : Fits (preL (l.map (·.w.q)) i) 60000062 := by
  unfold preL
  rw [← List.map_take, sumBy_map]
  refine (sumBy_fits (k := 1000000) _ fun p hp => Raw.fits (ho p (List.mem_of_mem_take hp)).w (by omega)).mono ?_
  rw [List.length_take]
  have : min i l.length * (1000000 + 1) ≤ 60 * (1000000 + 1) := Nat.mul_le_mul_right _ (by omega)
  omega
theorem preL_succ {l : List Part} {i : Nat} (h : i < l.length) : preL (l.map (·.w.q)) (i + 1) = preL (l.map (·.w.q)) i + l[i].w.q := by
  unfold preL
  rw [sumBy_take (by simpa using h)]; simp
set_option maxHeartbeats 8000000 in
theorem couple_Below {a b : List Part} (na : a.length ≤ 10) (nb : b.length ≤ 10) (oa : ∀ p ∈ a, p.Ok 3) (ob : ∀ p ∈ b, p.Ok 3) :
    CallD Tryz.prog F.couple_Below [pl a, pl b] (belowR a b) := by
  have oa6 : ∀ p ∈ a, p.Ok 1000000 := fun p h => ⟨(oa p h).v, (oa p h).w.dn, (oa p h).w.dd, Nat.le_trans (oa p h).w.ln (by omega), Nat.le_trans (oa p h).w.ld (by omega)⟩
  have ob6 : ∀ p ∈ b, p.Ok 1000000 := fun p h => ⟨(ob p h).v, (ob p h).w.dn, (ob p h).w.dd, Nat.le_trans (ob p h).w.ln (by omega), Nat.le_trans (ob p h).w.ld (by omega)⟩
  refine callD_by F.couple_Below_ok ?_
  unfold F.couple_Below_c
  simp [setOb, List.filter_cons]
  refine callK_of (couple_Right (by omega) oa6) (by simp) ?_
  cases hra : rightP a with
  | false => simp [belowR, hra]
  | true =>
  simp
  refine callK_of (couple_Right (by omega) ob6) (by simp) ?_
  cases hrb : rightP b with
  | false => simp [belowR, hra, hrb]
  | true =>
  have ga := good_of hra oa6
  have gb := good_of hrb ob6
  have n1 : a.length ≠ 0 := fun h => ga.ne (List.length_eq_zero_iff.1 h)
  have n2 : b.length ≠ 0 := fun h => gb.ne (List.length_eq_zero_iff.1 h)
  have na' := ga.ne
  have nb' := gb.ne
  simp [setOb, List.filter_cons]
  refine callK_of (slices_Concat na' nb' (by omega) (by omega)) ?_ ?_
  · rw [toDs_cons', E.toD_ref (k := 11) (st := .own) (es := 1) (l := [[pl a], [pl b]]) (by simp [E.look]) (by simp) (by simp) (by simp) (by simp) (by simp)]
    simp
  simp
  have hk := contains_Part (p := fun p => decide (p.v.k ≠ 2)) (l := a ++ b) (f := F.couple_Below_1) (by simp; omega) fun p _ => couple_Below_1
  rw [any_kind] at hk
  refine callK_of hk (by simp [E.toD_clo0]) ?_
  cases hint : intP a && intP b with
  | false => simp [belowR_kind hra hrb hint]
  | true =>
  have hi2 := hint
  simp only [Bool.and_eq_true] at hi2
  have ia := ints_of hra (intP_of hi2.1)
  have ib := ints_of hrb (intP_of hi2.2)
  simp
  refine callK_of ratio_Zero (by simp) ?_
  simp [setOb, List.filter_cons, ratV, raw_v]
  generalize frz _ _ = τ
  generalize fresh τ = q
  generalize hA : a.map (·.w.q) = A
  generalize hB : b.map (·.w.q) = B
  have fA : ∀ i, Fits (preL A i) 60000062 := fun i => by rw [← hA]; exact preL_fits oa6 (by omega) i
  have fB : ∀ i, Fits (preL B i) 60000062 := fun i => by rw [← hB]; exact preL_fits ob6 (by omega) i
  have fD : ∀ k i, Fits (preL B k - preL A i) (2 ^ 31 - 1000010) := fun k i => (fits_sub (fB k) (fA i)).mono (by omega)
  have okD : ∀ k i, (rawOf (preL B k - preL A i)).Ok (2 ^ 31) := fun k i => rawOf_ok ((fD k i).mono (by omega))
  have sA : ∀ i (h : i < a.length), preL A (i + 1) = preL A i + a[i].w.q := fun i h => by rw [← hA]; exact preL_succ h
  have sB : ∀ i (h : i < b.length), preL B (i + 1) = preL B i + b[i].w.q := fun i h => by rw [← hB]; exact preL_succ h
  refine wm_loop (fun g : Nat × Nat => (((((((Sl.empty.set 27 (.int .i64 g.1)).set 26 (.int .i64 b.length)).set 25 (pl b)).set 8 (.int .i64 g.2)).set 7 (.ptr q 0 0)).set 1 (pl b)).set 0 (pl a), [(q, ⟨.own, 3, [(rawOf (preL B g.1 - preL A g.2)).c]⟩)]))
    (fun g => g.1 ≤ b.length ∧ g.2 ≤ a.length ∧ (∀ j, j < g.1 → ¬ failB a b j) ∧ ∀ j (hj : j < a.length), j < g.2 → ∀ h : g.1 < b.length, a[j].v.n ≤ b[g.1].v.n) (fun g => b.length - g.1) (0, 0) ⟨by simp, by simp, by simp, by simp⟩ ?_ ?_
  · have e0 : preL B 0 - preL A 0 = 0 := by show (0 : Rat) - 0 = 0; grind
    refine weak_obs ?_ (by simp [e0, E.look]) (by repeat (first | exact sin_empty | refine sin_set (by simp) ?_)) (by simp; exact fun y hy => rawc_within _ y hy)
    repeat (first | exact sub_empty | refine sub_set (by simp) ?_)
  rintro ⟨k, i⟩ ⟨hk1, hi1, hno, hlow⟩
  dsimp only at hk1 hi1 hno hlow
  by_cases h1 : k < b.length
  · have okB := ob6 _ (List.getElem_mem h1)
    have tk : List.take 6 (partC b[k]) = partC b[k] := by simp
    have e1 : preL B k - preL A i + b[k].w.q = preL B (k + 1) - preL A i := by rw [sB k h1]; grind
    simp [h1, setOb, List.filter_cons]
    refine callK_of (ratio_Add (okD k i) (Raw.Ok.mono okB.w (by omega))) (by simp [toD_rawc, raw_v]) ?_
    rw [rawOf_q, e1]
    simp [ratV, raw_v, setOb, List.filter_cons]
    refine wm_loop (fun g : Nat => (((((((((Sl.empty.set 27 (.int .i64 k)).set 26 (.int .i64 b.length)).set 25 (pl b)).set 10 (.ptr (q + 1) 0 0)).set 9 (.int .i64 k)).set 8 (.int .i64 g)).set 7 (.ptr q 0 0)).set 1 (pl b)).set 0 (pl a),
        [(q, ⟨.own, 3, [(rawOf (preL B (k + 1) - preL A g)).c]⟩), (q + 1, ⟨.own, 6, [partC b[k]]⟩)]))
      (fun g => g ≤ a.length ∧ ∀ j (hj : j < a.length), j < g → a[j].v.n ≤ b[k].v.n) (fun g => a.length - g) i ⟨hi1, fun j hj hji => hlow j hj hji h1⟩ ?_ ?_
    · refine weak_obs ?_ (by simp [E.look]) (by repeat (first | exact sin_empty | refine sin_set (by simp) ?_)) ?_
      · repeat (first | exact sub_empty | refine sub_set (by simp) ?_)
      · simp; exact ⟨fun y hy => rawc_within _ y hy, fun y hy => part_plain _ y hy _⟩
    rintro i ⟨hi, hlo⟩
    have fin : (∀ h : i < a.length, b[k].v.n < a[i].v.n) → (failB a b k ↔ preL A i < preL B (k + 1)) := fun hs => by
      have u1 := up_at_self ib h1
      have u2 := up_pre ia hi hlo hs
      rw [hA] at u2; rw [hB] at u1
      unfold failB
      rw [← u2, ← u1]
      exact ⟨fun ⟨_, h⟩ => h, fun h => ⟨h1, h⟩⟩
    by_cases h2 : i < a.length
    · have okA := oa6 _ (List.getElem_mem h2)
      by_cases h3 : a[i].v.n ≤ b[k].v.n
      · have e2 : preL B (k + 1) - preL A i - a[i].w.q = preL B (k + 1) - preL A (i + 1) := by rw [sA i h2]; grind
        simp [h2, partC_e1, partC_1, h3]
        refine callFK_of (ratio_Sub (okD (k + 1) i) (Raw.Ok.mono okA.w (by omega))) (by simp [toD_rawc, raw_v]) ?_
        rw [rawOf_q, e2]
        simp [ratV, raw_v, setOb, List.filter_cons]
        rw [wrap64 (by omega) (by omega)]
        refine ⟨i + 1, ⟨h2, fun j hj hji => ?_⟩, by dsimp only; omega, ?_⟩
        · by_cases e : j = i
          · subst e; exact h3
          · exact hlo j hj (by omega)
        · refine weak_obs ?_ (by simp [E.look]) (by repeat (first | exact sin_empty | refine sin_set (by simp) ?_)) ?_
          · repeat (first | exact sub_empty | refine sub_set (by simp) ?_)
          · simp; exact ⟨fun y hy => rawc_within _ y hy, fun y hy => part_plain _ y hy _⟩
      · simp [h2, partC_e1, partC_1, h3]
        refine callK_of (ratio_Sign (rawOf_ok ((fD (k + 1) i).mono (by omega)))) (by simp [toD_rawc, raw_v]) ?_
        rw [rawOf_q]
        by_cases hf : failB a b k
        · have hs : 0 < sgnR (preL B (k + 1) - preL A i) := by unfold sgnR; rw [cmpR_pos]; have := (fin (fun _ => by omega)).1 hf; grind
          simp [hs]
          rw [belowR_int hra hrb hint]
          exact .inl ⟨k, h1, hf, hno, rfl⟩
        · have hs : ¬ 0 < sgnR (preL B (k + 1) - preL A i) := by unfold sgnR; rw [cmpR_pos]; intro h; exact hf ((fin (fun _ => by omega)).2 (by grind))
          simp [hs]
          rw [wrap64 (by omega) (by omega)]
          refine ⟨(k + 1, i), ⟨h1, hi, fun j hj => ?_, fun j hj hji h => ?_⟩, by dsimp only; omega, ?_⟩
          · by_cases e : j = k
            · subst e; exact hf
            · exact hno j (by omega)
          · have := hlo j hj hji
            have := ib.up k (k + 1) h1 h (by omega)
            dsimp only; omega
          · refine weak_obs ?_ (by simp [E.look]) (by repeat (first | exact sin_empty | refine sin_set (by simp) ?_)) (by simp; exact fun y hy => rawc_within _ y hy)
            repeat (first | exact sub_empty | refine sub_set (by simp) ?_)
    · simp [h2]
      refine callK_of (ratio_Sign (rawOf_ok ((fD (k + 1) i).mono (by omega)))) (by simp [toD_rawc, raw_v]) ?_
      rw [rawOf_q]
      by_cases hf : failB a b k
      · have hs : 0 < sgnR (preL B (k + 1) - preL A i) := by unfold sgnR; rw [cmpR_pos]; have := (fin (fun h => absurd h h2)).1 hf; grind
        simp [hs]
        rw [belowR_int hra hrb hint]
        exact .inl ⟨k, h1, hf, hno, rfl⟩
      · have hs : ¬ 0 < sgnR (preL B (k + 1) - preL A i) := by unfold sgnR; rw [cmpR_pos]; intro h; exact hf ((fin (fun h => absurd h h2)).2 (by grind))
        simp [hs]
        rw [wrap64 (by omega) (by omega)]
        refine ⟨(k + 1, i), ⟨h1, hi, fun j hj => ?_, fun j hj hji h => ?_⟩, by dsimp only; omega, ?_⟩
        · by_cases e : j = k
          · subst e; exact hf
          · exact hno j (by omega)
        · have := hlo j hj hji
          have := ib.up k (k + 1) h1 h (by omega)
          dsimp only; omega
        · refine weak_obs ?_ (by simp [E.look]) (by repeat (first | exact sin_empty | refine sin_set (by simp) ?_)) (by simp; exact fun y hy => rawc_within _ y hy)
          repeat (first | exact sub_empty | refine sub_set (by simp) ?_)
  · have hil : k = b.length := by omega
    subst hil
    clear hlow
    simp [h1]
    refine callK_X (couple_weights (by omega) oa6) ?_
    rintro r s ⟨rfl, rfl⟩
    simp [took, na', grown_pos n1]
    refine callK_X (couple_weights (by omega) ob6) ?_
    rintro r s ⟨rfl, rfl⟩
    simp [took, na', nb', grown_pos n2]
    rw [wts_rq a, wts_rq b, hA, hB]
    generalize (rawOf (preL B b.length - preL A i)) = z
    have hfr : fresh (setOb [(q, ⟨.own, 3, [z.c]⟩)] (q + 1) ⟨.own, 3, List.map rq A⟩) = q + 2 := by rw [fresh_set]; simp [fresh]
    rw [hfr]
    have hrest := (comm_inv ga gb na nb (fun p h => (oa p h).w) (fun p h => (ob p h).w) 0 (Nat.zero_le _)).rest
    have e0 : commS a b 0 = ([], a.map (·.w.q), b.map (·.w.q)) := rfl
    rw [e0, hA, hB] at hrest
    dsimp only at hrest
    have hsh : Shut [(q, (⟨.own, 3, [z.c]⟩ : Ob))] := shut_of (by simp; exact fun y hy => rawc_within _ y hy)
    refine callK_X (couple_inOrder (σ := setOb (setOb [(q, ⟨.own, 3, [z.c]⟩)] (q + 1) (obR A)) (q + 2) (obR B)) (o := q + 1) (p := q + 2) (x := A) (y := B) (by simp) (by simp) (by omega) (shut_set (shut_set hsh (plain_R _)) (plain_R _)) hrest (by omega) (by omega)) ?_
    rintro r s ⟨q', rfl, g2, g3, g4, g5, g6⟩
    simp
    have hd : toD s 11 (grown q' (gr A B 0 0).length) = some (.dat ((gr A B 0 0).map Pq.c)) := toD_grown (k := 10) (st := .own) (es := 5) (fun h => g2 (fun e => h (by rw [e]; rfl))) (by simp) (by simp) (by simp) (fun r hr => by obtain ⟨x, _, rfl⟩ := List.mem_map.1 hr; exact toD_prC _ _ _)
    rw [hd]
    simp
    rw [belowR_int hra hrb hint, hA, hB]
    exact .inr ⟨hno, rfl⟩
end Go.Proofs.YtnneehniendnfaaGreat

namespace Go.Proofs.YtnneehniendnfaaGreat
open Go Go.Proofs Go.Proofs.YtnneehniendnfaaGreat.E
set_option linter.unusedSimpArgs false
set_option linter.unusedVariables false
theorem vals_kind {a b : List Part} (ga : Good a) (gb : Good b) : (∀ v ∈ valsT a b, v.k = 2) ↔ (intP a && intP b) = true := by
  unfold intP
  simp only [Bool.and_eq_true, List.all_eq_true, decide_eq_true_eq]
  constructor
  · intro h
    have h1 : ∀ p ∈ a, p.v.k = 2 := fun p hp => h _ (List.mem_append.2 (.inl (List.mem_map.2 ⟨p, hp, rfl⟩)))
    refine ⟨h1, fun q hq => ?_⟩
    by_cases e : wtQ a q.v = 0
    · exact h _ (List.mem_append.2 (.inr (List.mem_map.2 ⟨q, List.mem_filter.2 ⟨hq, by simpa using e⟩, rfl⟩)))
    · by_cases ex : ∃ p ∈ a, p.v = q.v
      · obtain ⟨p, hp, e2⟩ := ex; rw [← e2]; exact h1 p hp
      · exact (e (wtQ_none fun p hp e2 => ex ⟨p, hp, e2⟩)).elim
  · rintro ⟨h1, h2⟩ v hv
    rcases List.mem_append.1 hv with hv | hv
    · obtain ⟨p, hp, rfl⟩ := List.mem_map.1 hv; exact h1 p hp
    · obtain ⟨q, hq, rfl⟩ := List.mem_map.1 hv; exact h2 q (List.mem_filter.1 hq).1
theorem E.CallX.congr {P : Program} {f : Nat} {vs : List V} {σ σ' : Sto} {Q : V → Sto → Prop} (h : CallX P f vs σ Q) (e : ∀ o, E.look σ' o = E.look σ o) : CallX P f vs σ' Q :=
  ⟨h.1, fun w0 base I0 I β w cs hI ha => h.2 w0 base I0 I β w cs (hI.congr fun o => (e o).symm) ha⟩
theorem cells_e0 (t : Tr) (h : 0 < t.cells.length) : t.cells[0]'h = .int .i64 t.k := by
  have := cells_0 t; rw [List.getElem?_eq_getElem h] at this; simpa using this
set_option maxHeartbeats 8000000 in
theorem ref35_Below {a b : List Part} (na : a.length ≤ 10) (nb : b.length ≤ 10) (oa : ∀ p ∈ a, p.Ok 3) (ob : ∀ p ∈ b, p.Ok 3) :
    CallD Tryz.prog F.ref35_Below [pl a, pl b] (belowR a b) := by
  have oa6 : ∀ p ∈ a, p.Ok 1000000 := fun p h => ⟨(oa p h).v, (oa p h).w.dn, (oa p h).w.dd, Nat.le_trans (oa p h).w.ln (by omega), Nat.le_trans (oa p h).w.ld (by omega)⟩
  have ob6 : ∀ p ∈ b, p.Ok 1000000 := fun p h => ⟨(ob p h).v, (ob p h).w.dn, (ob p h).w.dd, Nat.le_trans (ob p h).w.ln (by omega), Nat.le_trans (ob p h).w.ld (by omega)⟩
  refine callD_by F.ref35_Below_ok ?_
  unfold F.ref35_Below_c
  simp [setOb, List.filter_cons]
  refine callK_of (ref35_Right (by omega) oa6) (by simp) ?_
  cases hra : rightP a with
  | false => simp [belowR, hra]
  | true =>
  simp
  refine callK_of (ref35_Right (by omega) ob6) (by simp) ?_
  cases hrb : rightP b with
  | false => simp [belowR, hra, hrb]
  | true =>
  have ga := good_of hra oa6
  have gb := good_of hrb ob6
  have n1 : a.length ≠ 0 := fun h => ga.ne (List.length_eq_zero_iff.1 h)
  have n2 : b.length ≠ 0 := fun h => gb.ne (List.length_eq_zero_iff.1 h)
  have na' := ga.ne
  have nb' := gb.ne
  have lv := vals_len a b
  simp
  refine callK_of (ref35_Values (by omega) (by omega) ga ob6) (by simp) ?_
  simp
  refine wm_loop (fun g : Nat => (((((Sl.empty.set 29 (.int .i64 g)).set 28 (.int .i64 (valsT a b).length)).set 27 (tl (valsT a b))).set 1 (pl b)).set 0 (pl a), [])) (fun g => g ≤ (valsT a b).length ∧ ∀ j (hj : j < (valsT a b).length), j < g → (valsT a b)[j].k = 2) (fun g => (valsT a b).length - g) 0 ⟨by omega, by omega⟩ ?_ ?_
  · exact weak_p (by repeat (first | exact sub_empty | refine sub_set (by simp) ?_)) (by repeat (first | exact sin_empty | refine sin_set (by simp) ?_))
  rintro i ⟨hi, hb⟩
  by_cases h1 : i < (valsT a b).length
  · have c0 := cells_0 (valsT a b)[i]
    simp [h1, setOb, List.filter_cons, c0, cells_e0]
    generalize hv : (valsT a b)[i] = v at *
    by_cases hk : v.k = 2
    · simp [hk]
      rw [wrap64 (by omega) (by omega)]
      refine ⟨i + 1, ⟨h1, fun j hj hji => ?_⟩, by dsimp only; omega, ?_⟩
      · by_cases e : j = i
        · subst e; rw [hv]; exact hk
        · exact hb j hj (by omega)
      · exact weak_p (by repeat (first | exact sub_empty | refine sub_set (by simp) ?_)) (by repeat (first | exact sin_empty | refine sin_set (by simp) ?_))
    · have hint : (intP a && intP b) = false := by
        rw [Bool.eq_false_iff]
        exact fun h => hk (by rw [← hv]; exact (vals_kind ga gb).2 h _ (List.getElem_mem h1))
      simp [hk, belowR_kind hra hrb hint]
  have hint : (intP a && intP b) = true := (vals_kind ga gb).1 fun v hv => by
    obtain ⟨j, hj, rfl⟩ := List.getElem_of_mem hv
    exact hb j hj (by omega)
  have hi2 := hint
  simp only [Bool.and_eq_true] at hi2
  simp [h1]
  clear h1 hb hi
  have up31 : ∀ (l : List Part) (t : Int) (i : Nat), (∀ p ∈ l, p.Ok 1000000) → l.length ≤ 60 → (rawOf (upQ (l.take i) t)).Ok (2 ^ 31) := fun l t i ho hl => rawOf_ok (up_fits ho t _ (fun p hp => List.mem_of_mem_take hp) (by rw [List.length_take]; omega))
  refine wm_loop (fun g : Nat => (((((Sl.empty.set 39 (.int .i64 g)).set 38 (.int .i64 b.length)).set 37 (pl b)).set 1 (pl b)).set 0 (pl a), [])) (fun g => g ≤ b.length ∧ ∀ j, j < g → ¬ failB a b j) (fun g => b.length - g) 0 ⟨by omega, by omega⟩ ?_ ?_
  · exact weak_p (by repeat (first | exact sub_empty | refine sub_set (by simp) ?_)) (by repeat (first | exact sin_empty | refine sin_set (by simp) ?_))
  rintro k ⟨hk, hno⟩
  by_cases h1 : k < b.length
  · simp [h1, setOb, List.filter_cons]
    refine callK_of ref02_Zero (by simp) ?_
    simp
    refine callK_of ref02_Zero (by simp) ?_
    simp [setOb, List.filter_cons, ratV, raw_v]
    generalize ht : b[k].v.n = t
    have hs1 : ∀ (x y : Raw), ∀ p ∈ ([(0, ⟨.own, 6, [partC b[k]]⟩), (1, ⟨.own, 3, [x.c]⟩), (2, ⟨.own, 3, [y.c]⟩)] : Sto), ∀ r ∈ p.2.cells, ∀ z ∈ r, ∀ f : Nat → Bool, z.within f = true := fun x y p hp r hr z hz f => by
      simp only [List.mem_cons, List.not_mem_nil, or_false] at hp
      rcases hp with rfl | rfl | rfl <;> simp at hr <;> subst hr
      · exact part_plain _ z hz f
      · exact rawc_within _ z hz
      · exact rawc_within _ z hz
    refine wm_loop (fun g : Nat => ((((((((((((Sl.empty.set 48 (.int .i64 g)).set 47 (.int .i64 a.length)).set 46 (pl a)).set 39 (.int .i64 k)).set 38 (.int .i64 b.length)).set 37 (pl b)).set 12 (.ptr 2 0 0)).set 11 (.ptr 1 0 0)).set 10 (.ptr 0 0 0)).set 9 (.int .i64 k)).set 1 (pl b)).set 0 (pl a),
        [(0, ⟨.own, 6, [partC b[k]]⟩), (1, ⟨.own, 3, [(rawOf (upQ (a.take g) t)).c]⟩), (2, ⟨.own, 3, [(rawOf 0).c]⟩)]))
      (fun g => g ≤ a.length) (fun g => a.length - g) 0 (by omega) ?_ ?_
    · refine weak_obs ?_ (by simp [upQ, sumBy]) (by repeat (first | exact sin_empty | refine sin_set (by simp) ?_)) (fun p hp r hr z hz => hs1 _ _ p hp r hr z hz _)
      repeat (first | exact sub_empty | refine sub_set (by simp) ?_)
    intro i hi
    by_cases h2 : i < a.length
    · have okA := oa6 _ (List.getElem_mem h2)
      have hst := up_take h2 t
      by_cases c : a[i].v.n ≤ t
      · rw [if_pos c] at hst
        simp [h2, setOb, List.filter_cons, partC_e1, partC_1, ht, c]
        refine callK_of (ref02_Add (up31 a t i oa6 (by omega)) (Raw.Ok.mono okA.w (by omega))) (by simp [toD_rawc, raw_v]) ?_
        rw [rawOf_q, ← hst]
        simp [ratV, raw_v, setOb, List.filter_cons]
        rw [wrap64 (by omega) (by omega)]
        refine ⟨i + 1, h2, by dsimp only; omega, ?_⟩
        refine weak_obs ?_ (by simp) (by repeat (first | exact sin_empty | refine sin_set (by simp) ?_)) (fun p hp r hr z hz => hs1 _ _ p hp r hr z hz _)
        repeat (first | exact sub_empty | refine sub_set (by simp) ?_)
      · rw [if_neg c, Rat.add_zero] at hst
        simp [h2, setOb, List.filter_cons, partC_e1, partC_1, ht, c]
        rw [wrap64 (by omega) (by omega)]
        refine ⟨i + 1, h2, by dsimp only; omega, ?_⟩
        dsimp only
        rw [hst]
        refine weak_obs ?_ (by simp) (by repeat (first | exact sin_empty | refine sin_set (by simp) ?_)) (fun p hp r hr z hz => hs1 _ _ p hp r hr z hz _)
        repeat (first | exact sub_empty | refine sub_set (by simp) ?_)
    have hil : i = a.length := by omega
    subst hil
    simp [h2]
    refine wm_loop (fun g : Nat => ((((((((((((Sl.empty.set 66 (.int .i64 g)).set 65 (.int .i64 b.length)).set 64 (pl b)).set 39 (.int .i64 k)).set 38 (.int .i64 b.length)).set 37 (pl b)).set 12 (.ptr 2 0 0)).set 11 (.ptr 1 0 0)).set 10 (.ptr 0 0 0)).set 9 (.int .i64 k)).set 1 (pl b)).set 0 (pl a),
        [(0, ⟨.own, 6, [partC b[k]]⟩), (1, ⟨.own, 3, [(rawOf (upQ a t)).c]⟩), (2, ⟨.own, 3, [(rawOf (upQ (b.take g) t)).c]⟩)]))
      (fun g => g ≤ b.length) (fun g => b.length - g) 0 (by omega) ?_ ?_
    · refine weak_obs ?_ (by simp [upQ, sumBy]) (by repeat (first | exact sin_empty | refine sin_set (by simp) ?_)) (fun p hp r hr z hz => hs1 _ _ p hp r hr z hz _)
      repeat (first | exact sub_empty | refine sub_set (by simp) ?_)
    intro i hi'
    by_cases h3 : i < b.length
    · have okB := ob6 _ (List.getElem_mem h3)
      have hst := up_take h3 t
      by_cases c : b[i].v.n ≤ t
      · rw [if_pos c] at hst
        simp [h3, setOb, List.filter_cons, partC_e1, partC_1, ht, c]
        refine callK_of (ref02_Add (up31 b t i ob6 (by omega)) (Raw.Ok.mono okB.w (by omega))) (by simp [toD_rawc, raw_v]) ?_
        rw [rawOf_q, ← hst]
        simp [ratV, raw_v, setOb, List.filter_cons]
        rw [wrap64 (by omega) (by omega)]
        refine ⟨i + 1, h3, by dsimp only; omega, ?_⟩
        refine weak_obs ?_ (by simp) (by repeat (first | exact sin_empty | refine sin_set (by simp) ?_)) (fun p hp r hr z hz => hs1 _ _ p hp r hr z hz _)
        repeat (first | exact sub_empty | refine sub_set (by simp) ?_)
      · rw [if_neg c, Rat.add_zero] at hst
        simp [h3, setOb, List.filter_cons, partC_e1, partC_1, ht, c]
        rw [wrap64 (by omega) (by omega)]
        refine ⟨i + 1, h3, by dsimp only; omega, ?_⟩
        dsimp only
        rw [hst]
        refine weak_obs ?_ (by simp) (by repeat (first | exact sin_empty | refine sin_set (by simp) ?_)) (fun p hp r hr z hz => hs1 _ _ p hp r hr z hz _)
        repeat (first | exact sub_empty | refine sub_set (by simp) ?_)
    have hil : i = b.length := by omega
    subst hil
    simp [h3]
    have ua := up31 a t a.length oa6 (by omega)
    have ub := up31 b t b.length ob6 (by omega)
    rw [List.take_length] at ua ub
    refine callK_of (ref02_Compare ub ua) (by simp [toD_rawc, raw_v]) ?_
    rw [rawOf_q, rawOf_q]
    by_cases hf : upQ a t < upQ b t
    · have hs := cmpR_pos.2 hf
      simp [hs]
      rw [belowR_int hra hrb hint]
      exact .inl ⟨k, h1, ⟨h1, by rw [ht]; exact hf⟩, hno, rfl⟩
    · have hs : ¬ 0 < cmpR (upQ b t) (upQ a t) := fun h => hf (cmpR_pos.1 h)
      simp [hs]
      rw [wrap64 (by omega) (by omega)]
      refine ⟨k + 1, ⟨h1, fun j hj => ?_⟩, by dsimp only; omega, ?_⟩
      · by_cases e : j = k
        · subst e; rintro ⟨_, h⟩; rw [ht] at h; exact hf h
        · exact hno j (by omega)
      · exact weak_p (by repeat (first | exact sub_empty | refine sub_set (by simp) ?_)) (by repeat (first | exact sin_empty | refine sin_set (by simp) ?_))
  · have hil : k = b.length := by omega
    subst hil
    simp [h1]
    refine callK_X (ref35_weights (by omega)) ?_
    rintro r s ⟨rfl, rfl⟩
    simp [took, na', grown_pos n1]
    refine callK_X (ref35_weights (by omega)) ?_
    rintro r s ⟨rfl, rfl⟩
    simp [took, na', nb', grown_pos n2, setOb, List.filter_cons]
    rw [wts_norm ga.norm, wts_norm gb.norm]
    have hrest := (comm_inv ga gb na nb (fun p h => (oa p h).w) (fun p h => (ob p h).w) 0 (Nat.zero_le _)).rest
    have e0 : commS a b 0 = ([], a.map (·.w.q), b.map (·.w.q)) := rfl
    rw [e0] at hrest
    dsimp only at hrest
    have hp := ref35_paired (L := []) hrest (by omega) (by omega) (by simp [Up]) (by simp) (by simp) (by simp)
    rw [lv_nil] at hp
    refine callK_X (hp.congr fun o => ?_) ?_
    · simp only [E.look]
      by_cases h0 : 0 = o
      · subst h0; simp
      · by_cases h2 : 1 = o <;> simp [h0, h2]
    rintro r s ⟨G, rfl, g1, g2, g3, g4⟩
    have f2 := (gr_few _ (Nat.le_refl _) hrest (i := 0) (k := 0)).2
    have e : G = gr (a.map (·.w.q)) (b.map (·.w.q)) 0 0 := up_uniq g1 (gr_up _ (Nat.le_refl _)).1 g3 (fun p hp => (f2 p hp).1) fun A B => by rw [g2, valA_nil, Rat.zero_add]
    subst e
    simp
    rw [belowR_int hra hrb hint]
    exact .inr ⟨hno, rfl⟩
end Go.Proofs.YtnneehniendnfaaGreat
