import Derived.Test.YtmjgehbpcchjpaaGreatDoorGI
import Derived.Test.YtmjgehbpcchjpaaGreatDoorGC
import Derived.Test.YtmjgehbpcchjpaaGreatDoorProg
import Derived.KernelRfl
import Derived.Test.YtmjgehbpcchjpaaGreatDoorGF
import Derived.Test.YtmjgehbpcchjpaaGreatDoorGH
namespace Go.Proofs.YtmjgehbpcchjpaaGreatDoor.F
open Go Go.Proofs Go.Proofs.YtmjgehbpcchjpaaGreatDoor.E Go.Proofs.YtmjgehbpcchjpaaGreatDoor.Q
abbrev ratio_Of : Nat := 156
def ratio_Of_c : MFn := ⟨45,(.seq (r [o 6 (.alloc zR),o 7 (.mv (i 0))] [0,1,2,6]) (.seq (r [o 15 (.mv (.t 1)),o 16 (.mv (.t 2)),o 17 (.call 191 [(.t 15),(.t 16)]),o 8 (.mv (.t 17))] [0,1,2,6,8]) (.seq (.seq (r [o 18 (.mv (.t 2)),o 19 (.call 103 [(.t 18),(.c .nils)]),o 20 (.bin .eql (.t 19) (i 0))] [0,1,2,6,8,20]) (.cond (.t 20) (.seq (r [o 21 (.build zR []),z (.st 3 (.t 6) (.t 21)),o 7 (.mv (i 31))] [6,7]) .ret) .skip)) (.seq (r [o 23 (.mv (.t 1)),o 24 (.mv (.t 8)),o 25 (.call 192 [(.t 23),(.t 24)]),o 22 (.mv (.t 25)),o 26 (.ext (.t 22) 0),o 27 (.ext (.t 22) 1),o 28 (.ext (.t 22) 2),o 9 (.mv (.t 26)),o 10 (.mv (.t 27)),o 11 (.mv (.t 28))] [0,2,6,8,9]) (.seq (r [o 30 (.mv (.t 2)),o 31 (.mv (.t 8)),o 32 (.call 192 [(.t 30),(.t 31)]),o 29 (.mv (.t 32)),o 33 (.ext (.t 29) 0),o 34 (.ext (.t 29) 1),o 35 (.ext (.t 29) 2),o 12 (.mv (.t 33)),o 13 (.mv (.t 34)),o 14 (.mv (.t 35))] [0,6,9,12]) (.seq (r [o 36 (.mv (.t 0)),o 37 (.mv (.t 36)),y 38 37 (.mv (.t 9)),y 39 37 (.lenS (.t 38)),y 40 37 (.bin .gtr (.t 39) (i 0)),o 41 (.pick (.t 37) (.t 40) (.c (.bool false))),o 42 (.mv (.t 9)),o 43 (.mv (.t 12)),o 44 (.build zR [(0,1,(.t 41)),(1,1,(.t 42)),(2,1,(.t 43))]),z (.st 3 (.t 6) (.t 44)),o 7 (.mv (i 0))] [6,7]) .ret)))))),[.cell 6 (some 3),.t 7]⟩
theorem ratio_Of_ok : cFn Tryz.prog (kps [[0,1,2,6],[0,1,2,6,8],[0,1,2,6,8,20],[6,7],[0,2,6,8,9],[0,6,9,12],[6,7]]) [] 156 = some ratio_Of_c := by kernel_rfl
abbrev ratio_Zero : Nat := 45
def ratio_Zero_c : MFn := ⟨3,(.seq (r [o 0 (.alloc zR)] [0]) (.seq (r [o 1 (.call 112 [(.c (.int .u64 1))]),o 2 (.build zR [(2,1,(.t 1))]),z (.st 3 (.t 0) (.t 2))] [0]) .ret)),[.cell 0 (some 3)]⟩
theorem ratio_Zero_ok : cFn Tryz.prog (kps [[0],[0]]) [] 45 = some ratio_Zero_c := by kernel_rfl
abbrev ratio_made : Nat := 106
def ratio_made_c : MFn := ⟨20,(.seq (r [o 6 (.alloc zR)] [0,1,2,6]) (.seq (r [o 10 (.mv (.t 0)),o 11 (.mv (.t 1)),o 12 (.mv (.t 2)),o 13 (.call 156 [(.t 10),(.t 11),(.t 12)]),o 9 (.mv (.t 13)),o 14 (.ext (.t 9) 0),o 15 (.ext (.t 9) 1),o 7 (.alloc zR),z (.st 3 (.t 7) (.t 14)),o 8 (.mv (.t 15))] [6,7,8]) (.seq (.seq (r [o 16 (.mv (.t 8)),o 17 (.bin .neq (.t 16) (i 0))] [6,7,17]) (.cond (.t 17) (.seq (r [o 18 (.call 45 []),z (.st 3 (.t 6) (.t 18))] [6]) .ret) .skip)) (.seq (r [o 19 (.ld (some 3) (.t 7)),z (.st 3 (.t 6) (.t 19))] [6]) .ret)))),[.cell 6 (some 3)]⟩
theorem ratio_made_ok : cFn Tryz.prog (kps [[0,1,2,6],[6,7,8],[6,7,17],[6],[6]]) [] 106 = some ratio_made_c := by kernel_rfl
abbrev ratio_Sign : Nat := 36
def ratio_Sign_c : MFn := ⟨17,(.seq (r [o 1 (.box (.t 0)),o 2 (.mv (i 0))] [1]) (.seq (.block 0 (.seq (r [o 4 (.fA 1 (.t 1)),o 5 (.ld none (.t 4)),o 6 (.call 103 [(.t 5),(.c .nils)]),o 7 (.bin .eql (.t 6) (i 0)),o 8 (.mv (.t 7)),n 9 8 (.fA 2 (.t 1)),n 10 8 (.ld none (.t 9)),n 11 8 (.call 103 [(.t 10),(.c .nils)]),n 12 8 (.bin .eql (.t 11) (i 0)),o 13 (.pick (.t 8) (.c (.bool true)) (.t 12)),o 3 (.mv (.t 13))] [1,3]) (.cond (.t 3) (.seq (r [o 2 (.mv (i 0))] [2]) .ret) (.seq (r [o 15 (.fA 0 (.t 1)),o 16 (.ld none (.t 15)),o 14 (.mv (.t 16))] [14]) (.cond (.t 14) (.seq (r [o 2 (.mv (i (-1)))] [2]) .ret) .skip))))) (.seq (r [o 2 (.mv (i 1))] [2]) .ret))),[.t 2]⟩
theorem ratio_Sign_ok : cFn Tryz.prog (kps [[1],[1,3],[2],[14],[2],[2]]) [] 36 = some ratio_Sign_c := by kernel_rfl
abbrev ratio_Compare : Nat := 47
def ratio_Compare_c : MFn := ⟨32,(.seq (r [o 2 (.box (.t 0)),o 3 (.box (.t 1)),o 4 (.mv (i 0))] [2,3]) (.seq (r [o 7 (.ld (some 3) (.t 2)),o 8 (.callF 36 [(.t 7)]),o 9 (.ld (some 3) (.t 3)),o 10 (.callF 36 [(.t 9)]),o 5 (.mv (.t 8)),o 6 (.mv (.t 10))] [2,3,5,6]) (.seq (.block 0 (.seq (r [o 12 (.mv (.t 5)),o 13 (.mv (.t 6)),o 14 (.bin .lss (.t 12) (.t 13)),o 11 (.mv (.t 14))] [2,3,5,6,11]) (.cond (.t 11) (.seq (r [o 4 (.mv (i (-1)))] [4]) .ret) (.seq (r [o 16 (.mv (.t 5)),o 17 (.mv (.t 6)),o 18 (.bin .gtr (.t 16) (.t 17)),o 15 (.mv (.t 18))] [2,3,5,15]) (.cond (.t 15) (.seq (r [o 4 (.mv (i 1))] [4]) .ret) .skip))))) (.seq (r [o 19 (.mv (.t 5)),o 20 (.fA 1 (.t 2)),o 21 (.ld none (.t 20)),o 22 (.fA 2 (.t 3)),o 23 (.ld none (.t 22)),o 24 (.callF 107 [(.t 21),(.t 23)]),o 25 (.fA 1 (.t 3)),o 26 (.ld none (.t 25)),o 27 (.fA 2 (.t 2)),o 28 (.ld none (.t 27)),o 29 (.callF 107 [(.t 26),(.t 28)]),o 30 (.callF 103 [(.t 24),(.t 29)]),o 31 (.bin .mul (.t 19) (.t 30)),o 4 (.mv (.t 31))] [4]) .ret)))),[.t 4]⟩
theorem ratio_Compare_ok : cFn Tryz.prog (kps [[2,3],[2,3,5,6],[2,3,5,6,11],[4],[2,3,5,15],[4],[4]]) [] 47 = some ratio_Compare_c := by kernel_rfl
abbrev ratio_Same : Nat := 41
def ratio_Same_c : MFn := ⟨9,(.seq (r [o 2 (.box (.t 0)),o 3 (.box (.t 1)),o 4 (.mv (.c (.bool false)))] [2,3]) (.seq (r [o 5 (.ld (some 3) (.t 2)),o 6 (.ld (some 3) (.t 3)),o 7 (.call 47 [(.t 5),(.t 6)]),o 8 (.bin .eql (.t 7) (i 0)),o 4 (.mv (.t 8))] [4]) .ret)),[.t 4]⟩
theorem ratio_Same_ok : cFn Tryz.prog (kps [[2,3],[4]]) [] 41 = some ratio_Same_c := by kernel_rfl
abbrev ratio_Right : Nat := 188
def ratio_Right_c : MFn := ⟨45,(.seq (r [o 1 (.box (.t 0)),o 2 (.mv (.c (.bool false)))] [1]) (.seq (.seq (r [o 5 (.fA 1 (.t 1)),o 6 (.ld none (.t 5)),o 7 (.call 206 [(.t 6)]),o 8 (.un .not (.t 7)),o 9 (.mv (.t 8)),n 10 9 (.fA 2 (.t 1)),n 11 9 (.ld none (.t 10)),n 12 9 (.call 206 [(.t 11)]),n 13 9 (.un .not (.t 12)),o 14 (.pick (.t 9) (.c (.bool true)) (.t 13)),o 15 (.mv (.t 14)),n 16 15 (.fA 2 (.t 1)),n 17 15 (.ld none (.t 16)),n 18 15 (.lenS (.t 17)),n 19 15 (.bin .eql (.t 18) (i 0)),o 20 (.pick (.t 15) (.c (.bool true)) (.t 19)),o 21 (.mv (.t 20)),n 22 21 (.fA 1 (.t 1)),n 23 21 (.ld none (.t 22)),n 24 21 (.lenS (.t 23)),n 25 21 (.bin .eql (.t 24) (i 0)),n 26 21 (.mv (.t 25)),y 27 26 (.fA 0 (.t 1)),y 28 26 (.ld none (.t 27)),n 29 21 (.pick (.t 26) (.t 28) (.c (.bool false))),o 30 (.pick (.t 21) (.c (.bool true)) (.t 29))] [1,30]) (.cond (.t 30) (.seq (r [o 2 (.mv (.c (.bool false)))] [2]) .ret) .skip)) (.seq (r [o 32 (.fA 1 (.t 1)),o 33 (.ld none (.t 32)),o 34 (.fA 2 (.t 1)),o 35 (.ld none (.t 34)),o 36 (.call 191 [(.t 33),(.t 35)]),o 37 (.call 126 [(.t 36)]),o 31 (.mv (.t 37)),o 38 (.ext (.t 31) 0),o 39 (.ext (.t 31) 1),o 3 (.mv (.t 38)),o 4 (.mv (.t 39))] [3,4]) (.seq (r [o 40 (.mv (.t 4)),o 41 (.mv (.t 40)),y 42 41 (.mv (.t 3)),y 43 41 (.bin .eql (.t 42) (.c (.int .u64 1))),o 44 (.pick (.t 41) (.t 43) (.c (.bool false))),o 2 (.mv (.t 44))] [2]) .ret)))),[.t 2]⟩
theorem ratio_Right_ok : cFn Tryz.prog (kps [[1],[1,30],[2],[3,4],[2]]) [] 188 = some ratio_Right_c := by kernel_rfl
abbrev ratio_Add : Nat := 40
def ratio_Add_c : MFn := ⟨77,(.seq (r [o 2 (.box (.t 0)),o 3 (.box (.t 1)),o 4 (.alloc zR)] [2,3,4]) (.seq (.block 0 (.seq (r [o 11 (.ld (some 3) (.t 2)),o 12 (.call 36 [(.t 11)]),o 13 (.bin .eql (.t 12) (i 0)),o 10 (.mv (.t 13))] [2,3,4,10]) (.cond (.t 10) (.seq (r [o 14 (.fA 0 (.t 3)),o 15 (.ld none (.t 14)),o 16 (.fA 1 (.t 3)),o 17 (.ld none (.t 16)),o 18 (.fA 2 (.t 3)),o 19 (.ld none (.t 18)),o 20 (.call 106 [(.t 15),(.t 17),(.t 19)]),z (.st 3 (.t 4) (.t 20))] [4]) .ret) (.seq (r [o 22 (.ld (some 3) (.t 3)),o 23 (.call 36 [(.t 22)]),o 24 (.bin .eql (.t 23) (i 0)),o 21 (.mv (.t 24))] [2,3,4,21]) (.cond (.t 21) (.seq (r [o 25 (.fA 0 (.t 2)),o 26 (.ld none (.t 25)),o 27 (.fA 1 (.t 2)),o 28 (.ld none (.t 27)),o 29 (.fA 2 (.t 2)),o 30 (.ld none (.t 29)),o 31 (.call 106 [(.t 26),(.t 28),(.t 30)]),z (.st 3 (.t 4) (.t 31))] [4]) .ret) .skip))))) (.seq (r [o 32 (.fA 1 (.t 2)),o 33 (.ld none (.t 32)),o 34 (.fA 2 (.t 3)),o 35 (.ld none (.t 34)),o 36 (.callF 107 [(.t 33),(.t 35)]),o 37 (.fA 1 (.t 3)),o 38 (.ld none (.t 37)),o 39 (.fA 2 (.t 2)),o 40 (.ld none (.t 39)),o 41 (.callF 107 [(.t 38),(.t 40)]),o 42 (.fA 2 (.t 2)),o 43 (.ld none (.t 42)),o 44 (.fA 2 (.t 3)),o 45 (.ld none (.t 44)),o 46 (.callF 107 [(.t 43),(.t 45)]),o 5 (.mv (.t 36)),o 6 (.mv (.t 41)),o 7 (.mv (.t 46))] [2,3,4,5,6,7]) (.seq (.seq (r [o 47 (.fA 0 (.t 2)),o 48 (.ld none (.t 47)),o 49 (.fA 0 (.t 3)),o 50 (.ld none (.t 49)),o 51 (.binB .eql (.t 48) (.t 50))] [2,3,4,5,6,7,51]) (.cond (.t 51) (.seq (r [o 52 (.fA 0 (.t 2)),o 53 (.ld none (.t 52)),o 54 (.mv (.t 5)),o 55 (.mv (.t 6)),o 56 (.callF 108 [(.t 54),(.t 55)]),o 57 (.mv (.t 7)),o 58 (.callF 106 [(.t 53),(.t 56),(.t 57)]),z (.st 3 (.t 4) (.t 58))] [4]) .ret) .skip)) (.seq (.seq (r [o 59 (.mv (.t 5)),o 60 (.mv (.t 6)),o 61 (.call 103 [(.t 59),(.t 60)]),o 62 (.bin .lss (.t 61) (i 0))] [2,3,4,5,6,7,62]) (.cond (.t 62) (r [o 63 (.ld (some 3) (.t 3)),o 64 (.mv (.t 6)),o 65 (.mv (.t 5)),z (.st 3 (.t 2) (.t 63)),o 5 (.mv (.t 64)),o 6 (.mv (.t 65))] [2,4,5,6,7]) .skip)) (.seq (r [o 67 (.mv (.t 5)),o 68 (.mv (.t 6)),o 69 (.call 109 [(.t 67),(.t 68)]),o 66 (.mv (.t 69)),o 70 (.ext (.t 66) 0),o 71 (.ext (.t 66) 1),o 8 (.mv (.t 70)),o 9 (.mv (.t 71))] [2,4,7,8]) (.seq (r [o 72 (.fA 0 (.t 2)),o 73 (.ld none (.t 72)),o 74 (.mv (.t 8)),o 75 (.mv (.t 7)),o 76 (.call 106 [(.t 73),(.t 74),(.t 75)]),z (.st 3 (.t 4) (.t 76))] [4]) .ret))))))),[.cell 4 (some 3)]⟩
theorem ratio_Add_ok : cFn Tryz.prog (kps [[2,3,4],[2,3,4,10],[4],[2,3,4,21],[4],[2,3,4,5,6,7],[2,3,4,5,6,7,51],[4],[2,3,4,5,6,7,62],[2,4,5,6,7],[2,4,7,8],[4]]) [] 40 = some ratio_Add_c := by kernel_rfl
abbrev ref02_Zero : Nat := 113
def ref02_Zero_c : MFn := ⟨3,(.seq (r [o 0 (.alloc zR)] [0]) (.seq (r [o 1 (.call 149 [(.c (.int .u64 1))]),o 2 (.build zR [(2,1,(.t 1))]),z (.st 3 (.t 0) (.t 2))] [0]) .ret)),[.cell 0 (some 3)]⟩
theorem ref02_Zero_ok : cFn Tryz.prog (kps [[0],[0]]) [] 113 = some ref02_Zero_c := by kernel_rfl
abbrev ref02_Of : Nat := 131
def ref02_Of_c : MFn := ⟨45,(.seq (r [o 6 (.alloc zR),o 7 (.mv (i 0))] [0,1,2,6]) (.seq (.seq (r [o 15 (.mv (.t 2)),o 16 (.call 167 [(.t 15)]),o 17 (.bin .eql (.t 16) (i 0))] [0,1,2,6,17]) (.cond (.t 17) (.seq (r [o 18 (.build zR []),z (.st 3 (.t 6) (.t 18)),o 7 (.mv (i 31))] [6,7]) .ret) .skip)) (.seq (r [o 19 (.mv (.t 1)),o 20 (.mv (.t 2)),o 21 (.call 150 [(.t 19),(.t 20)]),o 8 (.mv (.t 21))] [0,1,2,6,8]) (.seq (r [o 23 (.mv (.t 1)),o 24 (.mv (.t 8)),o 25 (.call 168 [(.t 23),(.t 24)]),o 22 (.mv (.t 25)),o 26 (.ext (.t 22) 0),o 27 (.ext (.t 22) 1),o 28 (.ext (.t 22) 2),o 9 (.mv (.t 26)),o 10 (.mv (.t 27)),o 11 (.mv (.t 28))] [0,2,6,8,9]) (.seq (r [o 30 (.mv (.t 2)),o 31 (.mv (.t 8)),o 32 (.call 168 [(.t 30),(.t 31)]),o 29 (.mv (.t 32)),o 33 (.ext (.t 29) 0),o 34 (.ext (.t 29) 1),o 35 (.ext (.t 29) 2),o 12 (.mv (.t 33)),o 13 (.mv (.t 34)),o 14 (.mv (.t 35))] [0,6,9,12]) (.seq (r [o 36 (.mv (.t 0)),o 37 (.mv (.t 36)),y 38 37 (.mv (.t 9)),y 39 37 (.lenS (.t 38)),y 40 37 (.bin .gtr (.t 39) (i 0)),o 41 (.pick (.t 37) (.t 40) (.c (.bool false))),o 42 (.mv (.t 9)),o 43 (.mv (.t 12)),o 44 (.build zR [(0,1,(.t 41)),(1,1,(.t 42)),(2,1,(.t 43))]),z (.st 3 (.t 6) (.t 44)),o 7 (.mv (i 0))] [6,7]) .ret)))))),[.cell 6 (some 3),.t 7]⟩
theorem ref02_Of_ok : cFn Tryz.prog (kps [[0,1,2,6],[0,1,2,6,17],[6,7],[0,1,2,6,8],[0,2,6,8,9],[0,6,9,12],[6,7]]) [] 131 = some ref02_Of_c := by kernel_rfl
abbrev ref02_valid : Nat := 133
def ref02_valid_c : MFn := ⟨19,(.seq (r [o 1 (.box (.t 0)),o 2 (.alloc zR)] [1,2]) (.seq (r [o 6 (.fA 0 (.t 1)),o 7 (.ld none (.t 6)),o 8 (.fA 1 (.t 1)),o 9 (.ld none (.t 8)),o 10 (.fA 2 (.t 1)),o 11 (.ld none (.t 10)),o 12 (.call 131 [(.t 7),(.t 9),(.t 11)]),o 5 (.mv (.t 12)),o 13 (.ext (.t 5) 0),o 14 (.ext (.t 5) 1),o 3 (.alloc zR),z (.st 3 (.t 3) (.t 13)),o 4 (.mv (.t 14))] [2,3,4]) (.seq (.seq (r [o 15 (.mv (.t 4)),o 16 (.bin .neq (.t 15) (i 0))] [2,3,16]) (.cond (.t 16) (.seq (r [o 17 (.call 113 []),z (.st 3 (.t 2) (.t 17))] [2]) .ret) .skip)) (.seq (r [o 18 (.ld (some 3) (.t 3)),z (.st 3 (.t 2) (.t 18))] [2]) .ret)))),[.cell 2 (some 3)]⟩
theorem ref02_valid_ok : cFn Tryz.prog (kps [[1,2],[2,3,4],[2,3,16],[2],[2]]) [] 133 = some ref02_valid_c := by kernel_rfl
abbrev ref02_Sign : Nat := 88
def ref02_Sign_c : MFn := ⟨13,(.seq (r [o 1 (.box (.t 0)),o 2 (.mv (i 0))] [1]) (.seq (r [o 3 (.ld (some 3) (.t 1)),o 4 (.call 133 [(.t 3)]),z (.st 3 (.t 1) (.t 4))] [1]) (.seq (.block 0 (.seq (r [o 6 (.fA 1 (.t 1)),o 7 (.ld none (.t 6)),o 8 (.lenS (.t 7)),o 9 (.bin .eql (.t 8) (i 0)),o 5 (.mv (.t 9))] [1,5]) (.cond (.t 5) (.seq (r [o 2 (.mv (i 0))] [2]) .ret) (.seq (r [o 11 (.fA 0 (.t 1)),o 12 (.ld none (.t 11)),o 10 (.mv (.t 12))] [10]) (.cond (.t 10) (.seq (r [o 2 (.mv (i (-1)))] [2]) .ret) .skip))))) (.seq (r [o 2 (.mv (i 1))] [2]) .ret)))),[.t 2]⟩
theorem ref02_Sign_ok : cFn Tryz.prog (kps [[1],[1],[1,5],[2],[10],[2],[2]]) [] 88 = some ref02_Sign_c := by kernel_rfl
abbrev ref02_Right : Nat := 100
def ref02_Right_c : MFn := ⟨41,(.seq (r [o 1 (.box (.t 0)),o 2 (.mv (.c (.bool false)))] [1]) (.seq (.seq (r [o 3 (.fA 1 (.t 1)),o 4 (.ld none (.t 3)),o 5 (.call 148 [(.t 4)]),o 6 (.un .not (.t 5)),o 7 (.mv (.t 6)),n 8 7 (.fA 2 (.t 1)),n 9 7 (.ld none (.t 8)),n 10 7 (.call 148 [(.t 9)]),n 11 7 (.un .not (.t 10)),o 12 (.pick (.t 7) (.c (.bool true)) (.t 11)),o 13 (.mv (.t 12)),n 14 13 (.fA 2 (.t 1)),n 15 13 (.ld none (.t 14)),n 16 13 (.lenS (.t 15)),n 17 13 (.bin .eql (.t 16) (i 0)),o 18 (.pick (.t 13) (.c (.bool true)) (.t 17))] [1,18]) (.cond (.t 18) (.seq (r [o 2 (.mv (.c (.bool false)))] [2]) .ret) .skip)) (.seq (.seq (r [o 19 (.fA 1 (.t 1)),o 20 (.ld none (.t 19)),o 21 (.lenS (.t 20)),o 22 (.bin .eql (.t 21) (i 0))] [1,22]) (.cond (.t 22) (.seq (r [o 23 (.fA 0 (.t 1)),o 24 (.ld none (.t 23)),o 25 (.un .not (.t 24)),o 26 (.mv (.t 25)),y 27 26 (.fA 2 (.t 1)),y 28 26 (.ld none (.t 27)),y 29 26 (.callF 149 [(.c (.int .u64 1))]),y 30 26 (.callF 136 [(.t 28),(.t 29)]),y 31 26 (.bin .eql (.t 30) (i 0)),o 32 (.pick (.t 26) (.t 31) (.c (.bool false))),o 2 (.mv (.t 32))] [2]) .ret) .skip)) (.seq (r [o 33 (.fA 1 (.t 1)),o 34 (.ld none (.t 33)),o 35 (.fA 2 (.t 1)),o 36 (.ld none (.t 35)),o 37 (.call 150 [(.t 34),(.t 36)]),o 38 (.call 149 [(.c (.int .u64 1))]),o 39 (.call 136 [(.t 37),(.t 38)]),o 40 (.bin .eql (.t 39) (i 0)),o 2 (.mv (.t 40))] [2]) .ret)))),[.t 2]⟩
theorem ref02_Right_ok : cFn Tryz.prog (kps [[1],[1,18],[2],[1,22],[2],[2]]) [] 100 = some ref02_Right_c := by kernel_rfl
end Go.Proofs.YtmjgehbpcchjpaaGreatDoor.F

namespace Go.Proofs.YtmjgehbpcchjpaaGreatDoor
open Go Go.Proofs Go.Proofs.YtmjgehbpcchjpaaGreatDoor.E
set_option linter.unusedSimpArgs false
set_option linter.unusedVariables false
def E.Raw.v (x : Raw) : V := .agg [.bool x.neg, nat x.num, nat x.den]
def bH (r : Rat) : V := (ap r).v
theorem jZ (x g : Nat) (hg : 0 < g) : jY (x : Int) (g : Int) = .tup [nat (au ((x / g : Nat) : Int)), nat (au ((x % g : Nat) : Int)), .int .i64 0] := by
 unfold jY; rw [if_neg (by omega)]; simp
theorem ratio_Of {neg : Bool} {a b : List Int} (ha : Dig a) (hb : Dig b) (la : a.length ≤ 2 ^ 33) (lb : b.length ≤ 2 ^ 33) : CallD Tryz.prog F.ratio_Of [.bool neg, nat a, nat b] (· = if val b = 0 then .tup [.agg [.bool false, .dat [], .dat []], .int .i64 31] else .tup [bH (mkRat (sgn neg (val a)) (val b).toNat), .int .i64 0]) := by
 refine av F.ratio_Of_ok ?_
 unfold F.ratio_Of_c
 simp
 refine ag (nat_Gcd ha hb la lb) (by simp) ?_
 simp
 refine ag (nat_Compare hb Dig.nil (by omega) (by simp)) (by simp) ?_
 have n1 := ao ha
 have n2 := ao hb
 have l1 := aW ha
 have l2 := aW hb
 obtain ⟨x, hx⟩ := Int.eq_ofNat_of_zero_le n1
 obtain ⟨y, hy⟩ := Int.eq_ofNat_of_zero_le n2
 have hk1 := aA (show (0 : Int) ≤ (Nat.gcd x y : Nat) by omega)
 simp only [hx, hy, Int.toNat_natCast, mE] at l1 l2 ⊢
 by_cases h0 : y = 0
 ·subst h0
  simp
 ·have c1 : ¬ ((y : Int) < 0) := by omega
  have c2 : (0 : Int) < y := by omega
  have c3 : ¬ (y : Int) = 0 := by omega
  have lg := bk (m := ((Nat.gcd x y : Nat) : Int)) (n := (y : Int)) (by omega) (Int.ofNat_le.2 (Nat.le_of_dvd (by omega) (Nat.gcd_dvd_right x y)))
  have hg : 0 < Nat.gcd x y := Nat.gcd_pos_of_pos_right _ (by omega)
  have hr := fZ neg x y h0
  have e1 := jZ x (Nat.gcd x y) hg
  have e2 := jZ y (Nat.gcd x y) hg
  have hd : (0 < (au (((x / Nat.gcd x y : Nat) : Int))).length) ↔ 0 < x / Nat.gcd x y := by
   rw [List.length_pos_iff, ne_eq, bL]; omega
  simp [c1, c2, c3]
  intro _
  refine ag (nat_Div (b := au ((Nat.gcd x y : Nat) : Int)) ha (ax _) (by omega) (by omega)) (by simp) ?_
  rw [hk1, hx, e1]
  generalize hq1 : x / Nat.gcd x y = q1 at *
  simp [ac, aK]
  refine ag (nat_Div (b := au ((Nat.gcd x y : Nat) : Int)) hb (ax _) (by omega) (by omega)) (by simp) ?_
  rw [hk1, hy, e2]
  generalize hq2 : y / Nat.gcd x y = q2 at *
  simp [ac, aK]
  cases neg
  ·simp [h0, bH, Raw.v, hr, ac]
  ·simp [h0, bH, Raw.v, hr, ac, hd]
theorem ratio_Zero : CallD Tryz.prog F.ratio_Zero [] (· = bH 0) := by
 refine av F.ratio_Zero_ok ?_
 unfold F.ratio_Zero_c
 simp
 refine ag (nat_Of (n := 1) (by omega) (by omega)) (by simp) ?_
 simp [bH, fL, Raw.v]
theorem ratio_made {neg : Bool} {a b : List Int} (ha : Dig a) (hb : Dig b) (la : a.length ≤ 2 ^ 33) (lb : b.length ≤ 2 ^ 33) : CallD Tryz.prog F.ratio_made [.bool neg, nat a, nat b] (· = bH (mkRat (sgn neg (val a)) (val b).toNat)) := by
 refine av F.ratio_made_ok ?_
 unfold F.ratio_made_c
 simp [ac, List.filter_cons]
 refine ag (ratio_Of (neg := neg) ha hb la lb) (by simp) ?_
 by_cases h0 : val b = 0
 ·simp [h0, ac, List.filter_cons, aK]
  refine ag ratio_Zero (by simp) ?_
  simp [bH, Raw.v, ac, List.filter_cons, aK]
 ·simp [h0, bH, Raw.v, ac, List.filter_cons, aK]
theorem ratio_Sign {x : Raw} (ok : x.Ok (2 ^ 33)) : CallD Tryz.prog F.ratio_Sign [x.v] (· = .int .i64 (cH x.q)) := by
 have n1 := ao ok.dn
 have n2 := ao ok.dd
 have l1 := ok.ln
 have l2 := ok.ld
 refine av F.ratio_Sign_ok ?_
 unfold F.ratio_Sign_c
 simp [Raw.v]
 refine ag (nat_Compare ok.dn Dig.nil (by omega) (by simp)) (by simp) ?_
 by_cases hn : val x.num = 0
 ·simp [hn, Raw.q_zero_num hn, d9]
 have c1 : ¬ val x.num < 0 := by omega
 have c2 : 0 < val x.num := by omega
 simp [c1, c2]
 refine ag (nat_Compare ok.dd Dig.nil (by omega) (by simp)) (by simp) ?_
 by_cases hd : val x.den = 0
 ·simp [hd, Raw.q_zero_den hd, d9]
 have c3 : ¬ val x.den < 0 := by omega
 have c4 : 0 < val x.den := by omega
 simp [c3, c4]
 cases hs : x.neg
 ·rw [e9 (Raw.q_pos ok hn hd hs)]; simp [hs]
 ·rw [d7 (Raw.q_neg ok hn hd hs)]; simp [hs]
theorem ratio_Compare {x y : Raw} (hx : x.Ok (2 ^ 33)) (hy : y.Ok (2 ^ 33)) : CallD Tryz.prog F.ratio_Compare [x.v, y.v] (· = .int .i64 (gf x.q y.q)) := by
 have key := rW hx hy
 have b1 : -1 ≤ cH x.q ∧ cH x.q ≤ 1 := by unfold cH gf; split; omega; split <;> omega
 have l1 := hx.ln
 have l2 := hx.ld
 have l3 := hy.ln
 have l4 := hy.ld
 refine av F.ratio_Compare_ok ?_
 unfold F.ratio_Compare_c
 simp [Raw.v, ac, List.filter_cons]
 refine aq (ratio_Sign hx) (by simp [Raw.v, ac, List.filter_cons]) ?_
 simp
 refine aq (ratio_Sign hy) (by simp [Raw.v, ac, List.filter_cons]) ?_
 generalize cH x.q = s at *
 generalize cH y.q = t at *
 by_cases h1 : s < t
 ·rw [if_pos h1] at key
  simp [h1, key]
 rw [if_neg h1] at key
 simp only [gt_iff_lt] at key
 by_cases h2 : t < s
 ·rw [if_pos h2] at key
  simp [h1, h2, key]
 rw [if_neg h2] at key
 simp [h1, h2, Raw.v]
 refine aq (nat_Mul hx.dn hy.dd (by omega) (by omega)) (by simp) ?_
 simp
 refine aq (nat_Mul hy.dn hx.dd (by omega) (by omega)) (by simp) ?_
 have m1 := Int.mul_nonneg (ao hx.dn) (ao hy.dd)
 have m2 := Int.mul_nonneg (ao hy.dn) (ao hx.dd)
 simp
 have d1 := cG hx.dn hy.dd
 have d2 := cG hy.dn hx.dd
 refine aq (nat_Compare (ax _) (ax _) (Nat.le_trans d1 (by omega)) (Nat.le_trans d2 (by omega))) (by simp) ?_
 rw [aA m1, aA m2]
 have b2 : ∀ c : Int, -1 ≤ c → c ≤ 1 → IntKind.i64.wrap (s * c) = s * c := by
  intro c h1 h2
  have hs : s = -1 ∨ s = 0 ∨ s = 1 := by omega
  have hc : c = -1 ∨ c = 0 ∨ c = 1 := by omega
  rcases hs with rfl | rfl | rfl <;> rcases hc with rfl | rfl | rfl <;> decide
 have b3 : -1 ≤ (if val x.num * val y.den < val y.num * val x.den then -1 else if val y.num * val x.den < val x.num * val y.den then 1 else 0 : Int) ∧ (if val x.num * val y.den < val y.num * val x.den then -1 else if val y.num * val x.den < val x.num * val y.den then 1 else 0 : Int) ≤ 1 := by
  split
  ·omega
  ·split <;> omega
 generalize (if val x.num * val y.den < val y.num * val x.den then -1 else if val y.num * val x.den < val x.num * val y.den then 1 else 0 : Int) = c at *
 simp [b2 c b3.1 b3.2, key]
theorem sP {a b : Rat} : gf a b = 0 ↔ a = b := by
 unfold gf
 constructor
 ·intro h
  split at h
  ·simp at h
  ·split at h
   ·simp at h
   ·grind
 ·rintro rfl; simp [Rat.lt_irrefl]
theorem cmpR_le {a b : Rat} : gf a b ≤ 0 ↔ a ≤ b := by
 unfold gf
 split
 ·rename_i h; simp; grind
 ·rename_i h; split <;> simp <;> grind
theorem ratio_Same {x y : Raw} (hx : x.Ok (2 ^ 33)) (hy : y.Ok (2 ^ 33)) : CallD Tryz.prog F.ratio_Same [x.v, y.v] (· = .bool (decide (x.q = y.q))) := by
 refine av F.ratio_Same_ok ?_
 unfold F.ratio_Same_c
 simp [Raw.v, ac, List.filter_cons]
 refine ag (ratio_Compare hx hy) (by simp [Raw.v]) ?_
 simp [sP]
theorem sU {n d m : Nat} (hn : (au (n : Int)).length ≤ m) (hd : (au (d : Int)).length ≤ m) : (au ((Nat.gcd n d : Nat) : Int)).length ≤ m := by
 by_cases h : d = 0
 ·subst h; simpa using hn
 ·have := bk (m := ((Nat.gcd n d : Nat) : Int)) (n := (d : Int)) (by omega) (Int.ofNat_le.2 (Nat.le_of_dvd (by omega) (Nat.gcd_dvd_right n d)))
  omega
theorem ratio_Right {x : Raw} (ok : x.Ok (2 ^ 33)) : CallD Tryz.prog F.ratio_Right [x.v] (· = .bool x.right) := by
 have n1 := ao ok.dn
 have n2 := ao ok.dd
 have l1 := ok.ln
 have l2 := ok.ld
 refine av F.ratio_Right_ok ?_
 unfold F.ratio_Right_c
 simp [Raw.v, ac, List.filter_cons]
 refine ag (nat_Right ok.dn (by omega)) (by simp) ?_
 unfold Raw.right
 generalize decide (x.num = au (val x.num)) = t1
 cases t1
 ·simp
 simp
 refine ag (nat_Right ok.dd (by omega)) (by simp) ?_
 generalize decide (x.den = au (val x.den)) = t2
 cases t2
 ·simp
 by_cases h3 : x.den = []
 ·simp [h3]
 have lg := sU (n := (val x.num).toNat) (d := (val x.den).toNat) (m := 2 ^ 33) (by rw [bj n1]; have := aW ok.dn; omega) (by rw [bj n2]; have := aW ok.dd; omega)
 by_cases h6 : x.num = [] ∧ x.neg = true
 ·simp [h3, h6.1, h6.2]
 have h7 : (decide (x.num = []) && x.neg) = false := by
  cases h8 : x.neg
  ·simp
  ·have : ¬ x.num = [] := fun h => h6 ⟨h, h8⟩
   simp [this]
 have fin : ∀ g : Nat, (au (g : Int)).length ≤ 2 ^ 33 → ∀ {S : Sl} {σ : Sto} {Q : Sl → Sto → Prop} {rest : List MOper} {d : Option Nat}, (∀ (n : Int) (b : Bool), (b && decide (n = 1)) = decide (g = 1) → Nxt Tryz.prog rest d S Q (.tup [.int .u64 n, .bool b]) σ) → CallK Tryz.prog F.nat_Small [nat (au (g : Int))] σ rest d S Q := by
  intro g lg S σ Q rest d h
  refine cM (nat_Small (ax (g : Int)) (by omega)) (by simp) ?_
  intro r hr
  rw [aA (by omega)] at hr
  unfold cT at hr
  split at hr
  ·subst hr
   simp only [ot, V.scalar, List.all_cons, List.all_nil, Bool.and_self, if_true]
   exact h _ _ (by simp; omega)
  ·subst hr
   simp only [ot, V.scalar, List.all_cons, List.all_nil, Bool.and_self, if_true]
   exact h _ _ (by simp; omega)
 by_cases h4 : x.num = []
 ·have h5 : x.neg = false := by
   cases h8 : x.neg
   ·rfl
   ·exact (h6 ⟨h4, h8⟩).elim
  simp [h3, eq_true h4, h5]
  refine ag (nat_Gcd ok.dn ok.dd l1 l2) (by simp) ?_
  simp
  refine fin _ lg fun n b hb => ?_
  cases b <;> simp at hb <;> simp [hb]
 ·have h6 : ¬ ((x.num.length : Int) = 0) := by have := List.length_pos_iff.2 h4; omega
  simp [h3, h4, h6]
  refine ag (nat_Gcd ok.dn ok.dd l1 l2) (by simp) ?_
  simp
  refine fin _ lg fun n b hb => ?_
  cases b <;> simp at hb <;> simp [hb]
theorem mC {a : Rat} : cH a = 0 ↔ a = 0 := sP
set_option maxHeartbeats 1000000 in
theorem ratio_Add {x y : Raw} (hx : x.Ok (2 ^ 31)) (hy : y.Ok (2 ^ 31)) : CallD Tryz.prog F.ratio_Add [x.v, y.v] (· = bH (x.q + y.q)) := by
 have n1 := ao hx.dn
 have n2 := ao hx.dd
 have n3 := ao hy.dn
 have n4 := ao hy.dd
 have l1 := hx.ln
 have l2 := hx.ld
 have l3 := hy.ln
 have l4 := hy.ld
 have hx' : x.Ok (2 ^ 33) := ⟨hx.dn, hx.dd, by omega, by omega⟩
 have hy' : y.Ok (2 ^ 33) := ⟨hy.dn, hy.dd, by omega, by omega⟩
 refine av F.ratio_Add_ok ?_
 unfold F.ratio_Add_c
 simp [Raw.v, ac, List.filter_cons]
 refine ag (ratio_Sign hx') (by simp [Raw.v]) ?_
 by_cases hx0 : x.q = 0
 ·simp [mC, hx0]
  refine ag (ratio_made (neg := y.neg) hy.dn hy.dd (by omega) (by omega)) (by simp) ?_
  simp [bH, Raw.v, ac, List.filter_cons, aK, Rat.zero_add, Raw.q]
 simp [mC, hx0]
 refine ag (ratio_Sign hy') (by simp [Raw.v]) ?_
 by_cases hy0 : y.q = 0
 ·simp [mC, hy0]
  refine ag (ratio_made (neg := x.neg) hx.dn hx.dd (by omega) (by omega)) (by simp) ?_
  simp [bH, Raw.v, ac, List.filter_cons, aK, Rat.add_zero, Raw.q]
 have dx : 0 < val x.den := by
  by_cases h : val x.den = 0
  ·exact (hx0 (Raw.q_zero_den h)).elim
  ·omega
 have dy : 0 < val y.den := by
  by_cases h : val y.den = 0
  ·exact (hy0 (Raw.q_zero_den h)).elim
  ·omega
 have m1 := Int.mul_nonneg n1 n4
 have m2 := Int.mul_nonneg n3 n2
 have m3 := Int.mul_nonneg n2 n4
 have d1 := cG hx.dn hy.dd
 have d2 := cG hy.dn hx.dd
 have d3 := cG hx.dd hy.dd
 have s1 : x.neg = y.neg → x.q + y.q = _ := Raw.add_same dx dy
 have s2 : x.neg ≠ y.neg → x.q + y.q = _ := Raw.add_ge dx dy
 have s3 : x.neg ≠ y.neg → x.q + y.q = _ := Raw.add_lt dx dy
 simp [mC, hy0]
 refine aq (nat_Mul hx.dn hy.dd (by omega) (by omega)) (by simp) ?_
 simp
 refine aq (nat_Mul hy.dn hx.dd (by omega) (by omega)) (by simp) ?_
 simp [aK]
 refine aq (nat_Mul hx.dd hy.dd (by omega) (by omega)) (by simp) ?_
 generalize val x.num * val y.den = A at *
 generalize val y.num * val x.den = B at *
 generalize val x.den * val y.den = D at *
 have vA := aA m1
 have vB := aA m2
 have vD := aA m3
 by_cases hs : x.neg = y.neg
 ·have e1 := s1 hs
  have lAB := lQ (m := 2 ^ 32) m1 m2 (by omega) (by omega)
  have vAB := aA (show 0 ≤ A + B by omega)
  simp [hs, aK]
  refine aq (nat_Add (ax A) (ax B) (by omega) (by omega)) (by simp) ?_
  rw [vA, vB]
  simp [aK]
  refine aq (ratio_made (neg := y.neg) (ax (A + B)) (ax D) (by omega) (by omega)) (by simp) ?_
  rw [vAB, vD, ← hs, ← e1]
  simp [bH, Raw.v, ac, List.filter_cons, aK]
 ·have hs' : (x.neg == y.neg) = false := by cases h1 : x.neg <;> cases h2 : y.neg <;> simp [h1, h2] at hs ⊢
  simp [hs', hs, aK]
  refine ag (nat_Compare (ax A) (ax B) (by omega) (by omega)) (by simp) ?_
  rw [vA, vB]
  by_cases hlt : A < B
  ·have e3 := s3 hs
   have lBA := bk (m := B - A) (n := B) m2 (by omega)
   have vBA := aA (show 0 ≤ B - A by omega)
   simp [hlt, aK, ac, List.filter_cons]
   refine ag (nat_Sub (ax B) (ax A) (by omega) (by omega)) (by simp) ?_
   rw [vA, vB]
   have hn : ¬ B < A := by omega
   simp [ls, hn, aK, ac, List.filter_cons]
   refine ag (ratio_made (neg := y.neg) (ax (B - A)) (ax D) (by omega) (by omega)) (by simp) ?_
   rw [vBA, vD, ← e3]
   simp [bH, Raw.v, ac, List.filter_cons, aK]
  ·have e3 := s2 hs
   have lBA := bk (m := A - B) (n := A) m1 (by omega)
   have vBA := aA (show 0 ≤ A - B by omega)
   have hc : ¬ (if A < B then -1 else if B < A then 1 else 0 : Int) < 0 := by rw [if_neg hlt]; split <;> omega
   generalize (if A < B then -1 else if B < A then 1 else 0 : Int) = c at hc
   simp [hc, aK, ac, List.filter_cons]
   refine ag (nat_Sub (ax A) (ax B) (by omega) (by omega)) (by simp) ?_
   rw [vA, vB]
   simp [ls, hlt, aK, ac, List.filter_cons]
   refine ag (ratio_made (neg := x.neg) (ax (A - B)) (ax D) (by omega) (by omega)) (by simp) ?_
   rw [vBA, vD, ← e3]
   simp [bH, Raw.v, ac, List.filter_cons, aK]
theorem ref02_Zero : CallD Tryz.prog F.ref02_Zero [] (· = bH 0) := by
 refine av F.ref02_Zero_ok ?_
 unfold F.ref02_Zero_c
 simp
 refine ag (ref01_Of (n := 1) (by omega) (by omega)) (by simp) ?_
 simp [bH, fL, Raw.v]
theorem ref02_Of {neg : Bool} {a b : List Int} (ha : Dig a) (hb : Dig b) (la : a.length ≤ 2 ^ 33) (lb : b.length ≤ 2 ^ 33) : CallD Tryz.prog F.ref02_Of [.bool neg, nat a, nat b] (· = if val b = 0 then .tup [.agg [.bool false, .dat [], .dat []], .int .i64 31] else .tup [bH (mkRat (sgn neg (val a)) (val b).toNat), .int .i64 0]) := by
 have n1 := ao ha
 have n2 := ao hb
 have l1 := aW ha
 have l2 := aW hb
 refine av F.ref02_Of_ok ?_
 unfold F.ref02_Of_c
 simp [ac, List.filter_cons]
 refine cM (ref01_Bits hb (by omega)) (by simp) ?_
 rintro _ ⟨n, rfl, hn⟩
 obtain ⟨x, hx⟩ := Int.eq_ofNat_of_zero_le n1
 obtain ⟨y, hy⟩ := Int.eq_ofNat_of_zero_le n2
 have hk1 := aA (show (0 : Int) ≤ (Nat.gcd x y : Nat) by omega)
 have hG := ref01_Gcd ha hb la lb
 simp only [hx, hy, Int.toNat_natCast, mE] at l1 l2 hn hG ⊢
 by_cases h0 : y = 0
 ·subst h0
  have : n = 0 := hn.2 rfl
  subst this
  simp [ac, List.filter_cons]
 ·have hn' : ¬ n = 0 := fun h => h0 (by have := hn.1 h; omega)
  have lg := bk (m := ((Nat.gcd x y : Nat) : Int)) (n := (y : Int)) (by omega) (Int.ofNat_le.2 (Nat.le_of_dvd (by omega) (Nat.gcd_dvd_right x y)))
  have hg : 0 < Nat.gcd x y := Nat.gcd_pos_of_pos_right _ (by omega)
  have hr := fZ neg x y h0
  have e1 := jZ x (Nat.gcd x y) hg
  have e2 := jZ y (Nat.gcd x y) hg
  have hd : (0 < (au (((x / Nat.gcd x y : Nat) : Int))).length) ↔ 0 < x / Nat.gcd x y := by
   rw [List.length_pos_iff, ne_eq, bL]; omega
  simp [hn']
  refine ag hG (by simp) ?_
  simp
  refine ag (ref01_Div (b := au ((Nat.gcd x y : Nat) : Int)) ha (ax _) (by omega) (by omega)) (by simp) ?_
  rw [hk1, hx, e1]
  generalize hq1 : x / Nat.gcd x y = q1 at *
  simp
  refine ag (ref01_Div (b := au ((Nat.gcd x y : Nat) : Int)) hb (ax _) (by omega) (by omega)) (by simp) ?_
  rw [hk1, hy, e2]
  generalize hq2 : y / Nat.gcd x y = q2 at *
  simp
  cases neg
  ·simp [h0, bH, Raw.v, hr, ac, List.filter_cons]
  ·simp [h0, bH, Raw.v, hr, ac, List.filter_cons, hd]
theorem ref02_valid {x : Raw} (ok : x.Ok (2 ^ 33)) : CallD Tryz.prog F.ref02_valid [x.v] (· = bH x.q) := by
 refine av F.ref02_valid_ok ?_
 unfold F.ref02_valid_c
 simp [Raw.v, ac, List.filter_cons]
 refine ag (ref02_Of (neg := x.neg) ok.dn ok.dd ok.ln ok.ld) (by simp) ?_
 by_cases h0 : val x.den = 0
 ·simp [h0, ac, List.filter_cons]
  refine ag ref02_Zero (by simp) ?_
  simp [bH, Raw.v, ac, List.filter_cons, Raw.q_zero_den h0]
 ·simp [h0, bH, Raw.v, ac, List.filter_cons, Raw.q]
theorem sgnR_raw (r : Rat) : cH r = if (ap r).num = [] then 0 else if (ap r).neg then -1 else 1 := by
 have e : (ap r).num = [] ↔ r = 0 := by
  unfold ap; simp only [bL]
  rw [← Rat.num_eq_zero]; omega
 have e2 : (ap r).neg = decide (r < 0) := rfl
 by_cases h : r = 0
 ·rw [if_pos (e.2 h), h]; exact d9
 ·rw [if_neg (fun h' => h (e.1 h')), e2]
  by_cases h2 : r < 0
  ·rw [d7 h2]; simp [h2]
  ·rw [e9 (by grind)]; simp [h2]
theorem ref02_Sign {x : Raw} (ok : x.Ok (2 ^ 33)) : CallD Tryz.prog F.ref02_Sign [x.v] (· = .int .i64 (cH x.q)) := by
 have e := sgnR_raw x.q
 refine av F.ref02_Sign_ok ?_
 unfold F.ref02_Sign_c
 simp [Raw.v, ac, List.filter_cons]
 refine ag (ref02_valid ok) (by simp [Raw.v]) ?_
 simp [bH, Raw.v, ac, List.filter_cons]
 generalize ap x.q = r at *
 by_cases h : r.num = []
 ·simp [h] at e
  simp [h, e]
 ·have h' : ¬ ((r.num.length : Int) = 0) := by have := List.length_pos_iff.2 h; omega
  cases hs : r.neg <;> simp [h, hs] at e <;> simp [h, h', hs, e]
theorem jX : (au 1).length = 1 := by rw [bE (by decide)]; simp
theorem ref02_Right {x : Raw} (ok : x.Ok (2 ^ 33)) : CallD Tryz.prog F.ref02_Right [x.v] (· = .bool x.right) := by
 have n1 := ao ok.dn
 have n2 := ao ok.dd
 have l1 := ok.ln
 have l2 := ok.ld
 refine av F.ref02_Right_ok ?_
 unfold F.ref02_Right_c
 simp [Raw.v, ac, List.filter_cons]
 refine ag (ref01_Right ok.dn (by omega)) (by simp) ?_
 unfold Raw.right
 generalize decide (x.num = au (val x.num)) = t1
 cases t1
 ·simp
 simp
 refine ag (ref01_Right ok.dd (by omega)) (by simp) ?_
 generalize decide (x.den = au (val x.den)) = t2
 cases t2
 ·simp
 by_cases h3 : x.den = []
 ·simp [h3]
 have lg := sU (n := (val x.num).toNat) (d := (val x.den).toNat) (m := 2 ^ 33) (by rw [bj n1]; have := aW ok.dn; omega) (by rw [bj n2]; have := aW ok.dd; omega)
 have v1 := aA (show (0 : Int) ≤ 1 by decide)
 by_cases h4 : x.num = []
 ·have e0 : (val x.num).toNat = 0 := by rw [h4]; rfl
  cases h5 : x.neg
  ·simp [h3, eq_true h4, h5]
   refine aq (ref01_Of (n := 1) (by omega) (by omega)) (by simp) ?_
   simp
   refine aq (ref01_Compare ok.dd (ax 1) (by omega) (by rw [jX]; omega)) (by simp) ?_
   rw [v1, e0]
   simp
   by_cases h6 : val x.den < 1
   ·have : ¬ (val x.den).toNat = 1 := by omega
    simp [h6, this]
   ·by_cases h7 : 1 < val x.den
    ·have : ¬ (val x.den).toNat = 1 := by omega
     simp [h6, h7, this]
    ·have : (val x.den).toNat = 1 := by omega
     simp [h6, h7, this]
  ·simp [h3, h4, h5]
 ·have h6 : ¬ ((x.num.length : Int) = 0) := by have := List.length_pos_iff.2 h4; omega
  simp [h3, h4, h6]
  refine ag (ref01_Gcd ok.dn ok.dd l1 l2) (by simp) ?_
  simp
  refine ag (ref01_Of (n := 1) (by omega) (by omega)) (by simp) ?_
  simp
  refine ag (ref01_Compare (ax ((Nat.gcd (val x.num).toNat (val x.den).toNat : Nat) : Int)) (ax 1) (by omega) (by rw [jX]; omega)) (by simp) ?_
  rw [v1, aA (by omega)]
  by_cases h6 : ((Nat.gcd (val x.num).toNat (val x.den).toNat : Nat) : Int) < 1
  ·have : ¬ Nat.gcd (val x.num).toNat (val x.den).toNat = 1 := by omega
   simp [h6, this]
  ·by_cases h7 : (1 : Int) < ((Nat.gcd (val x.num).toNat (val x.den).toNat : Nat) : Int)
   ·have : ¬ Nat.gcd (val x.num).toNat (val x.den).toNat = 1 := by omega
    simp [h6, h7, this]
   ·have : Nat.gcd (val x.num).toNat (val x.den).toNat = 1 := by omega
    simp [this]
end Go.Proofs.YtmjgehbpcchjpaaGreatDoor
