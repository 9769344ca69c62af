import Derived.Test.YtkockkfmjmheeaaGreatGI
import Derived.Test.YtkockkfmjmheeaaGreatGC
import Derived.Test.YtkockkfmjmheeaaGreatProg
import Derived.KernelRfl
import Derived.Test.YtkockkfmjmheeaaGreatGE
import Derived.Test.YtkockkfmjmheeaaGreatGF
namespace Go.Proofs.YtkockkfmjmheeaaGreat.F
open Go Go.Proofs Go.Proofs.YtkockkfmjmheeaaGreat.E Go.Proofs.YtkockkfmjmheeaaGreat.Q
abbrev ratio_Of : Nat := 87
def ratio_Of_c : MFn := ⟨45,(.seq (r [o 6 (.alloc zR),o 7 (.mv (i 0))] [0,1,2,6]) (.seq (r [o 15 (.mv (.t 1)),o 16 (.mv (.t 2)),o 17 (.call 110 [(.t 15),(.t 16)]),o 8 (.mv (.t 17))] [0,1,2,6,8]) (.seq (.seq (r [o 18 (.mv (.t 2)),o 19 (.call 60 [(.t 18),(.c .nils)]),o 20 (.bin .eql (.t 19) (i 0))] [0,1,2,6,8,20]) (.cond (.t 20) (.seq (r [o 21 (.build zR []),z (.st 3 (.t 6) (.t 21)),o 7 (.mv (i 31))] [6,7]) .ret) .skip)) (.seq (r [o 23 (.mv (.t 1)),o 24 (.mv (.t 8)),o 25 (.call 111 [(.t 23),(.t 24)]),o 22 (.mv (.t 25)),o 26 (.ext (.t 22) 0),o 27 (.ext (.t 22) 1),o 28 (.ext (.t 22) 2),o 9 (.mv (.t 26)),o 10 (.mv (.t 27)),o 11 (.mv (.t 28))] [0,2,6,8,9]) (.seq (r [o 30 (.mv (.t 2)),o 31 (.mv (.t 8)),o 32 (.call 111 [(.t 30),(.t 31)]),o 29 (.mv (.t 32)),o 33 (.ext (.t 29) 0),o 34 (.ext (.t 29) 1),o 35 (.ext (.t 29) 2),o 12 (.mv (.t 33)),o 13 (.mv (.t 34)),o 14 (.mv (.t 35))] [0,6,9,12]) (.seq (r [o 36 (.mv (.t 0)),o 37 (.mv (.t 36)),y 38 37 (.mv (.t 9)),y 39 37 (.lenS (.t 38)),y 40 37 (.bin .gtr (.t 39) (i 0)),o 41 (.pick (.t 37) (.t 40) (.c (.bool false))),o 42 (.mv (.t 9)),o 43 (.mv (.t 12)),o 44 (.build zR [(0,1,(.t 41)),(1,1,(.t 42)),(2,1,(.t 43))]),z (.st 3 (.t 6) (.t 44)),o 7 (.mv (i 0))] [6,7]) .ret)))))),[.cell 6 (some 3),.t 7]⟩
theorem ratio_Of_ok : cFn Tryz.prog (kps [[0,1,2,6],[0,1,2,6,8],[0,1,2,6,8,20],[6,7],[0,2,6,8,9],[0,6,9,12],[6,7]]) [] 87 = some ratio_Of_c := by kernel_rfl
abbrev ratio_Zero : Nat := 24
def ratio_Zero_c : MFn := ⟨3,(.seq (r [o 0 (.alloc zR)] [0]) (.seq (r [o 1 (.call 54 [(.c (.int .u64 1))]),o 2 (.build zR [(2,1,(.t 1))]),z (.st 3 (.t 0) (.t 2))] [0]) .ret)),[.cell 0 (some 3)]⟩
theorem ratio_Zero_ok : cFn Tryz.prog (kps [[0],[0]]) [] 24 = some ratio_Zero_c := by kernel_rfl
abbrev ratio_One : Nat := 37
def ratio_One_c : MFn := ⟨4,(.seq (r [o 0 (.alloc zR)] [0]) (.seq (r [o 1 (.call 54 [(.c (.int .u64 1))]),o 2 (.call 54 [(.c (.int .u64 1))]),o 3 (.build zR [(1,1,(.t 1)),(2,1,(.t 2))]),z (.st 3 (.t 0) (.t 3))] [0]) .ret)),[.cell 0 (some 3)]⟩
theorem ratio_One_ok : cFn Tryz.prog (kps [[0],[0]]) [] 37 = some ratio_One_c := by kernel_rfl
abbrev ratio_made : Nat := 57
def ratio_made_c : MFn := ⟨20,(.seq (r [o 6 (.alloc zR)] [0,1,2,6]) (.seq (r [o 10 (.mv (.t 0)),o 11 (.mv (.t 1)),o 12 (.mv (.t 2)),o 13 (.call 87 [(.t 10),(.t 11),(.t 12)]),o 9 (.mv (.t 13)),o 14 (.ext (.t 9) 0),o 15 (.ext (.t 9) 1),o 7 (.alloc zR),z (.st 3 (.t 7) (.t 14)),o 8 (.mv (.t 15))] [6,7,8]) (.seq (.seq (r [o 16 (.mv (.t 8)),o 17 (.bin .neq (.t 16) (i 0))] [6,7,17]) (.cond (.t 17) (.seq (r [o 18 (.call 24 []),z (.st 3 (.t 6) (.t 18))] [6]) .ret) .skip)) (.seq (r [o 19 (.ld (some 3) (.t 7)),z (.st 3 (.t 6) (.t 19))] [6]) .ret)))),[.cell 6 (some 3)]⟩
theorem ratio_made_ok : cFn Tryz.prog (kps [[0,1,2,6],[6,7,8],[6,7,17],[6],[6]]) [] 57 = some ratio_made_c := by kernel_rfl
abbrev ratio_Sign : Nat := 56
def ratio_Sign_c : MFn := ⟨17,(.seq (r [o 1 (.box (.t 0)),o 2 (.mv (i 0))] [1]) (.seq (.block 0 (.seq (r [o 4 (.fA 1 (.t 1)),o 5 (.ld none (.t 4)),o 6 (.call 60 [(.t 5),(.c .nils)]),o 7 (.bin .eql (.t 6) (i 0)),o 8 (.mv (.t 7)),n 9 8 (.fA 2 (.t 1)),n 10 8 (.ld none (.t 9)),n 11 8 (.call 60 [(.t 10),(.c .nils)]),n 12 8 (.bin .eql (.t 11) (i 0)),o 13 (.pick (.t 8) (.c (.bool true)) (.t 12)),o 3 (.mv (.t 13))] [1,3]) (.cond (.t 3) (.seq (r [o 2 (.mv (i 0))] [2]) .ret) (.seq (r [o 15 (.fA 0 (.t 1)),o 16 (.ld none (.t 15)),o 14 (.mv (.t 16))] [14]) (.cond (.t 14) (.seq (r [o 2 (.mv (i (-1)))] [2]) .ret) .skip))))) (.seq (r [o 2 (.mv (i 1))] [2]) .ret))),[.t 2]⟩
theorem ratio_Sign_ok : cFn Tryz.prog (kps [[1],[1,3],[2],[14],[2],[2]]) [] 56 = some ratio_Sign_c := by kernel_rfl
abbrev ratio_Compare : Nat := 71
def ratio_Compare_c : MFn := ⟨32,(.seq (r [o 2 (.box (.t 0)),o 3 (.box (.t 1)),o 4 (.mv (i 0))] [2,3]) (.seq (r [o 7 (.ld (some 3) (.t 2)),o 8 (.callF 56 [(.t 7)]),o 9 (.ld (some 3) (.t 3)),o 10 (.callF 56 [(.t 9)]),o 5 (.mv (.t 8)),o 6 (.mv (.t 10))] [2,3,5,6]) (.seq (.block 0 (.seq (r [o 12 (.mv (.t 5)),o 13 (.mv (.t 6)),o 14 (.bin .lss (.t 12) (.t 13)),o 11 (.mv (.t 14))] [2,3,5,6,11]) (.cond (.t 11) (.seq (r [o 4 (.mv (i (-1)))] [4]) .ret) (.seq (r [o 16 (.mv (.t 5)),o 17 (.mv (.t 6)),o 18 (.bin .gtr (.t 16) (.t 17)),o 15 (.mv (.t 18))] [2,3,5,15]) (.cond (.t 15) (.seq (r [o 4 (.mv (i 1))] [4]) .ret) .skip))))) (.seq (r [o 19 (.mv (.t 5)),o 20 (.fA 1 (.t 2)),o 21 (.ld none (.t 20)),o 22 (.fA 2 (.t 3)),o 23 (.ld none (.t 22)),o 24 (.callF 58 [(.t 21),(.t 23)]),o 25 (.fA 1 (.t 3)),o 26 (.ld none (.t 25)),o 27 (.fA 2 (.t 2)),o 28 (.ld none (.t 27)),o 29 (.callF 58 [(.t 26),(.t 28)]),o 30 (.callF 60 [(.t 24),(.t 29)]),o 31 (.bin .mul (.t 19) (.t 30)),o 4 (.mv (.t 31))] [4]) .ret)))),[.t 4]⟩
theorem ratio_Compare_ok : cFn Tryz.prog (kps [[2,3],[2,3,5,6],[2,3,5,6,11],[4],[2,3,5,15],[4],[4]]) [] 71 = some ratio_Compare_c := by kernel_rfl
abbrev ratio_Least : Nat := 36
def ratio_Least_c : MFn := ⟨17,(.seq (r [o 2 (.box (.t 0)),o 3 (.box (.t 1)),o 4 (.alloc zR)] [2,3,4]) (.seq (.seq (r [o 5 (.ld (some 3) (.t 3)),o 6 (.ld (some 3) (.t 2)),o 7 (.call 71 [(.t 5),(.t 6)]),o 8 (.bin .lss (.t 7) (i 0))] [2,3,4,8]) (.cond (.t 8) (r [o 9 (.ld (some 3) (.t 3)),z (.st 3 (.t 2) (.t 9))] [2,4]) .skip)) (.seq (r [o 10 (.fA 0 (.t 2)),o 11 (.ld none (.t 10)),o 12 (.fA 1 (.t 2)),o 13 (.ld none (.t 12)),o 14 (.fA 2 (.t 2)),o 15 (.ld none (.t 14)),o 16 (.call 57 [(.t 11),(.t 13),(.t 15)]),z (.st 3 (.t 4) (.t 16))] [4]) .ret))),[.cell 4 (some 3)]⟩
theorem ratio_Least_ok : cFn Tryz.prog (kps [[2,3,4],[2,3,4,8],[2,4],[4]]) [] 36 = some ratio_Least_c := by kernel_rfl
abbrev ratio_Add : Nat := 26
def ratio_Add_c : MFn := ⟨77,(.seq (r [o 2 (.box (.t 0)),o 3 (.box (.t 1)),o 4 (.alloc zR)] [2,3,4]) (.seq (.block 0 (.seq (r [o 11 (.ld (some 3) (.t 2)),o 12 (.call 56 [(.t 11)]),o 13 (.bin .eql (.t 12) (i 0)),o 10 (.mv (.t 13))] [2,3,4,10]) (.cond (.t 10) (.seq (r [o 14 (.fA 0 (.t 3)),o 15 (.ld none (.t 14)),o 16 (.fA 1 (.t 3)),o 17 (.ld none (.t 16)),o 18 (.fA 2 (.t 3)),o 19 (.ld none (.t 18)),o 20 (.call 57 [(.t 15),(.t 17),(.t 19)]),z (.st 3 (.t 4) (.t 20))] [4]) .ret) (.seq (r [o 22 (.ld (some 3) (.t 3)),o 23 (.call 56 [(.t 22)]),o 24 (.bin .eql (.t 23) (i 0)),o 21 (.mv (.t 24))] [2,3,4,21]) (.cond (.t 21) (.seq (r [o 25 (.fA 0 (.t 2)),o 26 (.ld none (.t 25)),o 27 (.fA 1 (.t 2)),o 28 (.ld none (.t 27)),o 29 (.fA 2 (.t 2)),o 30 (.ld none (.t 29)),o 31 (.call 57 [(.t 26),(.t 28),(.t 30)]),z (.st 3 (.t 4) (.t 31))] [4]) .ret) .skip))))) (.seq (r [o 32 (.fA 1 (.t 2)),o 33 (.ld none (.t 32)),o 34 (.fA 2 (.t 3)),o 35 (.ld none (.t 34)),o 36 (.callF 58 [(.t 33),(.t 35)]),o 37 (.fA 1 (.t 3)),o 38 (.ld none (.t 37)),o 39 (.fA 2 (.t 2)),o 40 (.ld none (.t 39)),o 41 (.callF 58 [(.t 38),(.t 40)]),o 42 (.fA 2 (.t 2)),o 43 (.ld none (.t 42)),o 44 (.fA 2 (.t 3)),o 45 (.ld none (.t 44)),o 46 (.callF 58 [(.t 43),(.t 45)]),o 5 (.mv (.t 36)),o 6 (.mv (.t 41)),o 7 (.mv (.t 46))] [2,3,4,5,6,7]) (.seq (.seq (r [o 47 (.fA 0 (.t 2)),o 48 (.ld none (.t 47)),o 49 (.fA 0 (.t 3)),o 50 (.ld none (.t 49)),o 51 (.binB .eql (.t 48) (.t 50))] [2,3,4,5,6,7,51]) (.cond (.t 51) (.seq (r [o 52 (.fA 0 (.t 2)),o 53 (.ld none (.t 52)),o 54 (.mv (.t 5)),o 55 (.mv (.t 6)),o 56 (.callF 59 [(.t 54),(.t 55)]),o 57 (.mv (.t 7)),o 58 (.callF 57 [(.t 53),(.t 56),(.t 57)]),z (.st 3 (.t 4) (.t 58))] [4]) .ret) .skip)) (.seq (.seq (r [o 59 (.mv (.t 5)),o 60 (.mv (.t 6)),o 61 (.call 60 [(.t 59),(.t 60)]),o 62 (.bin .lss (.t 61) (i 0))] [2,3,4,5,6,7,62]) (.cond (.t 62) (r [o 63 (.ld (some 3) (.t 3)),o 64 (.mv (.t 6)),o 65 (.mv (.t 5)),z (.st 3 (.t 2) (.t 63)),o 5 (.mv (.t 64)),o 6 (.mv (.t 65))] [2,4,5,6,7]) .skip)) (.seq (r [o 67 (.mv (.t 5)),o 68 (.mv (.t 6)),o 69 (.call 61 [(.t 67),(.t 68)]),o 66 (.mv (.t 69)),o 70 (.ext (.t 66) 0),o 71 (.ext (.t 66) 1),o 8 (.mv (.t 70)),o 9 (.mv (.t 71))] [2,4,7,8]) (.seq (r [o 72 (.fA 0 (.t 2)),o 73 (.ld none (.t 72)),o 74 (.mv (.t 8)),o 75 (.mv (.t 7)),o 76 (.call 57 [(.t 73),(.t 74),(.t 75)]),z (.st 3 (.t 4) (.t 76))] [4]) .ret))))))),[.cell 4 (some 3)]⟩
theorem ratio_Add_ok : cFn Tryz.prog (kps [[2,3,4],[2,3,4,10],[4],[2,3,4,21],[4],[2,3,4,5,6,7],[2,3,4,5,6,7,51],[4],[2,3,4,5,6,7,62],[2,4,5,6,7],[2,4,7,8],[4]]) [] 26 = some ratio_Add_c := by kernel_rfl
abbrev ref02_Zero : Nat := 29
def ref02_Zero_c : MFn := ⟨3,(.seq (r [o 0 (.alloc zR)] [0]) (.seq (r [o 1 (.call 63 [(.c (.int .u64 1))]),o 2 (.build zR [(2,1,(.t 1))]),z (.st 3 (.t 0) (.t 2))] [0]) .ret)),[.cell 0 (some 3)]⟩
theorem ref02_Zero_ok : cFn Tryz.prog (kps [[0],[0]]) [] 29 = some ref02_Zero_c := by kernel_rfl
abbrev ref02_One : Nat := 42
def ref02_One_c : MFn := ⟨4,(.seq (r [o 0 (.alloc zR)] [0]) (.seq (r [o 1 (.call 63 [(.c (.int .u64 1))]),o 2 (.call 63 [(.c (.int .u64 1))]),o 3 (.build zR [(1,1,(.t 1)),(2,1,(.t 2))]),z (.st 3 (.t 0) (.t 3))] [0]) .ret)),[.cell 0 (some 3)]⟩
theorem ref02_One_ok : cFn Tryz.prog (kps [[0],[0]]) [] 42 = some ref02_One_c := by kernel_rfl
abbrev ref02_Of : Nat := 51
def ref02_Of_c : MFn := ⟨45,(.seq (r [o 6 (.alloc zR),o 7 (.mv (i 0))] [0,1,2,6]) (.seq (.seq (r [o 15 (.mv (.t 2)),o 16 (.call 84 [(.t 15)]),o 17 (.bin .eql (.t 16) (i 0))] [0,1,2,6,17]) (.cond (.t 17) (.seq (r [o 18 (.build zR []),z (.st 3 (.t 6) (.t 18)),o 7 (.mv (i 31))] [6,7]) .ret) .skip)) (.seq (r [o 19 (.mv (.t 1)),o 20 (.mv (.t 2)),o 21 (.call 85 [(.t 19),(.t 20)]),o 8 (.mv (.t 21))] [0,1,2,6,8]) (.seq (r [o 23 (.mv (.t 1)),o 24 (.mv (.t 8)),o 25 (.call 86 [(.t 23),(.t 24)]),o 22 (.mv (.t 25)),o 26 (.ext (.t 22) 0),o 27 (.ext (.t 22) 1),o 28 (.ext (.t 22) 2),o 9 (.mv (.t 26)),o 10 (.mv (.t 27)),o 11 (.mv (.t 28))] [0,2,6,8,9]) (.seq (r [o 30 (.mv (.t 2)),o 31 (.mv (.t 8)),o 32 (.call 86 [(.t 30),(.t 31)]),o 29 (.mv (.t 32)),o 33 (.ext (.t 29) 0),o 34 (.ext (.t 29) 1),o 35 (.ext (.t 29) 2),o 12 (.mv (.t 33)),o 13 (.mv (.t 34)),o 14 (.mv (.t 35))] [0,6,9,12]) (.seq (r [o 36 (.mv (.t 0)),o 37 (.mv (.t 36)),y 38 37 (.mv (.t 9)),y 39 37 (.lenS (.t 38)),y 40 37 (.bin .gtr (.t 39) (i 0)),o 41 (.pick (.t 37) (.t 40) (.c (.bool false))),o 42 (.mv (.t 9)),o 43 (.mv (.t 12)),o 44 (.build zR [(0,1,(.t 41)),(1,1,(.t 42)),(2,1,(.t 43))]),z (.st 3 (.t 6) (.t 44)),o 7 (.mv (i 0))] [6,7]) .ret)))))),[.cell 6 (some 3),.t 7]⟩
theorem ref02_Of_ok : cFn Tryz.prog (kps [[0,1,2,6],[0,1,2,6,17],[6,7],[0,1,2,6,8],[0,2,6,8,9],[0,6,9,12],[6,7]]) [] 51 = some ref02_Of_c := by kernel_rfl
abbrev ref02_valid : Nat := 65
def ref02_valid_c : MFn := ⟨19,(.seq (r [o 1 (.box (.t 0)),o 2 (.alloc zR)] [1,2]) (.seq (r [o 6 (.fA 0 (.t 1)),o 7 (.ld none (.t 6)),o 8 (.fA 1 (.t 1)),o 9 (.ld none (.t 8)),o 10 (.fA 2 (.t 1)),o 11 (.ld none (.t 10)),o 12 (.call 51 [(.t 7),(.t 9),(.t 11)]),o 5 (.mv (.t 12)),o 13 (.ext (.t 5) 0),o 14 (.ext (.t 5) 1),o 3 (.alloc zR),z (.st 3 (.t 3) (.t 13)),o 4 (.mv (.t 14))] [2,3,4]) (.seq (.seq (r [o 15 (.mv (.t 4)),o 16 (.bin .neq (.t 15) (i 0))] [2,3,16]) (.cond (.t 16) (.seq (r [o 17 (.call 29 []),z (.st 3 (.t 2) (.t 17))] [2]) .ret) .skip)) (.seq (r [o 18 (.ld (some 3) (.t 3)),z (.st 3 (.t 2) (.t 18))] [2]) .ret)))),[.cell 2 (some 3)]⟩
theorem ref02_valid_ok : cFn Tryz.prog (kps [[1,2],[2,3,4],[2,3,16],[2],[2]]) [] 65 = some ref02_valid_c := by kernel_rfl
abbrev ref02_Sign : Nat := 73
def ref02_Sign_c : MFn := ⟨13,(.seq (r [o 1 (.box (.t 0)),o 2 (.mv (i 0))] [1]) (.seq (r [o 3 (.ld (some 3) (.t 1)),o 4 (.call 65 [(.t 3)]),z (.st 3 (.t 1) (.t 4))] [1]) (.seq (.block 0 (.seq (r [o 6 (.fA 1 (.t 1)),o 7 (.ld none (.t 6)),o 8 (.lenS (.t 7)),o 9 (.bin .eql (.t 8) (i 0)),o 5 (.mv (.t 9))] [1,5]) (.cond (.t 5) (.seq (r [o 2 (.mv (i 0))] [2]) .ret) (.seq (r [o 11 (.fA 0 (.t 1)),o 12 (.ld none (.t 11)),o 10 (.mv (.t 12))] [10]) (.cond (.t 10) (.seq (r [o 2 (.mv (i (-1)))] [2]) .ret) .skip))))) (.seq (r [o 2 (.mv (i 1))] [2]) .ret)))),[.t 2]⟩
theorem ref02_Sign_ok : cFn Tryz.prog (kps [[1],[1],[1,5],[2],[10],[2],[2]]) [] 73 = some ref02_Sign_c := by kernel_rfl
abbrev ref02_Neg : Nat := 96
def ref02_Neg_c : MFn := ⟨16,(.seq (r [o 1 (.box (.t 0)),o 2 (.alloc zR)] [1,2]) (.seq (r [o 3 (.ld (some 3) (.t 1)),o 4 (.call 65 [(.t 3)]),z (.st 3 (.t 1) (.t 4))] [1,2]) (.seq (r [o 5 (.fA 0 (.t 1)),o 6 (.ld none (.t 5)),o 7 (.un .not (.t 6)),o 8 (.mv (.t 7)),y 9 8 (.fA 1 (.t 1)),y 10 8 (.ld none (.t 9)),y 11 8 (.lenS (.t 10)),y 12 8 (.bin .gtr (.t 11) (i 0)),o 13 (.pick (.t 8) (.t 12) (.c (.bool false))),o 14 (.fA 0 (.t 1)),z (.st 1 (.t 14) (.t 13))] [1,2]) (.seq (r [o 15 (.ld (some 3) (.t 1)),z (.st 3 (.t 2) (.t 15))] [2]) .ret)))),[.cell 2 (some 3)]⟩
theorem ref02_Neg_ok : cFn Tryz.prog (kps [[1,2],[1,2],[1,2],[2]]) [] 96 = some ref02_Neg_c := by kernel_rfl
abbrev ref02_Add : Nat := 31
def ref02_Add_c : MFn := ⟨67,(.seq (r [o 2 (.box (.t 0)),o 3 (.box (.t 1)),o 4 (.alloc zR)] [2,3,4]) (.seq (r [o 12 (.ld (some 3) (.t 2)),o 13 (.callF 65 [(.t 12)]),o 14 (.ld (some 3) (.t 3)),o 15 (.callF 65 [(.t 14)]),z (.st 3 (.t 2) (.t 13)),z (.st 3 (.t 3) (.t 15))] [2,3,4]) (.seq (r [o 16 (.fA 1 (.t 2)),o 17 (.ld none (.t 16)),o 18 (.fA 2 (.t 3)),o 19 (.ld none (.t 18)),o 20 (.callF 66 [(.t 17),(.t 19)]),o 21 (.fA 1 (.t 3)),o 22 (.ld none (.t 21)),o 23 (.fA 2 (.t 2)),o 24 (.ld none (.t 23)),o 25 (.callF 66 [(.t 22),(.t 24)]),o 26 (.fA 2 (.t 2)),o 27 (.ld none (.t 26)),o 28 (.fA 2 (.t 3)),o 29 (.ld none (.t 28)),o 30 (.callF 66 [(.t 27),(.t 29)]),o 5 (.mv (.t 20)),o 6 (.mv (.t 25)),o 7 (.mv (.t 30))] [2,3,4,5,6,7]) (.seq (r [o 31 (.fA 0 (.t 2)),o 32 (.ld none (.t 31)),o 33 (.mv (.t 5)),o 34 (.mv (.t 6)),o 35 (.callF 67 [(.t 33),(.t 34)]),o 8 (.mv (.t 32)),o 9 (.mv (.t 35))] [2,3,4,5,6,7,8,9]) (.seq (.seq (r [o 36 (.fA 0 (.t 2)),o 37 (.ld none (.t 36)),o 38 (.fA 0 (.t 3)),o 39 (.ld none (.t 38)),o 40 (.binB .neq (.t 37) (.t 39))] [3,4,5,6,7,8,9,40]) (.cond (.t 40) (.seq (r [o 41 (.mv (.t 5)),o 42 (.mv (.t 6)),o 43 (.call 68 [(.t 41),(.t 42)]),o 44 (.bin .geq (.t 43) (i 0))] [3,4,5,6,7,8,44]) (.cond (.t 44) (r [o 46 (.mv (.t 5)),o 47 (.mv (.t 6)),o 48 (.call 69 [(.t 46),(.t 47)]),o 45 (.mv (.t 48)),o 49 (.ext (.t 45) 0),o 50 (.ext (.t 45) 1),o 9 (.mv (.t 49))] [4,7,8,9]) (.seq (r [o 51 (.fA 0 (.t 3)),o 52 (.ld none (.t 51)),o 8 (.mv (.t 52))] [4,5,6,7,8]) (r [o 54 (.mv (.t 6)),o 55 (.mv (.t 5)),o 56 (.call 69 [(.t 54),(.t 55)]),o 53 (.mv (.t 56)),o 57 (.ext (.t 53) 0),o 58 (.ext (.t 53) 1),o 9 (.mv (.t 57))] [4,7,8,9])))) .skip)) (.seq (r [o 60 (.mv (.t 8)),o 61 (.mv (.t 9)),o 62 (.mv (.t 7)),o 63 (.call 51 [(.t 60),(.t 61),(.t 62)]),o 59 (.mv (.t 63)),o 64 (.ext (.t 59) 0),o 65 (.ext (.t 59) 1),o 10 (.alloc zR),z (.st 3 (.t 10) (.t 64)),o 11 (.mv (.t 65))] [4,10]) (.seq (r [o 66 (.ld (some 3) (.t 10)),z (.st 3 (.t 4) (.t 66))] [4]) .ret))))))),[.cell 4 (some 3)]⟩
theorem ref02_Add_ok : cFn Tryz.prog (kps [[2,3,4],[2,3,4],[2,3,4,5,6,7],[2,3,4,5,6,7,8,9],[3,4,5,6,7,8,9,40],[3,4,5,6,7,8,44],[4,7,8,9],[4,5,6,7,8],[4,7,8,9],[4,10],[4]]) [] 31 = some ref02_Add_c := by kernel_rfl
abbrev ref02_Sub : Nat := 74
def ref02_Sub_c : MFn := ⟨9,(.seq (r [o 2 (.box (.t 0)),o 3 (.box (.t 1)),o 4 (.alloc zR)] [2,3,4]) (.seq (r [o 5 (.ld (some 3) (.t 2)),o 6 (.ld (some 3) (.t 3)),o 7 (.callF 96 [(.t 6)]),o 8 (.callF 31 [(.t 5),(.t 7)]),z (.st 3 (.t 4) (.t 8))] [4]) .ret)),[.cell 4 (some 3)]⟩
theorem ref02_Sub_ok : cFn Tryz.prog (kps [[2,3,4],[4]]) [] 74 = some ref02_Sub_c := by kernel_rfl
abbrev ref02_Compare : Nat := 43
def ref02_Compare_c : MFn := ⟨9,(.seq (r [o 2 (.box (.t 0)),o 3 (.box (.t 1)),o 4 (.mv (i 0))] [2,3]) (.seq (r [o 5 (.ld (some 3) (.t 2)),o 6 (.ld (some 3) (.t 3)),o 7 (.call 74 [(.t 5),(.t 6)]),o 8 (.call 73 [(.t 7)]),o 4 (.mv (.t 8))] [4]) .ret)),[.t 4]⟩
theorem ref02_Compare_ok : cFn Tryz.prog (kps [[2,3],[4]]) [] 43 = some ref02_Compare_c := by kernel_rfl
abbrev ref02_Same : Nat := 15
def ref02_Same_c : MFn := ⟨9,(.seq (r [o 2 (.box (.t 0)),o 3 (.box (.t 1)),o 4 (.mv (.c (.bool false)))] [2,3]) (.seq (r [o 5 (.ld (some 3) (.t 2)),o 6 (.ld (some 3) (.t 3)),o 7 (.call 43 [(.t 5),(.t 6)]),o 8 (.bin .eql (.t 7) (i 0)),o 4 (.mv (.t 8))] [4]) .ret)),[.t 4]⟩
theorem ref02_Same_ok : cFn Tryz.prog (kps [[2,3],[4]]) [] 15 = some ref02_Same_c := by kernel_rfl
abbrev ref02_Least : Nat := 41
def ref02_Least_c : MFn := ⟨13,(.seq (r [o 2 (.box (.t 0)),o 3 (.box (.t 1)),o 4 (.alloc zR)] [2,3,4]) (.seq (.seq (r [o 5 (.ld (some 3) (.t 3)),o 6 (.ld (some 3) (.t 2)),o 7 (.call 43 [(.t 5),(.t 6)]),o 8 (.bin .lss (.t 7) (i 0))] [2,3,4,8]) (.cond (.t 8) (.seq (r [o 9 (.ld (some 3) (.t 3)),o 10 (.call 65 [(.t 9)]),z (.st 3 (.t 4) (.t 10))] [4]) .ret) .skip)) (.seq (r [o 11 (.ld (some 3) (.t 2)),o 12 (.call 65 [(.t 11)]),z (.st 3 (.t 4) (.t 12))] [4]) .ret))),[.cell 4 (some 3)]⟩
theorem ref02_Least_ok : cFn Tryz.prog (kps [[2,3,4],[2,3,4,8],[4],[4]]) [] 41 = some ref02_Least_c := by kernel_rfl
abbrev ref02_Mul : Nat := 40
def ref02_Mul_c : MFn := ⟨31,(.seq (r [o 2 (.box (.t 0)),o 3 (.box (.t 1)),o 4 (.alloc zR)] [2,3,4]) (.seq (r [o 7 (.ld (some 3) (.t 2)),o 8 (.callF 65 [(.t 7)]),o 9 (.ld (some 3) (.t 3)),o 10 (.callF 65 [(.t 9)]),z (.st 3 (.t 2) (.t 8)),z (.st 3 (.t 3) (.t 10))] [2,3,4]) (.seq (r [o 12 (.fA 0 (.t 2)),o 13 (.ld none (.t 12)),o 14 (.fA 0 (.t 3)),o 15 (.ld none (.t 14)),o 16 (.binB .neq (.t 13) (.t 15)),o 17 (.fA 1 (.t 2)),o 18 (.ld none (.t 17)),o 19 (.fA 1 (.t 3)),o 20 (.ld none (.t 19)),o 21 (.callF 66 [(.t 18),(.t 20)]),o 22 (.fA 2 (.t 2)),o 23 (.ld none (.t 22)),o 24 (.fA 2 (.t 3)),o 25 (.ld none (.t 24)),o 26 (.callF 66 [(.t 23),(.t 25)]),o 27 (.callF 51 [(.t 16),(.t 21),(.t 26)]),o 11 (.mv (.t 27)),o 28 (.ext (.t 11) 0),o 29 (.ext (.t 11) 1),o 5 (.alloc zR),z (.st 3 (.t 5) (.t 28)),o 6 (.mv (.t 29))] [4,5]) (.seq (r [o 30 (.ld (some 3) (.t 5)),z (.st 3 (.t 4) (.t 30))] [4]) .ret)))),[.cell 4 (some 3)]⟩
theorem ref02_Mul_ok : cFn Tryz.prog (kps [[2,3,4],[2,3,4],[4,5],[4]]) [] 40 = some ref02_Mul_c := by kernel_rfl
abbrev ref02_size : Nat := 50
def ref02_size_c : MFn := ⟨15,(.seq (r [o 2 (.mv (.c .nils)),o 3 (.mv (.c (.bool false)))] [0]) (.seq (.seq (r [o 4 (.mv (.t 0)),o 5 (.bin .lss (.t 4) (i 0))] [0,5]) (.cond (.t 5) (.seq (r [o 6 (.mv (.t 0)),o 7 (.bin .add (.t 6) (i 1)),o 8 (.un .neg (.t 7)),o 9 (.cvt .u64 (.t 8)),o 10 (.bin .add (.t 9) (.c (.int .u64 1))),o 11 (.call 63 [(.t 10)]),o 2 (.mv (.t 11)),o 3 (.mv (.c (.bool true)))] [2,3]) .ret) .skip)) (.seq (r [o 12 (.mv (.t 0)),o 13 (.cvt .u64 (.t 12)),o 14 (.call 63 [(.t 13)]),o 2 (.mv (.t 14)),o 3 (.mv (.c (.bool false)))] [2,3]) .ret))),[.t 2,.t 3]⟩
theorem ref02_size_ok : cFn Tryz.prog (kps [[0],[0,5],[2,3],[2,3]]) [] 50 = some ref02_size_c := by kernel_rfl
end Go.Proofs.YtkockkfmjmheeaaGreat.F

namespace Go.Proofs.YtkockkfmjmheeaaGreat
open Go Go.Proofs Go.Proofs.YtkockkfmjmheeaaGreat.E
set_option linter.unusedSimpArgs false
set_option linter.unusedVariables false
def E.Raw.v (x : Raw) : V := .agg [.bool x.neg, nat x.num, nat x.den]
def ratV (r : Rat) : V := (rawOf r).v
theorem divV_nat (x g : Nat) (hg : 0 < g) : divV (x : Int) (g : Int) = .tup [nat (digs ((x / g : Nat) : Int)), nat (digs ((x % g : Nat) : Int)), .int .i64 0] := by
 unfold divV; rw [if_neg (by omega)]; simp
theorem ratio_Of {neg : Bool} {a b : List Int} (ha : Dig a) (hb : Dig b) (la : a.length ≤ 2 ^ 33) (lb : b.length ≤ 2 ^ 33) : CallD Tryz.prog F.ratio_Of [.bool neg, nat a, nat b] (· = if val b = 0 then .tup [.agg [.bool false, .dat [], .dat []], .int .i64 31] else .tup [ratV (mkRat (sgn neg (val a)) (val b).toNat), .int .i64 0]) := by
 refine callD_by F.ratio_Of_ok ?_
 unfold F.ratio_Of_c
 simp
 refine callK_of (nat_Gcd ha hb la lb) (by simp) ?_
 simp
 refine callK_of (nat_Compare hb Dig.nil (by omega) (by simp)) (by simp) ?_
 have n1 := val_nonneg ha
 have n2 := val_nonneg hb
 have l1 := digs_le_of ha
 have l2 := digs_le_of hb
 obtain ⟨x, hx⟩ := Int.eq_ofNat_of_zero_le n1
 obtain ⟨y, hy⟩ := Int.eq_ofNat_of_zero_le n2
 have hk1 := val_digs (show (0 : Int) ≤ (Nat.gcd x y : Nat) by omega)
 simp only [hx, hy, Int.toNat_natCast, val_nil] at l1 l2 ⊢
 by_cases h0 : y = 0
 ·subst h0
  simp
 ·have c1 : ¬ ((y : Int) < 0) := by omega
  have c2 : (0 : Int) < y := by omega
  have c3 : ¬ (y : Int) = 0 := by omega
  have lg := digs_length_mono (m := ((Nat.gcd x y : Nat) : Int)) (n := (y : Int)) (by omega) (Int.ofNat_le.2 (Nat.le_of_dvd (by omega) (Nat.gcd_dvd_right x y)))
  have hg : 0 < Nat.gcd x y := Nat.gcd_pos_of_pos_right _ (by omega)
  have hr := rawOf_mkRat neg x y h0
  have e1 := divV_nat x (Nat.gcd x y) hg
  have e2 := divV_nat y (Nat.gcd x y) hg
  have hd : (0 < (digs (((x / Nat.gcd x y : Nat) : Int))).length) ↔ 0 < x / Nat.gcd x y := by
   rw [List.length_pos_iff, ne_eq, digs_nil_iff]; omega
  simp [c1, c2, c3]
  intro _
  refine callK_of (nat_Div (b := digs ((Nat.gcd x y : Nat) : Int)) ha (digs_dig _) (by omega) (by omega)) (by simp) ?_
  rw [hk1, hx, e1]
  generalize hq1 : x / Nat.gcd x y = q1 at *
  simp [setOb, frz_nil]
  refine callK_of (nat_Div (b := digs ((Nat.gcd x y : Nat) : Int)) hb (digs_dig _) (by omega) (by omega)) (by simp) ?_
  rw [hk1, hy, e2]
  generalize hq2 : y / Nat.gcd x y = q2 at *
  simp [setOb, frz_nil]
  cases neg
  ·simp [h0, ratV, Raw.v, hr, setOb]
  ·simp [h0, ratV, Raw.v, hr, setOb, hd]
theorem ratio_Zero : CallD Tryz.prog F.ratio_Zero [] (· = ratV 0) := by
 refine callD_by F.ratio_Zero_ok ?_
 unfold F.ratio_Zero_c
 simp
 refine callK_of (nat_Of (n := 1) (by omega) (by omega)) (by simp) ?_
 simp [ratV, rawOf_zero, Raw.v]
theorem ratio_One : CallD Tryz.prog F.ratio_One [] (· = ratV 1) := by
 refine callD_by F.ratio_One_ok ?_
 unfold F.ratio_One_c
 simp
 refine callK_of (nat_Of (n := 1) (by omega) (by omega)) (by simp) ?_
 simp
 refine callK_of (nat_Of (n := 1) (by omega) (by omega)) (by simp) ?_
 simp [ratV, rawOf_one, Raw.v]
theorem ratio_made {neg : Bool} {a b : List Int} (ha : Dig a) (hb : Dig b) (la : a.length ≤ 2 ^ 33) (lb : b.length ≤ 2 ^ 33) : CallD Tryz.prog F.ratio_made [.bool neg, nat a, nat b] (· = ratV (mkRat (sgn neg (val a)) (val b).toNat)) := by
 refine callD_by F.ratio_made_ok ?_
 unfold F.ratio_made_c
 simp [setOb, List.filter_cons]
 refine callK_of (ratio_Of (neg := neg) ha hb la lb) (by simp) ?_
 by_cases h0 : val b = 0
 ·simp [h0, setOb, List.filter_cons, frz_nil]
  refine callK_of ratio_Zero (by simp) ?_
  simp [ratV, Raw.v, setOb, List.filter_cons, frz_nil]
 ·simp [h0, ratV, Raw.v, setOb, List.filter_cons, frz_nil]
theorem ratio_Sign {x : Raw} (ok : x.Ok (2 ^ 33)) : CallD Tryz.prog F.ratio_Sign [x.v] (· = .int .i64 (sgnR x.q)) := by
 have n1 := val_nonneg ok.dn
 have n2 := val_nonneg ok.dd
 have l1 := ok.ln
 have l2 := ok.ld
 refine callD_by F.ratio_Sign_ok ?_
 unfold F.ratio_Sign_c
 simp [Raw.v]
 refine callK_of (nat_Compare ok.dn Dig.nil (by omega) (by simp)) (by simp) ?_
 by_cases hn : val x.num = 0
 ·simp [hn, Raw.q_zero_num hn, sgnR_zero]
 have c1 : ¬ val x.num < 0 := by omega
 have c2 : 0 < val x.num := by omega
 simp [c1, c2]
 refine callK_of (nat_Compare ok.dd Dig.nil (by omega) (by simp)) (by simp) ?_
 by_cases hd : val x.den = 0
 ·simp [hd, Raw.q_zero_den hd, sgnR_zero]
 have c3 : ¬ val x.den < 0 := by omega
 have c4 : 0 < val x.den := by omega
 simp [c3, c4]
 cases hs : x.neg
 ·rw [sgnR_of_pos (Raw.q_pos ok hn hd hs)]; simp [hs]
 ·rw [sgnR_of_neg (Raw.q_neg ok hn hd hs)]; simp [hs]
theorem ratio_Compare {x y : Raw} (hx : x.Ok (2 ^ 33)) (hy : y.Ok (2 ^ 33)) : CallD Tryz.prog F.ratio_Compare [x.v, y.v] (· = .int .i64 (cmpR x.q y.q)) := by
 have key := cmpR_cross hx hy
 have b1 : -1 ≤ sgnR x.q ∧ sgnR x.q ≤ 1 := by unfold sgnR cmpR; split; omega; split <;> omega
 have l1 := hx.ln
 have l2 := hx.ld
 have l3 := hy.ln
 have l4 := hy.ld
 refine callD_by F.ratio_Compare_ok ?_
 unfold F.ratio_Compare_c
 simp [Raw.v, setOb, List.filter_cons]
 refine callFK_of (ratio_Sign hx) (by simp [Raw.v, setOb, List.filter_cons]) ?_
 simp
 refine callFK_of (ratio_Sign hy) (by simp [Raw.v, setOb, List.filter_cons]) ?_
 generalize sgnR x.q = s at *
 generalize sgnR y.q = t at *
 by_cases h1 : s < t
 ·rw [if_pos h1] at key
  simp [h1, key]
 rw [if_neg h1] at key
 simp only [gt_iff_lt] at key
 by_cases h2 : t < s
 ·rw [if_pos h2] at key
  simp [h1, h2, key]
 rw [if_neg h2] at key
 simp [h1, h2, Raw.v]
 refine callFK_of (nat_Mul hx.dn hy.dd (by omega) (by omega)) (by simp) ?_
 simp
 refine callFK_of (nat_Mul hy.dn hx.dd (by omega) (by omega)) (by simp) ?_
 have m1 := Int.mul_nonneg (val_nonneg hx.dn) (val_nonneg hy.dd)
 have m2 := Int.mul_nonneg (val_nonneg hy.dn) (val_nonneg hx.dd)
 simp
 have d1 := digs_mul_val hx.dn hy.dd
 have d2 := digs_mul_val hy.dn hx.dd
 refine callFK_of (nat_Compare (digs_dig _) (digs_dig _) (Nat.le_trans d1 (by omega)) (Nat.le_trans d2 (by omega))) (by simp) ?_
 rw [val_digs m1, val_digs m2]
 have b2 : ∀ c : Int, -1 ≤ c → c ≤ 1 → IntKind.i64.wrap (s * c) = s * c := by
  intro c h1 h2
  have hs : s = -1 ∨ s = 0 ∨ s = 1 := by omega
  have hc : c = -1 ∨ c = 0 ∨ c = 1 := by omega
  rcases hs with rfl | rfl | rfl <;> rcases hc with rfl | rfl | rfl <;> decide
 have b3 : -1 ≤ (if val x.num * val y.den < val y.num * val x.den then -1 else if val y.num * val x.den < val x.num * val y.den then 1 else 0 : Int) ∧ (if val x.num * val y.den < val y.num * val x.den then -1 else if val y.num * val x.den < val x.num * val y.den then 1 else 0 : Int) ≤ 1 := by
  split
  ·omega
  ·split <;> omega
 generalize (if val x.num * val y.den < val y.num * val x.den then -1 else if val y.num * val x.den < val x.num * val y.den then 1 else 0 : Int) = c at *
 simp [b2 c b3.1 b3.2, key]
theorem cmpR_eq {a b : Rat} : cmpR a b = 0 ↔ a = b := by
 unfold cmpR
 constructor
 ·intro h
  split at h
  ·simp at h
  ·split at h
   ·simp at h
   ·grind
 ·rintro rfl; simp [Rat.lt_irrefl]
theorem cmpR_lt {a b : Rat} : cmpR a b < 0 ↔ a < b := by
 unfold cmpR
 split
 ·rename_i h; simp [h]
 ·rename_i h; split <;> simp [h]
theorem cmpR_le {a b : Rat} : cmpR a b ≤ 0 ↔ a ≤ b := by
 unfold cmpR
 split
 ·rename_i h; simp; grind
 ·rename_i h; split <;> simp <;> grind
theorem ratio_Least {x y : Raw} (hx : x.Ok (2 ^ 33)) (hy : y.Ok (2 ^ 33)) : CallD Tryz.prog F.ratio_Least [x.v, y.v] (· = ratV (if y.q < x.q then y.q else x.q)) := by
 refine callD_by F.ratio_Least_ok ?_
 unfold F.ratio_Least_c
 simp [Raw.v, setOb, List.filter_cons]
 refine callK_of (ratio_Compare hy hx) (by simp [Raw.v]) ?_
 by_cases h : y.q < x.q
 ·simp [cmpR_lt, h, setOb, List.filter_cons]
  refine callK_of (ratio_made (neg := y.neg) hy.dn hy.dd hy.ln hy.ld) (by simp) ?_
  simp [ratV, Raw.v, setOb, List.filter_cons, frz_nil, Raw.q]
 ·simp [cmpR_lt, h, setOb, List.filter_cons]
  refine callK_of (ratio_made (neg := x.neg) hx.dn hx.dd hx.ln hx.ld) (by simp) ?_
  simp [ratV, Raw.v, setOb, List.filter_cons, frz_nil, Raw.q]
theorem sgnR_eq {a : Rat} : sgnR a = 0 ↔ a = 0 := cmpR_eq
set_option maxHeartbeats 1000000 in
theorem ratio_Add {x y : Raw} (hx : x.Ok (2 ^ 31)) (hy : y.Ok (2 ^ 31)) : CallD Tryz.prog F.ratio_Add [x.v, y.v] (· = ratV (x.q + y.q)) := by
 have n1 := val_nonneg hx.dn
 have n2 := val_nonneg hx.dd
 have n3 := val_nonneg hy.dn
 have n4 := val_nonneg hy.dd
 have l1 := hx.ln
 have l2 := hx.ld
 have l3 := hy.ln
 have l4 := hy.ld
 have hx' : x.Ok (2 ^ 33) := ⟨hx.dn, hx.dd, by omega, by omega⟩
 have hy' : y.Ok (2 ^ 33) := ⟨hy.dn, hy.dd, by omega, by omega⟩
 refine callD_by F.ratio_Add_ok ?_
 unfold F.ratio_Add_c
 simp [Raw.v, setOb, List.filter_cons]
 refine callK_of (ratio_Sign hx') (by simp [Raw.v]) ?_
 by_cases hx0 : x.q = 0
 ·simp [sgnR_eq, hx0]
  refine callK_of (ratio_made (neg := y.neg) hy.dn hy.dd (by omega) (by omega)) (by simp) ?_
  simp [ratV, Raw.v, setOb, List.filter_cons, frz_nil, Rat.zero_add, Raw.q]
 simp [sgnR_eq, hx0]
 refine callK_of (ratio_Sign hy') (by simp [Raw.v]) ?_
 by_cases hy0 : y.q = 0
 ·simp [sgnR_eq, hy0]
  refine callK_of (ratio_made (neg := x.neg) hx.dn hx.dd (by omega) (by omega)) (by simp) ?_
  simp [ratV, Raw.v, setOb, List.filter_cons, frz_nil, Rat.add_zero, Raw.q]
 have dx : 0 < val x.den := by
  by_cases h : val x.den = 0
  ·exact (hx0 (Raw.q_zero_den h)).elim
  ·omega
 have dy : 0 < val y.den := by
  by_cases h : val y.den = 0
  ·exact (hy0 (Raw.q_zero_den h)).elim
  ·omega
 have m1 := Int.mul_nonneg n1 n4
 have m2 := Int.mul_nonneg n3 n2
 have m3 := Int.mul_nonneg n2 n4
 have d1 := digs_mul_val hx.dn hy.dd
 have d2 := digs_mul_val hy.dn hx.dd
 have d3 := digs_mul_val hx.dd hy.dd
 have s1 : x.neg = y.neg → x.q + y.q = _ := Raw.add_same dx dy
 have s2 : x.neg ≠ y.neg → x.q + y.q = _ := Raw.add_ge dx dy
 have s3 : x.neg ≠ y.neg → x.q + y.q = _ := Raw.add_lt dx dy
 simp [sgnR_eq, hy0]
 refine callFK_of (nat_Mul hx.dn hy.dd (by omega) (by omega)) (by simp) ?_
 simp
 refine callFK_of (nat_Mul hy.dn hx.dd (by omega) (by omega)) (by simp) ?_
 simp [frz_nil]
 refine callFK_of (nat_Mul hx.dd hy.dd (by omega) (by omega)) (by simp) ?_
 generalize val x.num * val y.den = A at *
 generalize val y.num * val x.den = B at *
 generalize val x.den * val y.den = D at *
 have vA := val_digs m1
 have vB := val_digs m2
 have vD := val_digs m3
 by_cases hs : x.neg = y.neg
 ·have e1 := s1 hs
  have lAB := digs_add_le (m := 2 ^ 32) m1 m2 (by omega) (by omega)
  have vAB := val_digs (show 0 ≤ A + B by omega)
  simp [hs, frz_nil]
  refine callFK_of (nat_Add (digs_dig A) (digs_dig B) (by omega) (by omega)) (by simp) ?_
  rw [vA, vB]
  simp [frz_nil]
  refine callFK_of (ratio_made (neg := y.neg) (digs_dig (A + B)) (digs_dig D) (by omega) (by omega)) (by simp) ?_
  rw [vAB, vD, ← hs, ← e1]
  simp [ratV, Raw.v, setOb, List.filter_cons, frz_nil]
 ·have hs' : (x.neg == y.neg) = false := by cases h1 : x.neg <;> cases h2 : y.neg <;> simp [h1, h2] at hs ⊢
  simp [hs', hs, frz_nil]
  refine callK_of (nat_Compare (digs_dig A) (digs_dig B) (by omega) (by omega)) (by simp) ?_
  rw [vA, vB]
  by_cases hlt : A < B
  ·have e3 := s3 hs
   have lBA := digs_length_mono (m := B - A) (n := B) m2 (by omega)
   have vBA := val_digs (show 0 ≤ B - A by omega)
   simp [hlt, frz_nil, setOb, List.filter_cons]
   refine callK_of (nat_Sub (digs_dig B) (digs_dig A) (by omega) (by omega)) (by simp) ?_
   rw [vA, vB]
   have hn : ¬ B < A := by omega
   simp [subV, hn, frz_nil, setOb, List.filter_cons]
   refine callK_of (ratio_made (neg := y.neg) (digs_dig (B - A)) (digs_dig D) (by omega) (by omega)) (by simp) ?_
   rw [vBA, vD, ← e3]
   simp [ratV, Raw.v, setOb, List.filter_cons, frz_nil]
  ·have e3 := s2 hs
   have lBA := digs_length_mono (m := A - B) (n := A) m1 (by omega)
   have vBA := val_digs (show 0 ≤ A - B by omega)
   have hc : ¬ (if A < B then -1 else if B < A then 1 else 0 : Int) < 0 := by rw [if_neg hlt]; split <;> omega
   generalize (if A < B then -1 else if B < A then 1 else 0 : Int) = c at hc
   simp [hc, frz_nil, setOb, List.filter_cons]
   refine callK_of (nat_Sub (digs_dig A) (digs_dig B) (by omega) (by omega)) (by simp) ?_
   rw [vA, vB]
   simp [subV, hlt, frz_nil, setOb, List.filter_cons]
   refine callK_of (ratio_made (neg := x.neg) (digs_dig (A - B)) (digs_dig D) (by omega) (by omega)) (by simp) ?_
   rw [vBA, vD, ← e3]
   simp [ratV, Raw.v, setOb, List.filter_cons, frz_nil]
theorem ref02_Zero : CallD Tryz.prog F.ref02_Zero [] (· = ratV 0) := by
 refine callD_by F.ref02_Zero_ok ?_
 unfold F.ref02_Zero_c
 simp
 refine callK_of (ref01_Of (n := 1) (by omega) (by omega)) (by simp) ?_
 simp [ratV, rawOf_zero, Raw.v]
theorem ref02_One : CallD Tryz.prog F.ref02_One [] (· = ratV 1) := by
 refine callD_by F.ref02_One_ok ?_
 unfold F.ref02_One_c
 simp
 refine callK_of (ref01_Of (n := 1) (by omega) (by omega)) (by simp) ?_
 simp
 refine callK_of (ref01_Of (n := 1) (by omega) (by omega)) (by simp) ?_
 simp [ratV, rawOf_one, Raw.v]
theorem ref02_Of {neg : Bool} {a b : List Int} (ha : Dig a) (hb : Dig b) (la : a.length ≤ 2 ^ 33) (lb : b.length ≤ 2 ^ 33) : CallD Tryz.prog F.ref02_Of [.bool neg, nat a, nat b] (· = if val b = 0 then .tup [.agg [.bool false, .dat [], .dat []], .int .i64 31] else .tup [ratV (mkRat (sgn neg (val a)) (val b).toNat), .int .i64 0]) := by
 have n1 := val_nonneg ha
 have n2 := val_nonneg hb
 have l1 := digs_le_of ha
 have l2 := digs_le_of hb
 refine callD_by F.ref02_Of_ok ?_
 unfold F.ref02_Of_c
 simp [setOb, List.filter_cons]
 refine callK_rel (ref01_Bits hb (by omega)) (by simp) ?_
 rintro _ ⟨n, rfl, hn⟩
 obtain ⟨x, hx⟩ := Int.eq_ofNat_of_zero_le n1
 obtain ⟨y, hy⟩ := Int.eq_ofNat_of_zero_le n2
 have hk1 := val_digs (show (0 : Int) ≤ (Nat.gcd x y : Nat) by omega)
 have hG := ref01_Gcd ha hb la lb
 simp only [hx, hy, Int.toNat_natCast, val_nil] at l1 l2 hn hG ⊢
 by_cases h0 : y = 0
 ·subst h0
  have : n = 0 := hn.2 rfl
  subst this
  simp [setOb, List.filter_cons]
 ·have hn' : ¬ n = 0 := fun h => h0 (by have := hn.1 h; omega)
  have lg := digs_length_mono (m := ((Nat.gcd x y : Nat) : Int)) (n := (y : Int)) (by omega) (Int.ofNat_le.2 (Nat.le_of_dvd (by omega) (Nat.gcd_dvd_right x y)))
  have hg : 0 < Nat.gcd x y := Nat.gcd_pos_of_pos_right _ (by omega)
  have hr := rawOf_mkRat neg x y h0
  have e1 := divV_nat x (Nat.gcd x y) hg
  have e2 := divV_nat y (Nat.gcd x y) hg
  have hd : (0 < (digs (((x / Nat.gcd x y : Nat) : Int))).length) ↔ 0 < x / Nat.gcd x y := by
   rw [List.length_pos_iff, ne_eq, digs_nil_iff]; omega
  simp [hn']
  refine callK_of hG (by simp) ?_
  simp
  refine callK_of (ref01_Div (b := digs ((Nat.gcd x y : Nat) : Int)) ha (digs_dig _) (by omega) (by omega)) (by simp) ?_
  rw [hk1, hx, e1]
  generalize hq1 : x / Nat.gcd x y = q1 at *
  simp
  refine callK_of (ref01_Div (b := digs ((Nat.gcd x y : Nat) : Int)) hb (digs_dig _) (by omega) (by omega)) (by simp) ?_
  rw [hk1, hy, e2]
  generalize hq2 : y / Nat.gcd x y = q2 at *
  simp
  cases neg
  ·simp [h0, ratV, Raw.v, hr, setOb, List.filter_cons]
  ·simp [h0, ratV, Raw.v, hr, setOb, List.filter_cons, hd]
theorem ref02_valid {x : Raw} (ok : x.Ok (2 ^ 33)) : CallD Tryz.prog F.ref02_valid [x.v] (· = ratV x.q) := by
 refine callD_by F.ref02_valid_ok ?_
 unfold F.ref02_valid_c
 simp [Raw.v, setOb, List.filter_cons]
 refine callK_of (ref02_Of (neg := x.neg) ok.dn ok.dd ok.ln ok.ld) (by simp) ?_
 by_cases h0 : val x.den = 0
 ·simp [h0, setOb, List.filter_cons]
  refine callK_of ref02_Zero (by simp) ?_
  simp [ratV, Raw.v, setOb, List.filter_cons, Raw.q_zero_den h0]
 ·simp [h0, ratV, Raw.v, setOb, List.filter_cons, Raw.q]
theorem sgnR_raw (r : Rat) : sgnR r = if (rawOf r).num = [] then 0 else if (rawOf r).neg then -1 else 1 := by
 have e : (rawOf r).num = [] ↔ r = 0 := by
  unfold rawOf; simp only [digs_nil_iff]
  rw [← Rat.num_eq_zero]; omega
 have e2 : (rawOf r).neg = decide (r < 0) := rfl
 by_cases h : r = 0
 ·rw [if_pos (e.2 h), h]; exact sgnR_zero
 ·rw [if_neg (fun h' => h (e.1 h')), e2]
  by_cases h2 : r < 0
  ·rw [sgnR_of_neg h2]; simp [h2]
  ·rw [sgnR_of_pos (by grind)]; simp [h2]
theorem ref02_Sign {x : Raw} (ok : x.Ok (2 ^ 33)) : CallD Tryz.prog F.ref02_Sign [x.v] (· = .int .i64 (sgnR x.q)) := by
 have e := sgnR_raw x.q
 refine callD_by F.ref02_Sign_ok ?_
 unfold F.ref02_Sign_c
 simp [Raw.v, setOb, List.filter_cons]
 refine callK_of (ref02_valid ok) (by simp [Raw.v]) ?_
 simp [ratV, Raw.v, setOb, List.filter_cons]
 generalize rawOf x.q = r at *
 by_cases h : r.num = []
 ·simp [h] at e
  simp [h, e]
 ·have h' : ¬ ((r.num.length : Int) = 0) := by have := List.length_pos_iff.2 h; omega
  cases hs : r.neg <;> simp [h, hs] at e <;> simp [h, h', hs, e]
theorem ref02_Neg {x : Raw} (ok : x.Ok (2 ^ 33)) : CallD Tryz.prog F.ref02_Neg [x.v] (· = ratV (-x.q)) := by
 have e : (rawOf (-x.q)) = ⟨!(rawOf x.q).neg && decide (0 < (rawOf x.q).num.length), (rawOf x.q).num, (rawOf x.q).den⟩ := by
  have e1 : 0 < (rawOf x.q).num.length ↔ x.q ≠ 0 := by
   rw [List.length_pos_iff]
   unfold rawOf; simp only [ne_eq, digs_nil_iff]
   rw [← Rat.num_eq_zero]; omega
  unfold rawOf at *
  simp only at e1
  rw [show (-x.q).num = -x.q.num from rfl, show (-x.q).den = x.q.den from rfl, Int.natAbs_neg]
  congr 1
  have e3 : decide (0 < (digs (x.q.num.natAbs : Int)).length) = decide (x.q ≠ 0) := decide_eq_decide.2 e1
  rw [e3]
  by_cases h : x.q < 0
  ·have : ¬ -x.q < 0 := by grind
   simp [h, this]
  ·by_cases h2 : x.q = 0
   ·have a1 : ¬ -x.q < 0 := by rw [h2]; decide
    simp [h, h2, a1]
   ·have : -x.q < 0 := by grind
    simp [h, h2, this]
 refine callD_by F.ref02_Neg_ok ?_
 unfold F.ref02_Neg_c
 simp [Raw.v, setOb, List.filter_cons]
 refine callK_of (ref02_valid ok) (by simp [Raw.v]) ?_
 unfold ratV
 rw [e]
 generalize rawOf x.q = r at *
 cases hs : r.neg
 ·simp [Raw.v, setOb, List.filter_cons, hs]
 ·simp [Raw.v, setOb, List.filter_cons, hs]
theorem canon_den (r : Rat) : 0 < val (rawOf r).den := by
 unfold rawOf; simp only; rw [val_digs (by omega)]
 have := r.den_pos; omega
set_option maxHeartbeats 1000000 in
theorem ref02_Add {x y : Raw} (hx : x.Ok (2 ^ 31)) (hy : y.Ok (2 ^ 31)) : CallD Tryz.prog F.ref02_Add [x.v, y.v] (· = ratV (x.q + y.q)) := by
 have hx' : x.Ok (2 ^ 33) := ⟨hx.dn, hx.dd, Nat.le_trans hx.ln (by omega), Nat.le_trans hx.ld (by omega)⟩
 have hy' : y.Ok (2 ^ 33) := ⟨hy.dn, hy.dd, Nat.le_trans hy.ln (by omega), Nat.le_trans hy.ld (by omega)⟩
 refine callD_by F.ref02_Add_ok ?_
 unfold F.ref02_Add_c
 simp [Raw.v, setOb, List.filter_cons]
 refine callFK_of (ref02_valid hx') (by simp [Raw.v]) ?_
 simp [ratV, Raw.v, setOb, List.filter_cons]
 refine callFK_of (ref02_valid hy') (by simp [Raw.v]) ?_
 simp [ratV, Raw.v, setOb, List.filter_cons]
 have ox := rawOf_ok (Raw.fits hx (by omega))
 have oy := rawOf_ok (Raw.fits hy (by omega))
 have dx := canon_den x.q
 have dy := canon_den y.q
 have qx := rawOf_q x.q
 have qy := rawOf_q y.q
 rw [← qx, ← qy]
 rw [qx, qy]
 have s1 : (rawOf x.q).neg = (rawOf y.q).neg → (rawOf x.q).q + (rawOf y.q).q = _ := Raw.add_same dx dy
 have s2 : (rawOf x.q).neg ≠ (rawOf y.q).neg → (rawOf x.q).q + (rawOf y.q).q = _ := Raw.add_ge dx dy
 have s3 : (rawOf x.q).neg ≠ (rawOf y.q).neg → (rawOf x.q).q + (rawOf y.q).q = _ := Raw.add_lt dx dy
 rw [qx, qy] at s1 s2 s3
 generalize rawOf x.q = u at *
 generalize rawOf y.q = w at *
 have n1 := val_nonneg ox.dn
 have n2 := val_nonneg ox.dd
 have n3 := val_nonneg oy.dn
 have n4 := val_nonneg oy.dd
 have l1 := ox.ln
 have l2 := ox.ld
 have l3 := oy.ln
 have l4 := oy.ld
 have m1 := Int.mul_nonneg n1 n4
 have m2 := Int.mul_nonneg n3 n2
 have m3 := Int.mul_nonneg n2 n4
 have d1 := digs_mul_val ox.dn oy.dd
 have d2 := digs_mul_val oy.dn ox.dd
 have d3 := digs_mul_val ox.dd oy.dd
 refine callFK_of (ref01_Mul ox.dn oy.dd (by omega) (by omega)) (by simp) ?_
 simp
 refine callFK_of (ref01_Mul oy.dn ox.dd (by omega) (by omega)) (by simp) ?_
 simp
 refine callFK_of (ref01_Mul ox.dd oy.dd (by omega) (by omega)) (by simp) ?_
 have pD : 0 < val u.den * val w.den := Int.mul_pos dx dy
 generalize val u.num * val w.den = A at *
 generalize val w.num * val u.den = B at *
 generalize val u.den * val w.den = D at *
 have vA := val_digs m1
 have vB := val_digs m2
 have vD := val_digs m3
 have nD : ¬ D = 0 := by omega
 have lAB := digs_add_le (m := 2 ^ 32) m1 m2 (by omega) (by omega)
 have vAB := val_digs (show 0 ≤ A + B by omega)
 simp
 refine callFK_of (ref01_Add (digs_dig A) (digs_dig B) (by omega) (by omega)) (by simp) ?_
 rw [vA, vB]
 by_cases hs : u.neg = w.neg
 ·have e1 := s1 hs
  simp [hs]
  refine callK_of (ref02_Of (neg := w.neg) (digs_dig (A + B)) (digs_dig D) (by omega) (by omega)) (by simp) ?_
  rw [vAB, vD, ← hs, ← e1]
  simp [ratV, Raw.v, setOb, List.filter_cons, nD]
 ·have hs' : (u.neg == w.neg) = false := by cases h1 : u.neg <;> cases h2 : w.neg <;> simp [h1, h2] at hs ⊢
  simp [hs', hs]
  refine callK_of (ref01_Compare (digs_dig A) (digs_dig B) (by omega) (by omega)) (by simp) ?_
  rw [vA, vB]
  by_cases hlt : A < B
  ·have e3 := s3 hs
   have lBA := digs_length_mono (m := B - A) (n := B) m2 (by omega)
   have vBA := val_digs (show 0 ≤ B - A by omega)
   simp [hlt, setOb, List.filter_cons]
   refine callK_of (ref01_Sub (digs_dig B) (digs_dig A) (by omega) (by omega)) (by simp) ?_
   rw [vA, vB]
   have hn : ¬ B < A := by omega
   simp [subV, hn, setOb, List.filter_cons]
   refine callK_of (ref02_Of (neg := w.neg) (digs_dig (B - A)) (digs_dig D) (by omega) (by omega)) (by simp) ?_
   rw [vBA, vD, ← e3]
   simp [ratV, Raw.v, setOb, List.filter_cons, nD]
  ·have e3 := s2 hs
   have lBA := digs_length_mono (m := A - B) (n := A) m1 (by omega)
   have vBA := val_digs (show 0 ≤ A - B by omega)
   have hc : (if A < B then -1 else if B < A then 1 else 0 : Int) ≥ 0 := by rw [if_neg hlt]; split <;> omega
   generalize (if A < B then -1 else if B < A then 1 else 0 : Int) = c at hc
   simp [hc, setOb, List.filter_cons]
   refine callK_of (ref01_Sub (digs_dig A) (digs_dig B) (by omega) (by omega)) (by simp) ?_
   rw [vA, vB]
   simp [subV, hlt, setOb, List.filter_cons]
   refine callK_of (ref02_Of (neg := u.neg) (digs_dig (A - B)) (digs_dig D) (by omega) (by omega)) (by simp) ?_
   rw [vBA, vD, ← e3]
   simp [ratV, Raw.v, setOb, List.filter_cons, nD]
theorem ref02_Sub {x y : Raw} (hx : x.Ok (2 ^ 31)) (hy : y.Ok (2 ^ 31)) : CallD Tryz.prog F.ref02_Sub [x.v, y.v] (· = ratV (x.q - y.q)) := by
 refine callD_by F.ref02_Sub_ok ?_
 unfold F.ref02_Sub_c
 simp [Raw.v, setOb, List.filter_cons]
 refine callFK_of (ref02_Neg ⟨hy.dn, hy.dd, Nat.le_trans hy.ln (by omega), Nat.le_trans hy.ld (by omega)⟩) (by simp [Raw.v]) ?_
 simp [ratV, frz_nil, Raw.v]
 refine callFK_of (ref02_Add hx (rawOf_ok (fits_neg (Raw.fits hy (by omega))))) (by simp [Raw.v]) ?_
 rw [rawOf_q, Rat.sub_eq_add_neg]
 simp [ratV, Raw.v, setOb, List.filter_cons, frz_nil]
theorem sgnR_sub (a b : Rat) : sgnR (a - b) = cmpR a b := by
 unfold sgnR cmpR
 by_cases h : a < b
 ·rw [if_pos h, if_pos (by grind)]
 ·rw [if_neg h, if_neg (by grind)]
  by_cases h2 : b < a
  ·rw [if_pos h2, if_pos (by grind)]
  ·rw [if_neg h2, if_neg (by grind)]
theorem Raw.sub_fits {x y : Raw} (hx : x.Ok (2 ^ 31)) (hy : y.Ok (2 ^ 31)) : Fits (x.q - y.q) (2 ^ 33) := by
 exact (fits_sub (Raw.fits hx (by omega)) (Raw.fits hy (by omega))).mono (by omega)
theorem ref02_Compare {x y : Raw} (hx : x.Ok (2 ^ 31)) (hy : y.Ok (2 ^ 31)) : CallD Tryz.prog F.ref02_Compare [x.v, y.v] (· = .int .i64 (cmpR x.q y.q)) := by
 refine callD_by F.ref02_Compare_ok ?_
 unfold F.ref02_Compare_c
 simp [Raw.v, setOb, List.filter_cons]
 refine callK_of (ref02_Sub hx hy) (by simp [Raw.v]) ?_
 simp [ratV, Raw.v]
 refine callK_of (ref02_Sign (rawOf_ok (Raw.sub_fits hx hy))) (by simp [Raw.v]) ?_
 rw [rawOf_q, sgnR_sub]
 simp
theorem ref02_Same {x y : Raw} (hx : x.Ok (2 ^ 31)) (hy : y.Ok (2 ^ 31)) : CallD Tryz.prog F.ref02_Same [x.v, y.v] (· = .bool (decide (x.q = y.q))) := by
 refine callD_by F.ref02_Same_ok ?_
 unfold F.ref02_Same_c
 simp [Raw.v, setOb, List.filter_cons]
 refine callK_of (ref02_Compare hx hy) (by simp [Raw.v]) ?_
 simp [cmpR_eq]
theorem ref02_Least {x y : Raw} (hx : x.Ok (2 ^ 31)) (hy : y.Ok (2 ^ 31)) : CallD Tryz.prog F.ref02_Least [x.v, y.v] (· = ratV (if y.q < x.q then y.q else x.q)) := by
 have hx' : x.Ok (2 ^ 33) := ⟨hx.dn, hx.dd, Nat.le_trans hx.ln (by omega), Nat.le_trans hx.ld (by omega)⟩
 have hy' : y.Ok (2 ^ 33) := ⟨hy.dn, hy.dd, Nat.le_trans hy.ln (by omega), Nat.le_trans hy.ld (by omega)⟩
 refine callD_by F.ref02_Least_ok ?_
 unfold F.ref02_Least_c
 simp [Raw.v, setOb, List.filter_cons]
 refine callK_of (ref02_Compare hy hx) (by simp [Raw.v]) ?_
 by_cases h : y.q < x.q
 ·simp [cmpR_lt, h, setOb, List.filter_cons]
  refine callK_of (ref02_valid hy') (by simp [Raw.v]) ?_
  simp [ratV, Raw.v, setOb, List.filter_cons, frz_nil]
 ·simp [cmpR_lt, h, setOb, List.filter_cons]
  refine callK_of (ref02_valid hx') (by simp [Raw.v]) ?_
  simp [ratV, Raw.v, setOb, List.filter_cons, frz_nil]
theorem ref02_Mul {x y : Raw} (hx : x.Ok (2 ^ 31)) (hy : y.Ok (2 ^ 31)) : CallD Tryz.prog F.ref02_Mul [x.v, y.v] (· = ratV (x.q * y.q)) := by
 have hx' : x.Ok (2 ^ 33) := ⟨hx.dn, hx.dd, Nat.le_trans hx.ln (by omega), Nat.le_trans hx.ld (by omega)⟩
 have hy' : y.Ok (2 ^ 33) := ⟨hy.dn, hy.dd, Nat.le_trans hy.ln (by omega), Nat.le_trans hy.ld (by omega)⟩
 have ox := rawOf_ok (Raw.fits hx (by omega))
 have oy := rawOf_ok (Raw.fits hy (by omega))
 have dx := canon_den x.q
 have dy := canon_den y.q
 have e := Raw.mul_q ox oy
 rw [rawOf_q, rawOf_q] at e
 refine callD_by F.ref02_Mul_ok ?_
 unfold F.ref02_Mul_c
 simp [Raw.v, setOb, List.filter_cons]
 refine callFK_of (ref02_valid hx') (by simp [Raw.v]) ?_
 simp [ratV, Raw.v, setOb, List.filter_cons]
 refine callFK_of (ref02_valid hy') (by simp [Raw.v]) ?_
 simp [ratV, Raw.v, setOb, List.filter_cons]
 generalize rawOf x.q = u at *
 generalize rawOf y.q = w at *
 have n1 := val_nonneg ox.dn
 have n2 := val_nonneg ox.dd
 have n3 := val_nonneg oy.dn
 have n4 := val_nonneg oy.dd
 have l1 := ox.ln
 have l2 := ox.ld
 have l3 := oy.ln
 have l4 := oy.ld
 have m1 := Int.mul_nonneg n1 n3
 have m3 := Int.mul_nonneg n2 n4
 have d1 := digs_mul_val ox.dn oy.dn
 have d3 := digs_mul_val ox.dd oy.dd
 refine callFK_of (ref01_Mul ox.dn oy.dn (by omega) (by omega)) (by simp) ?_
 simp
 refine callFK_of (ref01_Mul ox.dd oy.dd (by omega) (by omega)) (by simp) ?_
 have pD : 0 < val u.den * val w.den := Int.mul_pos dx dy
 generalize val u.num * val w.num = A at *
 generalize val u.den * val w.den = D at *
 have vA := val_digs m1
 have vD := val_digs m3
 have nD : ¬ D = 0 := by omega
 simp
 refine callFK_of (ref02_Of (neg := !(u.neg == w.neg)) (digs_dig A) (digs_dig D) (by omega) (by omega)) (by simp) ?_
 rw [vA, vD, show (!(u.neg == w.neg)) = (u.neg != w.neg) from rfl, ← e]
 simp [ratV, Raw.v, setOb, List.filter_cons, nD]
theorem ref02_size {n : Int} (h0 : -9223372036854775808 ≤ n) (h1 : n < 9223372036854775808) : CallD Tryz.prog F.ref02_size [.int .i64 n] (· = .tup [nat (digs (n.natAbs : Int)), .bool (decide (n < 0))]) := by
 refine callD_by F.ref02_size_ok ?_
 unfold F.ref02_size_c
 by_cases h : n < 0
 ·simp [h]
  repeat simp (disch := omega) [wrap64, wrapU64]
  refine callK_of (ref01_Of (n := (n.natAbs : Int)) (by omega) (by omega)) (by simp; omega) ?_
  simp
 ·simp [h]
  repeat simp (disch := omega) [wrap64, wrapU64]
  refine callK_of (ref01_Of (n := n) (by omega) (by omega)) (by simp) ?_
  have : ((n.natAbs : Nat) : Int) = n := by omega
  simp [this]
end Go.Proofs.YtkockkfmjmheeaaGreat
