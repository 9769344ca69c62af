import Derived.Test.YtkockkfmjmheeaaGreatGD
import Derived.Test.YtkockkfmjmheeaaGreatGC
import Derived.Test.YtkockkfmjmheeaaGreatProg
import Derived.KernelRfl
import Derived.Test.YtkockkfmjmheeaaGreatGE
namespace Go.Proofs.YtkockkfmjmheeaaGreat.F
open Go Go.Proofs Go.Proofs.YtkockkfmjmheeaaGreat.E Go.Proofs.YtkockkfmjmheeaaGreat.Q
abbrev nat_trim : Nat := 89
def nat_trim_c : MFn := ⟨21,(.seq (r [o 2 (.mv (.c .nils))] [0]) (.seq (r [o 4 (.mv (.t 0)),o 5 (.lenS (.t 4)),o 3 (.mv (.t 5))] [0,3]) (.seq (.block 0 (.loop (.seq (.seq (r [o 6 (.mv (.t 3)),o 7 (.bin .gtr (.t 6) (i 0)),o 8 (.mv (.t 7)),y 9 8 (.mv (.t 0)),y 10 8 (.mv (.t 3)),y 11 8 (.bin .sub (.t 10) (i 1)),y 12 8 (.ixA 1 (.t 9) (.t 11)),y 13 8 (.ld none (.t 12)),y 14 8 (.bin .eql (.t 13) (.c (.int .u32 0))),o 15 (.pick (.t 8) (.t 14) (.c (.bool false)))] [0,3,15]) (.cond (.t 15) .skip (.exit 0))) (.block 1 (r [o 16 (.mv (.t 3)),o 17 (.bin .sub (.t 16) (i 1)),o 3 (.mv (.t 17))] [0,3]))))) (.seq (r [o 18 (.mv (.t 0)),o 19 (.mv (.t 3)),o 20 (.slc 1 (.t 18) none (some (.t 19)) none),o 2 (.mv (.t 20))] [2]) .ret)))),[.t 2]⟩
theorem nat_trim_ok : cFn Tryz.prog (kps [[0],[0,3],[0,3,15],[0,3],[2]]) [] 89 = some nat_trim_c := by kernel_rfl
abbrev nat_Add : Nat := 59
def nat_Add_c : MFn := ⟨60,(.seq (r [o 4 (.mv (.c .nils))] [0,1]) (.seq (r [o 9 (.mv (.t 0)),o 10 (.call 89 [(.t 9)]),o 11 (.mv (.t 1)),o 12 (.call 89 [(.t 11)]),o 0 (.mv (.t 10)),o 1 (.mv (.t 12))] [0,1]) (.seq (.seq (r [o 13 (.mv (.t 0)),o 14 (.lenS (.t 13)),o 15 (.mv (.t 1)),o 16 (.lenS (.t 15)),o 17 (.bin .lss (.t 14) (.t 16))] [0,1,17]) (.cond (.t 17) (r [o 18 (.mv (.t 1)),o 19 (.mv (.t 0)),o 0 (.mv (.t 18)),o 1 (.mv (.t 19))] [0,1]) .skip)) (.seq (r [o 20 (.mv (.t 0)),o 21 (.lenS (.t 20)),o 22 (.bin .add (.t 21) (i 1)),o 23 (.mkSl 1 4 [.int .u32 0] (i 0) (.t 22)),o 5 (.mv (.t 23))] [0,1,5]) (.seq (r [o 6 (.mv (.c (.int .u64 0)))] [0,1,5,6]) (.seq (.seq (r [o 24 (.mv (.t 0)),o 25 (.lenS (.t 24)),o 26 (.mv (i 0))] [1,5,6,24,25,26]) (.block 0 (.loop (.seq (r [o 27 (.bin .lss (.t 26) (.t 25))] [1,5,6,24,25,26,27]) (.seq (.cond (.t 27) .skip (.exit 0)) (.seq (.block 1 (.seq (r [o 28 (.mv (.t 26)),o 29 (.ixA 1 (.t 24) (.t 26)),o 30 (.ld none (.t 29)),o 7 (.mv (.t 28)),o 8 (.mv (.t 30))] [1,5,6,7,8,24,25,26]) (.seq (r [o 31 (.mv (.t 6)),o 32 (.mv (.t 8)),o 33 (.cvt .u64 (.t 32)),o 34 (.bin .add (.t 31) (.t 33)),o 6 (.mv (.t 34))] [1,5,6,7,24,25,26]) (.seq (.seq (r [o 35 (.mv (.t 7)),o 36 (.mv (.t 1)),o 37 (.lenS (.t 36)),o 38 (.bin .lss (.t 35) (.t 37))] [1,5,6,7,24,25,26,38]) (.cond (.t 38) (r [o 39 (.mv (.t 6)),o 40 (.mv (.t 1)),o 41 (.mv (.t 7)),o 42 (.ixA 1 (.t 40) (.t 41)),o 43 (.ld none (.t 42)),o 44 (.cvt .u64 (.t 43)),o 45 (.bin .add (.t 39) (.t 44)),o 6 (.mv (.t 45))] [1,5,6,24,25,26]) .skip)) (.seq (r [o 46 (.mv (.t 5)),o 47 (.mv (.t 6)),o 48 (.cvt .u32 (.t 47)),o 49 (.buildSl 1 1 [.int .u32 0] [(0,(.t 48))]),o 50 (.app 1 4 (.t 46) (.t 49)),o 5 (.mv (.t 50))] [1,5,6,24,25,26]) (r [o 51 (.mv (.t 6)),o 52 (.bin .shr (.t 51) (.c (.int .u64 32))),o 6 (.mv (.t 52))] [1,5,6,24,25,26])))))) (r [o 53 (.bin .add (.t 26) (i 1)),o 26 (.mv (.t 53))] [1,5,6,24,25,26]))))))) (.seq (r [o 54 (.mv (.t 5)),o 55 (.mv (.t 6)),o 56 (.cvt .u32 (.t 55)),o 57 (.buildSl 1 1 [.int .u32 0] [(0,(.t 56))]),o 58 (.app 1 4 (.t 54) (.t 57)),o 59 (.call 89 [(.t 58)]),o 4 (.mv (.t 59))] [4]) .ret))))))),[.t 4]⟩
theorem nat_Add_ok : cFn Tryz.prog (kps [[0,1],[0,1],[0,1,17],[0,1],[0,1,5],[0,1,5,6],[1,5,6,24,25,26],[1,5,6,24,25,26,27],[1,5,6,7,8,24,25,26],[1,5,6,7,24,25,26],[1,5,6,7,24,25,26,38],[1,5,6,24,25,26],[1,5,6,24,25,26],[1,5,6,24,25,26],[1,5,6,24,25,26],[4]]) [] 59 = some nat_Add_c := by kernel_rfl
abbrev slices_Clone_Nat_uint32 : Nat := 88
def slices_Clone_Nat_uint32_c : MFn := ⟨8,(.seq (r [o 2 (.mv (.c .nils))] [0]) (.seq (.seq (r [o 3 (.mv (.t 0)),o 4 (.binS .eql (.t 3) (.c .nils))] [0,4]) (.cond (.t 4) (.seq (r [o 2 (.mv (.c .nils))] [2]) .ret) .skip)) (.seq (r [o 5 (.buildSl 1 0 [.int .u32 0] []),o 6 (.mv (.t 0)),o 7 (.app 1 4 (.t 5) (.t 6)),o 2 (.mv (.t 7))] [2]) .ret))),[.t 2]⟩
theorem slices_Clone_Nat_uint32_ok : cFn Tryz.prog (kps [[0],[0,4],[2],[2]]) [] 88 = some slices_Clone_Nat_uint32_c := by kernel_rfl
abbrev nat_Of : Nat := 54
def nat_Of_c : MFn := ⟨11,(.seq (r [o 2 (.mv (.c .nils))] [0]) (.seq (r [o 3 (.mv (.t 0)),o 4 (.cvt .u32 (.t 3)),o 5 (.mv (.t 0)),o 6 (.bin .shr (.t 5) (.c (.int .u64 32))),o 7 (.cvt .u32 (.t 6)),o 8 (.buildSl 1 2 [.int .u32 0] [(0,(.t 4)),(1,(.t 7))]),o 9 (.call 89 [(.t 8)]),o 10 (.call 88 [(.t 9)]),o 2 (.mv (.t 10))] [2]) .ret)),[.t 2]⟩
theorem nat_Of_ok : cFn Tryz.prog (kps [[0],[2]]) [] 54 = some nat_Of_c := by kernel_rfl
abbrev nat_Compare : Nat := 60
def nat_Compare_c : MFn := ⟨49,(.seq (r [o 4 (.mv (i 0))] [0,1]) (.seq (r [o 6 (.mv (.t 0)),o 7 (.call 89 [(.t 6)]),o 8 (.mv (.t 1)),o 9 (.call 89 [(.t 8)]),o 0 (.mv (.t 7)),o 1 (.mv (.t 9))] [0,1]) (.seq (.block 0 (.seq (r [o 11 (.mv (.t 0)),o 12 (.lenS (.t 11)),o 13 (.mv (.t 1)),o 14 (.lenS (.t 13)),o 15 (.bin .lss (.t 12) (.t 14)),o 10 (.mv (.t 15))] [0,1,10]) (.cond (.t 10) (.seq (r [o 4 (.mv (i (-1)))] [4]) .ret) (.seq (r [o 17 (.mv (.t 0)),o 18 (.lenS (.t 17)),o 19 (.mv (.t 1)),o 20 (.lenS (.t 19)),o 21 (.bin .gtr (.t 18) (.t 20)),o 16 (.mv (.t 21))] [0,1,16]) (.cond (.t 16) (.seq (r [o 4 (.mv (i 1))] [4]) .ret) .skip))))) (.seq (.seq (r [o 22 (.mv (.t 0)),o 23 (.lenS (.t 22)),o 24 (.bin .sub (.t 23) (i 1)),o 5 (.mv (.t 24))] [0,1,5]) (.block 1 (.loop (.seq (.seq (r [o 25 (.mv (.t 5)),o 26 (.bin .geq (.t 25) (i 0))] [0,1,5,26]) (.cond (.t 26) .skip (.exit 1))) (.seq (.block 2 (.block 3 (.seq (r [o 30 (.mv (.t 0)),o 31 (.mv (.t 5)),o 32 (.ixA 1 (.t 30) (.t 31)),o 33 (.ld none (.t 32)),o 34 (.mv (.t 1)),o 35 (.mv (.t 5)),o 36 (.ixA 1 (.t 34) (.t 35)),o 37 (.ld none (.t 36)),o 38 (.bin .lss (.t 33) (.t 37)),o 29 (.mv (.t 38))] [0,1,5,29]) (.cond (.t 29) (.seq (r [o 4 (.mv (i (-1)))] [4]) .ret) (.seq (r [o 40 (.mv (.t 0)),o 41 (.mv (.t 5)),o 42 (.ixA 1 (.t 40) (.t 41)),o 43 (.ld none (.t 42)),o 44 (.mv (.t 1)),o 45 (.mv (.t 5)),o 46 (.ixA 1 (.t 44) (.t 45)),o 47 (.ld none (.t 46)),o 48 (.bin .gtr (.t 43) (.t 47)),o 39 (.mv (.t 48))] [0,1,5,39]) (.cond (.t 39) (.seq (r [o 4 (.mv (i 1))] [4]) .ret) .skip)))))) (r [o 27 (.mv (.t 5)),o 28 (.bin .sub (.t 27) (i 1)),o 5 (.mv (.t 28))] [0,1,5])))))) (.seq (r [o 4 (.mv (i 0))] [4]) .ret))))),[.t 4]⟩
theorem nat_Compare_ok : cFn Tryz.prog (kps [[0,1],[0,1],[0,1,10],[4],[0,1,16],[4],[0,1,5],[0,1,5,26],[0,1,5],[0,1,5,29],[4],[0,1,5,39],[4],[4]]) [] 60 = some nat_Compare_c := by kernel_rfl
abbrev nat_Sub : Nat := 61
def nat_Sub_c : MFn := ⟨59,(.seq (r [o 4 (.mv (.c .nils)),o 5 (.mv (i 0))] [0,1]) (.seq (.seq (r [o 11 (.mv (.t 0)),o 12 (.mv (.t 1)),o 13 (.call 60 [(.t 11),(.t 12)]),o 14 (.bin .lss (.t 13) (i 0))] [0,1,14]) (.cond (.t 14) (.seq (r [o 4 (.mv (.c .nils)),o 5 (.mv (i 1))] [4,5]) .ret) .skip)) (.seq (r [o 15 (.mv (.t 0)),o 16 (.call 89 [(.t 15)]),o 17 (.mv (.t 1)),o 18 (.call 89 [(.t 17)]),o 0 (.mv (.t 16)),o 1 (.mv (.t 18))] [0,1]) (.seq (r [o 19 (.mv (.t 0)),o 20 (.lenS (.t 19)),o 21 (.mkSl 1 4 [.int .u32 0] (.t 20) (.t 20)),o 6 (.mv (.t 21))] [0,1,6]) (.seq (r [o 7 (.mv (.c (.int .u64 0)))] [0,1,6,7]) (.seq (.seq (r [o 22 (.mv (.t 0)),o 23 (.lenS (.t 22)),o 24 (.mv (i 0))] [1,6,7,22,23,24]) (.block 0 (.loop (.seq (r [o 25 (.bin .lss (.t 24) (.t 23))] [1,6,7,22,23,24,25]) (.seq (.cond (.t 25) .skip (.exit 0)) (.seq (.block 1 (.seq (r [o 26 (.mv (.t 24)),o 27 (.ixA 1 (.t 22) (.t 24)),o 28 (.ld none (.t 27)),o 8 (.mv (.t 26)),o 9 (.mv (.t 28))] [1,6,7,8,9,22,23,24]) (.seq (r [o 29 (.mv (.t 7)),o 10 (.mv (.t 29))] [1,6,8,9,10,22,23,24]) (.seq (.seq (r [o 30 (.mv (.t 8)),o 31 (.mv (.t 1)),o 32 (.lenS (.t 31)),o 33 (.bin .lss (.t 30) (.t 32))] [1,6,8,9,10,22,23,24,33]) (.cond (.t 33) (r [o 34 (.mv (.t 10)),o 35 (.mv (.t 1)),o 36 (.mv (.t 8)),o 37 (.ixA 1 (.t 35) (.t 36)),o 38 (.ld none (.t 37)),o 39 (.cvt .u64 (.t 38)),o 40 (.bin .add (.t 34) (.t 39)),o 10 (.mv (.t 40))] [1,6,8,9,10,22,23,24]) .skip)) (.seq (r [o 7 (.mv (.c (.int .u64 0)))] [1,6,7,8,9,10,22,23,24]) (.seq (.seq (r [o 41 (.mv (.t 9)),o 42 (.cvt .u64 (.t 41)),o 43 (.mv (.t 10)),o 44 (.bin .lss (.t 42) (.t 43))] [1,6,7,8,9,10,22,23,24,44]) (.cond (.t 44) (r [o 7 (.mv (.c (.int .u64 1)))] [1,6,7,8,9,10,22,23,24]) .skip)) (r [o 45 (.mv (.t 6)),o 46 (.mv (.t 8)),o 47 (.mv (.t 9)),o 48 (.cvt .u64 (.t 47)),o 49 (.mv (.t 7)),o 50 (.bin .shl (.t 49) (.c (.int .u64 32))),o 51 (.bin .add (.t 48) (.t 50)),o 52 (.mv (.t 10)),o 53 (.bin .sub (.t 51) (.t 52)),o 54 (.cvt .u32 (.t 53)),o 55 (.ixA 1 (.t 45) (.t 46)),z (.st 1 (.t 55) (.t 54))] [1,6,7,22,23,24]))))))) (r [o 56 (.bin .add (.t 24) (i 1)),o 24 (.mv (.t 56))] [1,6,7,22,23,24]))))))) (.seq (r [o 57 (.mv (.t 6)),o 58 (.call 89 [(.t 57)]),o 4 (.mv (.t 58)),o 5 (.mv (i 0))] [4,5]) .ret))))))),[.t 4,.t 5]⟩
theorem nat_Sub_ok : cFn Tryz.prog (kps [[0,1],[0,1,14],[4,5],[0,1],[0,1,6],[0,1,6,7],[1,6,7,22,23,24],[1,6,7,22,23,24,25],[1,6,7,8,9,22,23,24],[1,6,8,9,10,22,23,24],[1,6,8,9,10,22,23,24,33],[1,6,8,9,10,22,23,24],[1,6,7,8,9,10,22,23,24],[1,6,7,8,9,10,22,23,24,44],[1,6,7,8,9,10,22,23,24],[1,6,7,22,23,24],[1,6,7,22,23,24],[4,5]]) [] 61 = some nat_Sub_c := by kernel_rfl
abbrev nat_Mul : Nat := 58
def nat_Mul_c : MFn := ⟨71,(.seq (r [o 4 (.mv (.c .nils))] [0,1]) (.seq (r [o 11 (.mv (.t 0)),o 12 (.call 89 [(.t 11)]),o 13 (.mv (.t 1)),o 14 (.call 89 [(.t 13)]),o 0 (.mv (.t 12)),o 1 (.mv (.t 14))] [0,1]) (.seq (r [o 15 (.mv (.t 0)),o 16 (.lenS (.t 15)),o 17 (.mv (.t 1)),o 18 (.lenS (.t 17)),o 19 (.bin .add (.t 16) (.t 18)),o 20 (.mkSl 1 4 [.int .u32 0] (.t 19) (.t 19)),o 5 (.mv (.t 20))] [0,1,5]) (.seq (.seq (r [o 21 (.mv (.t 0)),o 22 (.lenS (.t 21)),o 23 (.mv (i 0))] [1,5,21,22,23]) (.block 0 (.loop (.seq (r [o 24 (.bin .lss (.t 23) (.t 22))] [1,5,21,22,23,24]) (.seq (.cond (.t 24) .skip (.exit 0)) (.seq (.block 1 (.seq (r [o 25 (.mv (.t 23)),o 26 (.ixA 1 (.t 21) (.t 23)),o 27 (.ld none (.t 26)),o 6 (.mv (.t 25)),o 7 (.mv (.t 27))] [1,5,6,7,21,22,23]) (.seq (r [o 8 (.mv (.c (.int .u64 0)))] [1,5,6,7,8,21,22,23]) (.seq (.seq (r [o 28 (.mv (.t 1)),o 29 (.lenS (.t 28)),o 30 (.mv (i 0))] [1,5,6,7,8,21,22,23,28,29,30]) (.block 2 (.loop (.seq (r [o 31 (.bin .lss (.t 30) (.t 29))] [1,5,6,7,8,21,22,23,28,29,30,31]) (.seq (.cond (.t 31) .skip (.exit 2)) (.seq (.block 3 (.seq (r [o 32 (.mv (.t 30)),o 33 (.ixA 1 (.t 28) (.t 30)),o 34 (.ld none (.t 33)),o 9 (.mv (.t 32)),o 10 (.mv (.t 34))] [1,5,6,7,8,9,10,21,22,23,28,29,30]) (.seq (r [o 35 (.mv (.t 8)),o 36 (.mv (.t 5)),o 37 (.mv (.t 6)),o 38 (.mv (.t 9)),o 39 (.bin .add (.t 37) (.t 38)),o 40 (.ixA 1 (.t 36) (.t 39)),o 41 (.ld none (.t 40)),o 42 (.cvt .u64 (.t 41)),o 43 (.mv (.t 7)),o 44 (.cvt .u64 (.t 43)),o 45 (.mv (.t 10)),o 46 (.cvt .u64 (.t 45)),o 47 (.bin .mul (.t 44) (.t 46)),o 48 (.bin .add (.t 42) (.t 47)),o 49 (.bin .add (.t 35) (.t 48)),o 8 (.mv (.t 49))] [1,5,6,7,8,9,21,22,23,28,29,30]) (.seq (r [o 50 (.mv (.t 5)),o 51 (.mv (.t 6)),o 52 (.mv (.t 9)),o 53 (.bin .add (.t 51) (.t 52)),o 54 (.mv (.t 8)),o 55 (.cvt .u32 (.t 54)),o 56 (.ixA 1 (.t 50) (.t 53)),z (.st 1 (.t 56) (.t 55))] [1,5,6,7,8,21,22,23,28,29,30]) (r [o 57 (.mv (.t 8)),o 58 (.bin .shr (.t 57) (.c (.int .u64 32))),o 8 (.mv (.t 58))] [1,5,6,7,8,21,22,23,28,29,30]))))) (r [o 59 (.bin .add (.t 30) (i 1)),o 30 (.mv (.t 59))] [1,5,6,7,8,21,22,23,28,29,30]))))))) (r [o 60 (.mv (.t 5)),o 61 (.mv (.t 6)),o 62 (.mv (.t 1)),o 63 (.lenS (.t 62)),o 64 (.bin .add (.t 61) (.t 63)),o 65 (.mv (.t 8)),o 66 (.cvt .u32 (.t 65)),o 67 (.ixA 1 (.t 60) (.t 64)),z (.st 1 (.t 67) (.t 66))] [1,5,21,22,23]))))) (r [o 68 (.bin .add (.t 23) (i 1)),o 23 (.mv (.t 68))] [1,5,21,22,23]))))))) (.seq (r [o 69 (.mv (.t 5)),o 70 (.call 89 [(.t 69)]),o 4 (.mv (.t 70))] [4]) .ret))))),[.t 4]⟩
theorem nat_Mul_ok : cFn Tryz.prog (kps [[0,1],[0,1],[0,1,5],[1,5,21,22,23],[1,5,21,22,23,24],[1,5,6,7,21,22,23],[1,5,6,7,8,21,22,23],[1,5,6,7,8,21,22,23,28,29,30],[1,5,6,7,8,21,22,23,28,29,30,31],[1,5,6,7,8,9,10,21,22,23,28,29,30],[1,5,6,7,8,9,21,22,23,28,29,30],[1,5,6,7,8,21,22,23,28,29,30],[1,5,6,7,8,21,22,23,28,29,30],[1,5,6,7,8,21,22,23,28,29,30],[1,5,21,22,23],[1,5,21,22,23],[4]]) [] 58 = some nat_Mul_c := by kernel_rfl
abbrev nat_short : Nat := 126
def nat_short_c : MFn := ⟨43,(.seq (r [o 4 (.mv (.c .nils)),o 5 (.mv (.c (.int .u32 0)))] [0,1]) (.seq (r [o 9 (.mv (.t 0)),o 10 (.lenS (.t 9)),o 11 (.mkSl 1 4 [.int .u32 0] (.t 10) (.t 10)),o 6 (.mv (.t 11))] [0,1,6]) (.seq (r [o 7 (.mv (.c (.int .u64 0)))] [0,1,6,7]) (.seq (.seq (r [o 12 (.mv (.t 0)),o 13 (.lenS (.t 12)),o 14 (.bin .sub (.t 13) (i 1)),o 8 (.mv (.t 14))] [0,1,6,7,8]) (.block 0 (.loop (.seq (.seq (r [o 15 (.mv (.t 8)),o 16 (.bin .geq (.t 15) (i 0))] [0,1,6,7,8,16]) (.cond (.t 16) .skip (.exit 0))) (.seq (.block 1 (.seq (r [o 19 (.mv (.t 7)),o 20 (.bin .shl (.t 19) (.c (.int .u64 32))),o 21 (.mv (.t 0)),o 22 (.mv (.t 8)),o 23 (.ixA 1 (.t 21) (.t 22)),o 24 (.ld none (.t 23)),o 25 (.cvt .u64 (.t 24)),o 26 (.bin .or (.t 20) (.t 25)),o 7 (.mv (.t 26))] [0,1,6,7,8]) (.seq (r [o 27 (.mv (.t 6)),o 28 (.mv (.t 8)),o 29 (.mv (.t 7)),o 30 (.mv (.t 1)),o 31 (.cvt .u64 (.t 30)),o 32 (.bin .quo (.t 29) (.t 31)),o 33 (.cvt .u32 (.t 32)),o 34 (.ixA 1 (.t 27) (.t 28)),z (.st 1 (.t 34) (.t 33))] [0,1,6,7,8]) (r [o 35 (.mv (.t 7)),o 36 (.mv (.t 1)),o 37 (.cvt .u64 (.t 36)),o 38 (.bin .rem (.t 35) (.t 37)),o 7 (.mv (.t 38))] [0,1,6,7,8])))) (r [o 17 (.mv (.t 8)),o 18 (.bin .sub (.t 17) (i 1)),o 8 (.mv (.t 18))] [0,1,6,7,8])))))) (.seq (r [o 39 (.mv (.t 6)),o 40 (.call 89 [(.t 39)]),o 41 (.mv (.t 7)),o 42 (.cvt .u32 (.t 41)),o 4 (.mv (.t 40)),o 5 (.mv (.t 42))] [4,5]) .ret))))),[.t 4,.t 5]⟩
theorem nat_short_ok : cFn Tryz.prog (kps [[0,1],[0,1,6],[0,1,6,7],[0,1,6,7,8],[0,1,6,7,8,16],[0,1,6,7,8],[0,1,6,7,8],[0,1,6,7,8],[0,1,6,7,8],[4,5]]) [] 126 = some nat_short_c := by kernel_rfl
abbrev nat_shifted : Nat := 128
def nat_shifted_c : MFn := ⟨40,(.seq (r [o 4 (.mv (.c .nils))] [0,1]) (.seq (r [o 8 (.mv (.t 0)),o 9 (.lenS (.t 8)),o 10 (.bin .add (.t 9) (i 1)),o 11 (.mkSl 1 4 [.int .u32 0] (.t 10) (.t 10)),o 5 (.mv (.t 11))] [0,1,5]) (.seq (.seq (r [o 12 (.mv (.t 0)),o 13 (.lenS (.t 12)),o 14 (.mv (i 0))] [1,5,12,13,14]) (.block 0 (.loop (.seq (r [o 15 (.bin .lss (.t 14) (.t 13))] [1,5,12,13,14,15]) (.seq (.cond (.t 15) .skip (.exit 0)) (.seq (.block 1 (.seq (r [o 16 (.mv (.t 14)),o 17 (.ixA 1 (.t 12) (.t 14)),o 18 (.ld none (.t 17)),o 6 (.mv (.t 16)),o 7 (.mv (.t 18))] [1,5,6,7,12,13,14]) (.seq (r [o 19 (.mv (.t 5)),o 20 (.mv (.t 6)),o 21 (.ixA 1 (.t 19) (.t 20)),o 22 (.ld none (.t 21)),o 23 (.mv (.t 7)),o 24 (.mv (.t 1)),o 25 (.bin .shl (.t 23) (.t 24)),o 26 (.bin .or (.t 22) (.t 25)),o 27 (.ixA 1 (.t 19) (.t 20)),z (.st 1 (.t 27) (.t 26))] [1,5,6,7,12,13,14]) (r [o 28 (.mv (.t 5)),o 29 (.mv (.t 6)),o 30 (.bin .add (.t 29) (i 1)),o 31 (.mv (.t 7)),o 32 (.cvt .u64 (.t 31)),o 33 (.mv (.t 1)),o 34 (.bin .shl (.t 32) (.t 33)),o 35 (.bin .shr (.t 34) (.c (.int .u64 32))),o 36 (.cvt .u32 (.t 35)),o 37 (.ixA 1 (.t 28) (.t 30)),z (.st 1 (.t 37) (.t 36))] [1,5,12,13,14])))) (r [o 38 (.bin .add (.t 14) (i 1)),o 14 (.mv (.t 38))] [1,5,12,13,14]))))))) (.seq (r [o 39 (.mv (.t 5)),o 4 (.mv (.t 39))] [4]) .ret)))),[.t 4]⟩
theorem nat_shifted_ok : cFn Tryz.prog (kps [[0,1],[0,1,5],[1,5,12,13,14],[1,5,12,13,14,15],[1,5,6,7,12,13,14],[1,5,6,7,12,13,14],[1,5,12,13,14],[1,5,12,13,14],[4]]) [] 128 = some nat_shifted_c := by kernel_rfl
abbrev math_bits_Len32 : Nat := 146
def math_bits_Len32_c : MFn := ⟨19,(.seq (r [o 2 (.mv (i 0))] [0,2]) (.seq (.seq (r [o 3 (.mv (.t 0)),o 4 (.bin .geq (.t 3) (.c (.int .u32 65536)))] [0,2,4]) (.cond (.t 4) (.seq (r [o 5 (.mv (.t 0)),o 6 (.bin .shr (.t 5) (.c (.int .u64 16))),o 0 (.mv (.t 6))] [0]) (r [o 2 (.mv (i 16))] [0,2])) .skip)) (.seq (.seq (r [o 7 (.mv (.t 0)),o 8 (.bin .geq (.t 7) (.c (.int .u32 256)))] [0,2,8]) (.cond (.t 8) (.seq (r [o 9 (.mv (.t 0)),o 10 (.bin .shr (.t 9) (.c (.int .u64 8))),o 0 (.mv (.t 10))] [0,2]) (r [o 11 (.mv (.t 2)),o 12 (.bin .add (.t 11) (i 8)),o 2 (.mv (.t 12))] [0,2])) .skip)) (.seq (r [o 13 (.mv (.t 2)),o 14 (.mv (.t 0)),o 15 (.cvt .u8 (.t 14)),o 16 (.ixS (.c (.str ⟨#[0,1,2,2,3,3,3,3,4,4,4,4,4,4,4,4,5,5,5,5,5,5,5,5,5,5,5,5,5,5,5,5,6,6,6,6,6,6,6,6,6,6,6,6,6,6,6,6,6,6,6,6,6,6,6,6,6,6,6,6,6,6,6,6,7,7,7,7,7,7,7,7,7,7,7,7,7,7,7,7,7,7,7,7,7,7,7,7,7,7,7,7,7,7,7,7,7,7,7,7,7,7,7,7,7,7,7,7,7,7,7,7,7,7,7,7,7,7,7,7,7,7,7,7,7,7,7,7,8,8,8,8,8,8,8,8,8,8,8,8,8,8,8,8,8,8,8,8,8,8,8,8,8,8,8,8,8,8,8,8,8,8,8,8,8,8,8,8,8,8,8,8,8,8,8,8,8,8,8,8,8,8,8,8,8,8,8,8,8,8,8,8,8,8,8,8,8,8,8,8,8,8,8,8,8,8,8,8,8,8,8,8,8,8,8,8,8,8,8,8,8,8,8,8,8,8,8,8,8,8,8,8,8,8,8,8,8,8,8,8,8,8,8,8,8,8,8,8,8,8,8,8,8,8,8,8]⟩)) (.t 15)),o 17 (.cvt .i64 (.t 16)),o 18 (.bin .add (.t 13) (.t 17)),o 2 (.mv (.t 18))] [2]) .ret)))),[.t 2]⟩
theorem math_bits_Len32_ok : cFn Tryz.prog (kps [[0,2],[0,2,4],[0],[0,2],[0,2,8],[0,2],[0,2],[2]]) [] 146 = some math_bits_Len32_c := by kernel_rfl
abbrev math_bits_LeadingZeros32 : Nat := 127
def math_bits_LeadingZeros32_c : MFn := ⟨6,(.seq (r [o 2 (.mv (i 0))] [0]) (.seq (r [o 3 (.mv (.t 0)),o 4 (.call 146 [(.t 3)]),o 5 (.bin .sub (i 32) (.t 4)),o 2 (.mv (.t 5))] [2]) .ret)),[.t 2]⟩
theorem math_bits_LeadingZeros32_ok : cFn Tryz.prog (kps [[0],[2]]) [] 127 = some math_bits_LeadingZeros32_c := by kernel_rfl
end Go.Proofs.YtkockkfmjmheeaaGreat.F

namespace Go.Proofs.YtkockkfmjmheeaaGreat
open Go Go.Proofs Go.Proofs.YtkockkfmjmheeaaGreat.E
set_option linter.unusedSimpArgs false
set_option linter.unusedVariables false
theorem nat_trim {l : List Int} (hd : Dig l) (hl : l.length ≤ 2 ^ 38) : CallD Tryz.prog F.nat_trim [nat l] (· = nat (digs (val l))) := by
 rw [← trim_eq hd]
 refine callD_by F.nat_trim_ok ?_
 unfold F.nat_trim_c
 simp
 refine wm_loop (fun k : Nat => ((Sl.empty.set 3 (.int .i64 k)).set 0 (nat l), [])) (fun k => k ≤ l.length ∧ cut0 l k = cut0 l l.length) id l.length ⟨Nat.le_refl _, rfl⟩ ?_ ?_
 ·exact weak_plain (fun _ _ h => h) (sin_set (by simp) (sin_set (by simp) sin_empty))
 intro k ⟨hk, hc⟩
 by_cases h0 : 0 < k
 ·simp [h0]
  repeat simp (disch := omega) [wrap64, if_pos]
  obtain ⟨k, rfl⟩ : ∃ k', k = k' + 1 := ⟨k - 1, by omega⟩
  have hk1 : k < l.length := by omega
  simp [cut0, hk1] at hc
  refine ⟨fun h => ?_, fun h => ?_⟩
  ·simp at h; simp [h] at hc
   exact ⟨k, ⟨by omega, hc⟩, by show k < k + 1; omega, weak_plain (by simp; exact fun _ _ h => h) (sin_set (by simp) (sin_set (by simp) sin_empty))⟩
  ·simp at h
   simp [h] at hc
   simp [hk1, ← hc]
 ·have hk0 : k = 0 := by omega
  subst hk0
  have hz : cut0 l l.length = 0 := by rw [← hc]; rfl
  simp [hz]
theorem ring_a {v p c s t r q x y : Int} (hv : v + p * c = s + t) (h : r + 4294967296 * q = c + x + y) : v + p * r + p * 4294967296 * q = s + p * x + (t + p * y) := by grind
theorem ring_b {v p c s t r q x : Int} (hv : v + p * c = s + t) (h : r + 4294967296 * q = c + x) : v + p * r + p * 4294967296 * q = s + p * x + t := by grind
theorem add_step {a b out : List Int} {c : Int} (hv : val out + 4294967296 ^ out.length * c = val (a.take out.length) + val (b.take out.length)) (ha : out.length < a.length) (hb : out.length < b.length) :
 val (out ++ [(c + a[out.length] + b[out.length]) % 4294967296]) + 4294967296 ^ (out ++ [(c + a[out.length] + b[out.length]) % 4294967296]).length * ((c + a[out.length] + b[out.length]) / 4294967296) = val (a.take (out ++ [(c + a[out.length] + b[out.length]) % 4294967296]).length) + val (b.take (out ++ [(c + a[out.length] + b[out.length]) % 4294967296]).length) := by
 simp only [List.length_append, List.length_singleton]
 rw [val_take_succ ha, val_take_succ hb, val_snoc, Int.pow_succ]
 exact ring_a hv (Int.emod_add_mul_ediv _ _)
theorem add_step' {a b out : List Int} {c : Int} (hv : val out + 4294967296 ^ out.length * c = val (a.take out.length) + val (b.take out.length)) (ha : out.length < a.length) (hb : b.length ≤ out.length) :
 val (out ++ [(c + a[out.length]) % 4294967296]) + 4294967296 ^ (out ++ [(c + a[out.length]) % 4294967296]).length * ((c + a[out.length]) / 4294967296) = val (a.take (out ++ [(c + a[out.length]) % 4294967296]).length) + val (b.take (out ++ [(c + a[out.length]) % 4294967296]).length) := by
 simp only [List.length_append, List.length_singleton]
 rw [List.take_of_length_le (l := b) hb] at hv
 rw [val_take_succ ha, List.take_of_length_le (l := b) (by omega), val_snoc, Int.pow_succ]
 exact ring_b hv (Int.emod_add_mul_ediv _ _)
theorem nat_Add1 {S : Sl} {a b : List Int} (h0 : S 0 = some (nat a)) (h1 : S 1 = some (nat b)) (ha : Dig a) (hb : Dig b) (la : a.length ≤ 2 ^ 36) (hab : b.length ≤ a.length) : WpM Tryz.prog [] F.nat_Add_c.body.tl.tl.tl S [] (DoneD F.nat_Add_c.res (· = nat (digs (val a + val b)))) := by
 unfold F.nat_Add_c
 simp [MCode.tl, h0, h1]
 repeat simp (disch := omega) [wrap64, if_pos, h0, h1]
 refine wm_loop (fun g : Nat × Int × List Int => ((((((Sl.empty.set 26 (.int .i64 g.2.2.length)).set 25 (.int .i64 a.length)).set 24 (nat a)).set 6 (.int .u64 g.2.1)).set 5 (.ref g.1 0 g.2.2.length)).set 1 (nat b), [(g.1, ⟨.own, 1, dg g.2.2⟩)]))
  (fun g => Dig g.2.2 ∧ g.2.2.length ≤ a.length ∧ (0 ≤ g.2.1 ∧ g.2.1 ≤ 1) ∧ val g.2.2 + 4294967296 ^ g.2.2.length * g.2.1 = val (a.take g.2.2.length) + val (b.take g.2.2.length)) (fun g => a.length - g.2.2.length) (0, 0, []) ⟨Dig.nil, by simp, by simp, by simp⟩ ?_ ?_
 ·exact weak_digs (fun _ _ h => h) (by simp) (sin_set (by simp) (sin_set (by simp) (sin_set (by simp) (sin_set (by simp) (sin_set (by simp) (sin_set (by simp) sin_empty))))))
 rintro ⟨o, c, out⟩ ⟨hD, hle, ⟨hc0, hc⟩, hv⟩
 dsimp only at hD hle hc0 hc hv ⊢
 by_cases hi : out.length < a.length
 ·have hai := ha.get hi
  simp [hi]
  by_cases hk : out.length < b.length
  ·have hbi := hb.get hk
   simp [hk]
   repeat simp (disch := omega) [wrap64, wrapU64, if_pos]
   generalize fresh _ = o'
   refine ⟨⟨(o', _, out ++ [_]), ⟨hD.snoc (by omega) (by omega), by simp; omega, by dsimp only; omega, add_step hv hi hk⟩, ?_, weak_digs ?_ (by simp) ?_⟩, fun h => by omega⟩
   ·simp; omega
   ·simp; exact fun _ _ h => h
   ·repeat (refine sin_set (by simp) ?_)
    exact sin_empty
  ·simp [hk]
   repeat simp (disch := omega) [wrap64, wrapU64, if_pos]
   generalize fresh _ = o'
   refine fun h => ⟨(o', _, out ++ [_]), ⟨hD.snoc (by omega) (by omega), by simp; omega, by dsimp only; omega, add_step' hv hi h⟩, ?_, weak_digs ?_ (by simp) ?_⟩
   ·simp; omega
   ·simp; exact fun _ _ h => h
   ·repeat (refine sin_set (by simp) ?_)
    exact sin_empty
 ·simp [hi]
  repeat simp (disch := omega) [wrap64, wrapU64, if_pos]
  have hl : out.length = a.length := by omega
  have e : val (out ++ [c % 4294967296]) = val a + val b := by
   rw [val_snoc, Int.emod_eq_of_lt hc0 (by omega), hv, hl, List.take_length, List.take_of_length_le (by omega)]
  generalize fresh _ = o'
  refine callK_of (nat_trim (l := out ++ [c % 4294967296]) (hD.snoc (by omega) (by omega)) (by simp; omega)) ?_ ?_
  ·simp
   rw [toD_digs (st := .own) (l := out ++ [c % 4294967296]) (by simp) (by simp) (by simp)]
   simp [List.take_of_length_le]
  ·simp [e]
theorem nat_Add {a b : List Int} (ha : Dig a) (hb : Dig b) (la : a.length ≤ 2 ^ 36) (lb : b.length ≤ 2 ^ 36) : CallD Tryz.prog F.nat_Add [nat a, nat b] (· = nat (digs (val a + val b))) := by
 refine callD_by F.nat_Add_ok ?_
 unfold F.nat_Add_c
 simp
 refine callK_of (nat_trim ha (by omega)) (by simp) ?_
 simp
 refine callK_of (nat_trim hb (by omega)) (by simp) ?_
 have h1 := digs_le_of ha
 have h2 := digs_le_of hb
 simp
 refine ⟨fun h => ?_, fun h => ?_⟩
 ·have := nat_Add1 (S := (Sl.empty.set 1 (nat (digs (val a)))).set 0 (nat (digs (val b)))) rfl rfl (digs_dig _) (digs_dig _) (by omega) (by omega)
  rw [val_digs (val_nonneg ha), val_digs (val_nonneg hb), Int.add_comm] at this
  unfold F.nat_Add_c at this
  simpa [MCode.tl] using this
 ·have := nat_Add1 (S := ((Sl.empty.set 17 (.bool (decide ((digs (val a)).length < (digs (val b)).length)))).set 1 (nat (digs (val b)))).set 0 (nat (digs (val a)))) rfl rfl (digs_dig _) (digs_dig _) (by omega) (by omega)
  rw [val_digs (val_nonneg ha), val_digs (val_nonneg hb)] at this
  unfold F.nat_Add_c at this
  simpa [MCode.tl] using this
theorem slices_Clone {l : List Int} (hl : l.length ≤ 2 ^ 37) : CallD Tryz.prog F.slices_Clone_Nat_uint32 [nat l] (· = nat l) := by
 cases l with
 | nil =>
   refine CallD.empty1 ?_ ?_ <;> refine callD_by F.slices_Clone_Nat_uint32_ok ?_ <;> unfold F.slices_Clone_Nat_uint32_c <;> simp
   rw [toD_digs (st := .own) (l := []) (by simp) (by simp) (by simp)]; simp
 | cons d l =>
   refine callD_by F.slices_Clone_Nat_uint32_ok ?_
   unfold F.slices_Clone_Nat_uint32_c
   have hd : dg (d :: l) = [.int .u32 d] :: dg l := rfl
   simp [nat, hd]
   rw [← hd]
   simp at hl
   repeat simp (disch := omega) [if_pos]
   generalize fresh _ = o'
   rw [toD_digs (st := .own) (l := d :: l) (by simp) (by simp) (by simp)]
   simp
theorem nat_Of {n : Int} (h0 : 0 ≤ n) (h1 : n < 18446744073709551616) : CallD Tryz.prog F.nat_Of [.int .u64 n] (· = nat (digs n)) := by
 have hD : Dig [n % 4294967296, n / 4294967296 % 4294967296] := Dig.cons (by omega) (by omega) (Dig.cons (by omega) (by omega) Dig.nil)
 have hv : val [n % 4294967296, n / 4294967296 % 4294967296] = n := by simp; omega
 refine callD_by F.nat_Of_ok ?_
 unfold F.nat_Of_c
 simp
 refine callK_of (nat_trim hD (by simp)) (by simp; rw [toD_digs (st := .own) (l := [n % 4294967296, n / 4294967296 % 4294967296]) (by simp) (by simp) (by simp)]; simp) ?_
 rw [hv]
 simp
 refine callK_of (slices_Clone (l := digs n) (Nat.le_trans (digs_length_le (k := 2) (by omega)) (by simp))) (by simp) ?_
 simp
def smallV (n : Int) : V := if n < 18446744073709551616 then .tup [.int .u64 n, .bool true] else .tup [.int .u64 0, .bool false]
theorem nat_Compare {a b : List Int} (ha : Dig a) (hb : Dig b) (la : a.length ≤ 2 ^ 37) (lb : b.length ≤ 2 ^ 37) : CallD Tryz.prog F.nat_Compare [nat a, nat b] (· = .int .i64 (if val a < val b then -1 else if val b < val a then 1 else 0)) := by
 refine callD_by F.nat_Compare_ok ?_
 unfold F.nat_Compare_c
 simp
 refine callK_of (nat_trim ha (by omega)) (by simp) ?_
 simp
 refine callK_of (nat_trim hb (by omega)) (by simp) ?_
 simp
 have h1 := digs_le_of ha
 have h2 := digs_le_of hb
 have n1 := val_nonneg ha
 have n2 := val_nonneg hb
 generalize val a = x at *
 generalize val b = y at *
 refine ⟨fun h => ?_, fun h => ⟨fun h' => ?_, fun h' => ?_⟩⟩
 ·have := digs_lt_of_length n1 h
  intro; omega
 ·have := digs_lt_of_length n2 h'
  have h3 : ¬ x < y := by omega
  simp [h3, this]
 ·have hl : (digs x).length = (digs y).length := by omega
  repeat simp (disch := omega) [wrap64]
  refine wm_loop (fun k : Nat => (((Sl.empty.set 5 (.int .i64 ((k : Int) - 1))).set 1 (nat (digs y))).set 0 (nat (digs x)), [])) (fun k => k ≤ (digs x).length ∧ (digs x).drop k = (digs y).drop k) id (digs x).length ⟨Nat.le_refl _, by rw [List.drop_length, hl, List.drop_length]⟩ ?_ ?_
  ·exact weak_plain (fun _ _ h => h) (by repeat (first | exact sin_empty | refine sin_set (by simp) ?_))
  rintro k ⟨hk, hd⟩
  dsimp only
  cases k with
  | zero =>
    have e : x = y := digs_inj n1 n2 (by simpa using hd)
    subst e
    simp
  | succ k =>
    have hkx : k < (digs x).length := by omega
    have hky : k < (digs y).length := by omega
    have c1 : ((k + 1 : Nat) : Int) - 1 = k := by omega
    simp [c1, hkx, hky]
    repeat simp (disch := omega) [wrap64, if_pos]
    refine ⟨fun h => ?_, fun h => ⟨fun h' => ?_, fun h' => ?_⟩⟩
    ·have := val_lt_of (digs_dig x) (digs_dig y) hkx hky hd h
     rw [val_digs n1, val_digs n2] at this
     intro; omega
    ·have := val_lt_of (digs_dig y) (digs_dig x) hky hkx hd.symm h'
     rw [val_digs n1, val_digs n2] at this
     have h3 : ¬ x < y := by omega
     simp [h3, this]
    ·refine ⟨k, ⟨by omega, ?_⟩, by show k < k + 1; omega, weak_plain (fun _ _ h => h) (by repeat (first | exact sin_empty | refine sin_set (by simp) ?_))⟩
     rw [List.drop_eq_getElem_cons hkx, List.drop_eq_getElem_cons hky, hd, show (digs x)[k] = (digs y)[k] from by omega]
theorem ring_c {s t p c x y q : Int} : s - t + p * c + p * (x + 4294967296 * q - (c + y)) = s + p * x - (t + p * y) + p * 4294967296 * q := by grind
theorem nat_Sub1 {S : Sl} {a b : List Int} (h0 : S 0 = some (nat a)) (h1 : S 1 = some (nat b)) (ha : Dig a) (hb : Dig b) (la : a.length ≤ 2 ^ 36) (hab : b.length ≤ a.length) (hba : val b ≤ val a) : WpM Tryz.prog [] F.nat_Sub_c.body.tl.tl.tl S [] (DoneD F.nat_Sub_c.res (· = .tup [nat (digs (val a - val b)), .int .i64 0])) := by
 unfold F.nat_Sub_c
 simp [MCode.tl, h0, h1]
 repeat simp (disch := omega) [wrap64, if_pos, h0, h1]
 refine wm_loop (fun g : Nat × Int × List Int => ((((((Sl.empty.set 24 (.int .i64 g.1)).set 23 (.int .i64 a.length)).set 22 (nat a)).set 7 (.int .u64 g.2.1)).set 6 (.ref 0 0 a.length)).set 1 (nat b), [(0, ⟨.own, 1, dg g.2.2⟩)]))
  (fun g => Dig g.2.2 ∧ g.2.2.length = a.length ∧ g.1 ≤ a.length ∧ (0 ≤ g.2.1 ∧ g.2.1 ≤ 1) ∧ val (g.2.2.take g.1) = val (a.take g.1) - val (b.take g.1) + 4294967296 ^ g.1 * g.2.1) (fun g => a.length - g.1) (0, 0, List.replicate a.length 0) ⟨Dig.replicate _, by simp, by simp, by simp, by simp⟩ ?_ ?_
 ·exact weak_digs (fun _ _ h => h) (by simp) (by repeat (first | exact sin_empty | refine sin_set (by simp) ?_))
 rintro ⟨i, c, out⟩ ⟨hD, hlen, hle, ⟨hc0, hc⟩, hv⟩
 dsimp only at hD hlen hle hc0 hc hv ⊢
 have fin : i < a.length → ∀ (x t d c' : Int), a[i]? = some x → val (b.take (i + 1)) = val (b.take i) + 4294967296 ^ i * t → d = x + 4294967296 * c' - (c + t) → 0 ≤ d → d < 4294967296 → 0 ≤ c' → c' ≤ 1 →
  Dig (out.set i d) ∧ (out.set i d).length = a.length ∧ i + 1 ≤ a.length ∧ (0 ≤ c' ∧ c' ≤ 1) ∧ val ((out.set i d).take (i + 1)) = val (a.take (i + 1)) - val (b.take (i + 1)) + 4294967296 ^ (i + 1) * c' := by
  intro hi x t d c' hx ht hd d0 d1 e0 e1
  refine ⟨hD.set i d0 d1, by simpa using hlen, hi, ⟨e0, e1⟩, ?_⟩
  rw [take_set_succ (by omega), val_snoc, List.length_take, Nat.min_eq_left (by omega), hv, ht, val_take_succ hi, Int.pow_succ, hd]
  rw [List.getElem?_eq_getElem hi] at hx
  injection hx with hx
  subst hx
  exact ring_c
 by_cases hi : i < a.length
 ·have hai := ha.get hi
  have gx := List.getElem?_eq_getElem hi
  simp [hi]
  by_cases hk : i < b.length
  ·have hbi := hb.get hk
   have ht := val_take_succ hk
   simp [hk]
   repeat simp (disch := omega) [wrap64, wrapU64, if_pos]
   refine ⟨⟨fun h => ?_, fun h => ?_⟩, fun h => by omega⟩
   ·refine ⟨(i + 1, 1, out.set i ((a[i] + 4294967296 - (c + b[i])) % 4294967296)), fin hi a[i] b[i] _ 1 gx ht ?_ (by omega) (by omega) (by omega) (by omega), ?_, weak_digs ?_ (by simp) ?_⟩
    ·omega
    ·simp; omega
    ·simp; exact fun _ _ h => h
    ·repeat (refine sin_set (by simp) ?_)
     exact sin_empty
   ·have e : IntKind.u64.wrap (a[i] - (c + b[i])) = a[i] - (c + b[i]) := wrapU64 (by omega) (by omega)
    rw [e]
    refine ⟨(i + 1, 0, out.set i ((a[i] - (c + b[i])) % 4294967296)), fin hi a[i] b[i] _ 0 gx ht ?_ (by omega) (by omega) (by omega) (by omega), ?_, weak_digs ?_ (by simp) ?_⟩
    ·omega
    ·simp; omega
    ·simp; exact fun _ _ h => h
    ·repeat (refine sin_set (by simp) ?_)
     exact sin_empty
  ·have ht : val (b.take (i + 1)) = val (b.take i) + 4294967296 ^ i * 0 := by rw [List.take_of_length_le (by omega), List.take_of_length_le (by omega)]; simp
   simp [hk]
   repeat simp (disch := omega) [wrap64, wrapU64, if_pos]
   refine fun _ => ⟨fun h => ?_, fun h => ?_⟩
   ·refine ⟨(i + 1, 1, out.set i ((a[i] + 4294967296 - c) % 4294967296)), fin hi a[i] 0 _ 1 gx ht ?_ (by omega) (by omega) (by omega) (by omega), ?_, weak_digs ?_ (by simp) ?_⟩
    ·omega
    ·simp; omega
    ·simp; exact fun _ _ h => h
    ·repeat (refine sin_set (by simp) ?_)
     exact sin_empty
   ·have e : IntKind.u64.wrap (a[i] - c) = a[i] - c := wrapU64 (by omega) (by omega)
    rw [e]
    refine ⟨(i + 1, 0, out.set i ((a[i] - c) % 4294967296)), fin hi a[i] 0 _ 0 gx ht ?_ (by omega) (by omega) (by omega) (by omega), ?_, weak_digs ?_ (by simp) ?_⟩
    ·omega
    ·simp; omega
    ·simp; exact fun _ _ h => h
    ·repeat (refine sin_set (by simp) ?_)
     exact sin_empty
 ·simp [hi]
  have hia : i = a.length := by omega
  have e : val out = val a - val b := by
   rw [List.take_of_length_le (by omega), List.take_of_length_le (by omega), List.take_of_length_le (by omega)] at hv
   have h3 := val_lt hD
   rw [hlen] at h3
   have h4 := val_nonneg hb
   rw [hia] at hv
   by_cases hc1 : c = 1
   ·subst hc1
    omega
   ·have : c = 0 := by omega
    subst this
    simpa using hv
  refine callK_of (nat_trim (l := out) hD (by omega)) (by simp; rw [toD_digs (st := .own) (l := out) (by simp) (by simp) (by omega)]; simp [← hlen]) ?_
  simp [e]
def subV (a b : Int) : V := if a < b then .tup [.dat [], .int .i64 1] else .tup [nat (digs (a - b)), .int .i64 0]
theorem nat_Sub {a b : List Int} (ha : Dig a) (hb : Dig b) (la : a.length ≤ 2 ^ 36) (lb : b.length ≤ 2 ^ 36) : CallD Tryz.prog F.nat_Sub [nat a, nat b] (· = subV (val a) (val b)) := by
 refine callD_by F.nat_Sub_ok ?_
 unfold F.nat_Sub_c
 simp
 refine callK_of (nat_Compare ha hb (by omega) (by omega)) (by simp) ?_
 by_cases h : val a < val b
 ·simp [h, subV]
 ·have e : ¬ ((if val b < val a then 1 else 0 : Int) < 0) := by split <;> omega
  simp [h, e, subV]
  refine callK_of (nat_trim ha (by omega)) (by simp) ?_
  simp
  refine callK_of (nat_trim hb (by omega)) (by simp) ?_
  have h1 := digs_le_of ha
  have h2 := digs_le_of hb
  have := nat_Sub1 (S := (Sl.empty.set 1 (nat (digs (val b)))).set 0 (nat (digs (val a)))) rfl rfl (digs_dig _) (digs_dig _) (by omega) (digs_length_mono (val_nonneg ha) (by omega)) (by rw [val_digs (val_nonneg ha), val_digs (val_nonneg hb)]; omega)
  rw [val_digs (val_nonneg ha), val_digs (val_nonneg hb)] at this
  unfold F.nat_Sub_c at this
  simpa [MCode.tl] using this
theorem ring_d {V W p q r t c x a b v B : Int} (gv : V + p * q * c = W + p * (a * v)) (hs : r + B * t = c + (x + a * b)) : V + p * q * (r - x) + p * (q * B) * t = W + p * (a * (v + q * b)) := by grind
theorem ring_e {V W p c a A v : Int} (gv : V + c = W + p * (a * v)) (hw : W = A * v) : V + c = (A + p * a) * v := by grind
theorem mul_step {out o a b : List Int} {i k : Nat} {c : Int} (hk : k < b.length) (hok : i + k < o.length) (hi : i < a.length)
 (gv : val (List.take (i + b.length) o) + 4294967296 ^ (i + k) * c = val (List.take (i + b.length) out) + 4294967296 ^ i * (a[i] * val (List.take k b))) :
 val (List.take (i + b.length) (o.set (i + k) ((c + (o[i + k] + a[i] * b[k])) % 4294967296))) + 4294967296 ^ (i + (k + 1)) * ((c + (o[i + k] + a[i] * b[k])) / 4294967296) = val (List.take (i + b.length) out) + 4294967296 ^ i * (a[i] * val (List.take (k + 1) b)) := by
 have h1 : i + k < (o.take (i + b.length)).length := by rw [List.length_take]; omega
 have h2 : (o.take (i + b.length))[i + k] = o[i + k] := List.getElem_take ..
 rw [take_set_lt, val_set h1, h2, val_take_succ hk, Int.pow_add, Int.pow_add, Int.pow_succ]
 rw [Int.pow_add] at gv
 exact ring_d gv (Int.emod_add_mul_ediv _ _)
theorem nat_Mul1 {S : Sl} {a b : List Int} (h0 : S 0 = some (nat a)) (h1 : S 1 = some (nat b)) (ha : Dig a) (hb : Dig b) (la : a.length ≤ 2 ^ 35) (lb : b.length ≤ 2 ^ 35) : WpM Tryz.prog [] F.nat_Mul_c.body.tl.tl S [] (DoneD F.nat_Mul_c.res (· = nat (digs (val a * val b)))) := by
 unfold F.nat_Mul_c
 simp [MCode.tl, h0, h1]
 repeat simp (disch := omega) [wrap64, if_pos, h0, h1]
 refine wm_loop (fun g : Nat × List Int => (((((Sl.empty.set 23 (.int .i64 g.1)).set 22 (.int .i64 a.length)).set 21 (nat a)).set 5 (.ref 0 0 (a.length + b.length))).set 1 (nat b), [(0, ⟨.own, 1, dg g.2⟩)]))
  (fun g => Dig g.2 ∧ g.2.length = a.length + b.length ∧ g.1 ≤ a.length ∧ val (g.2.take (g.1 + b.length)) = val (a.take g.1) * val b) (fun g => a.length - g.1) (0, List.replicate (a.length + b.length) 0) ⟨Dig.replicate _, by simp, by simp, by simp [List.take_replicate]⟩ ?_ ?_
 ·exact weak_digs (fun _ _ h => h) (by simp) (by repeat (first | exact sin_empty | refine sin_set (by simp) ?_))
 rintro ⟨i, out⟩ ⟨hD, hlen, hle, hv⟩
 dsimp only at hD hlen hle hv ⊢
 by_cases hi : i < a.length
 ·have hai := ha.get hi
  simp [hi]
  refine wm_loop (fun g : Nat × Int × List Int => (((((((((((Sl.empty.set 30 (.int .i64 g.1)).set 29 (.int .i64 b.length)).set 28 (nat b)).set 23 (.int .i64 i)).set 22 (.int .i64 a.length)).set 21 (nat a)).set 8 (.int .u64 g.2.1)).set 7 (.int .u32 a[i])).set 6 (.int .i64 i)).set 5 (.ref 0 0 (a.length + b.length))).set 1 (nat b), [(0, ⟨.own, 1, dg g.2.2⟩)]))
   (fun g => Dig g.2.2 ∧ g.2.2.length = a.length + b.length ∧ g.1 ≤ b.length ∧ (0 ≤ g.2.1 ∧ g.2.1 < 4294967296) ∧ val (g.2.2.take (i + b.length)) + 4294967296 ^ (i + g.1) * g.2.1 = val (out.take (i + b.length)) + 4294967296 ^ i * (a[i] * val (b.take g.1))) (fun g => b.length - g.1) (0, 0, out) ⟨hD, hlen, by simp, by simp, by simp⟩ ?_ ?_
  ·exact weak_digs (fun _ _ h => h) (by simp) (by repeat (first | exact sin_empty | refine sin_set (by simp) ?_))
  rintro ⟨k, c, o⟩ ⟨gD, glen, gle, ⟨gc0, gc1⟩, gv⟩
  dsimp only at gD glen gle gc0 gc1 gv ⊢
  by_cases hk : k < b.length
  ·have hbk := hb.get hk
   have hm := mul_bound hai hbk
   have hok : i + k < o.length := by omega
   have hox := gD.get hok
   simp [hk]
   repeat simp (disch := omega) [wrap64, wrapU64, if_pos]
   refine ⟨(k + 1, (c + (o[i + k] + a[i] * b[k])) / 4294967296, o.set (i + k) ((c + (o[i + k] + a[i] * b[k])) % 4294967296)), ⟨gD.set _ (by omega) (by omega), by simpa using glen, hk, ⟨by dsimp only; omega, by dsimp only; omega⟩, mul_step hk hok hi gv⟩, ?_, weak_digs ?_ (by simp) ?_⟩
   ·simp; omega
   ·simp; exact fun _ _ h => h
   ·repeat (refine sin_set (by simp) ?_)
    exact sin_empty
  ·simp [hk]
   repeat simp (disch := omega) [wrap64, wrapU64, if_pos]
   have hkl : k = b.length := by omega
   subst hkl
   have hcm : c % 4294967296 = c := Int.emod_eq_of_lt gc0 gc1
   refine ⟨(i + 1, o.set (i + b.length) (c % 4294967296)), ⟨gD.set _ (by omega) (by omega), by simpa using glen, hi, ?_⟩, ?_, weak_digs ?_ (by simp) ?_⟩
   ·dsimp only
    rw [show i + 1 + b.length = i + b.length + 1 from by omega, take_set_succ (by omega), val_snoc, List.length_take, Nat.min_eq_left (by omega), hcm, val_take_succ hi]
    rw [List.take_length] at gv
    exact ring_e gv hv
   ·simp; omega
   ·simp; exact fun _ _ h => h
   ·repeat (refine sin_set (by simp) ?_)
    exact sin_empty
 ·simp [hi]
  have hia : i = a.length := by omega
  rw [List.take_of_length_le (by omega), List.take_of_length_le (by omega)] at hv
  refine callK_of (nat_trim (l := out) hD (by omega)) (by simp; rw [toD_digs (st := .own) (l := out) (by simp) (by simp) (by omega)]; simp [← hlen]) ?_
  simp [hv]
theorem nat_Mul {a b : List Int} (ha : Dig a) (hb : Dig b) (la : a.length ≤ 2 ^ 35) (lb : b.length ≤ 2 ^ 35) : CallD Tryz.prog F.nat_Mul [nat a, nat b] (· = nat (digs (val a * val b))) := by
 refine callD_by F.nat_Mul_ok ?_
 unfold F.nat_Mul_c
 simp
 refine callK_of (nat_trim ha (by omega)) (by simp) ?_
 simp
 refine callK_of (nat_trim hb (by omega)) (by simp) ?_
 have h1 := digs_le_of ha
 have h2 := digs_le_of hb
 have := nat_Mul1 (S := (Sl.empty.set 1 (nat (digs (val b)))).set 0 (nat (digs (val a)))) rfl rfl (digs_dig _) (digs_dig _) (by omega) (by omega)
 rw [val_digs (val_nonneg ha), val_digs (val_nonneg hb)] at this
 unfold F.nat_Mul_c at this
 simpa [MCode.tl] using this
theorem drop_set_self {l : List Int} {k : Nat} (h : k < l.length) (d : Int) : (l.set k d).drop k = d :: l.drop (k + 1) := by
 rw [List.drop_eq_getElem_cons (by simpa using h)]
 simp only [List.getElem_set_self, List.drop_set]
 rw [if_pos (by omega)]
theorem short_step {v b q r s t y B : Int} (h : v = b * s + t) (hx : q * b + r = t * B + y) : y + B * v = b * (q + B * s) + r := by grind
theorem div_unique {a d q r : Int} (h : a = d * q + r) (h0 : 0 ≤ r) (h1 : r < d) : a / d = q ∧ a % d = r := by
 have hd : d ≠ 0 := by omega
 subst h
 constructor
 ·rw [Int.mul_add_ediv_left _ _ hd, Int.ediv_eq_zero_of_lt h0 h1]; omega
 ·rw [Int.mul_add_emod_self_left]; exact Int.emod_eq_of_lt h0 h1
theorem nat_short {a : List Int} {d : Int} (ha : Dig a) (la : a.length ≤ 2 ^ 36) (d0 : 0 < d) (d1 : d < 4294967296) : CallD Tryz.prog F.nat_short [nat a, .int .u32 d] (· = .tup [nat (digs (val a / d)), .int .u32 (val a % d)]) := by
 refine callD_by F.nat_short_ok ?_
 unfold F.nat_short_c
 simp
 repeat simp (disch := omega) [wrap64, if_pos]
 refine wm_loop (fun g : Nat × Int × List Int => (((((Sl.empty.set 8 (.int .i64 ((g.1 : Int) - 1))).set 7 (.int .u64 g.2.1)).set 6 (.ref 0 0 a.length)).set 1 (.int .u32 d)).set 0 (nat a), [(0, ⟨.own, 1, dg g.2.2⟩)]))
  (fun g => Dig g.2.2 ∧ g.2.2.length = a.length ∧ g.1 ≤ a.length ∧ (0 ≤ g.2.1 ∧ g.2.1 < d) ∧ val (a.drop g.1) = d * val (g.2.2.drop g.1) + g.2.1) (fun g => g.1) (a.length, 0, List.replicate a.length 0) ⟨Dig.replicate _, by simp, by simp, by simp; omega, by simp⟩ ?_ ?_
 ·exact weak_digs (fun _ _ h => h) (by simp) (by repeat (first | exact sin_empty | refine sin_set (by simp) ?_))
 rintro ⟨k, r, o⟩ ⟨hD, hlen, hle, ⟨hr0, hr1⟩, hv⟩
 dsimp only at hD hlen hle hr0 hr1 hv ⊢
 cases k with
 | zero =>
   obtain ⟨e1, e2⟩ := div_unique hv hr0 hr1
   simp at e1 e2
   simp
   refine callK_of (nat_trim (l := o) hD (by omega)) (by simp; rw [toD_digs (st := .own) (l := o) (by simp) (by simp) (by omega)]; simp [← hlen]) ?_
   simp [e1, e2]
   omega
 | succ k =>
   have hk : k < a.length := by omega
   have hak := ha.get hk
   have c1 : ((k + 1 : Nat) : Int) - 1 = k := by omega
   have hd0 : ¬ d = 0 := by omega
   simp [c1, hk, hd0]
   repeat simp (disch := omega) [wrap64, wrapU64, if_pos, or_low, Int.tdiv_eq_ediv_of_nonneg, Int.tmod_eq_emod_of_nonneg, hd0]
   have q0 : 0 ≤ (r * 4294967296 + a[k]) / d := Int.ediv_nonneg (by omega) (by omega)
   have q1 : (r * 4294967296 + a[k]) / d < 4294967296 := Int.ediv_lt_of_lt_mul d0 (by omega)
   have r0 := Int.emod_nonneg (r * 4294967296 + a[k]) hd0
   have r1 := Int.emod_lt_of_pos (r * 4294967296 + a[k]) d0
   have eq : IntKind.u64.wrap ((r * 4294967296 + a[k]) / d) % 4294967296 = (r * 4294967296 + a[k]) / d := by rw [wrapU64 q0 (by omega)]; exact Int.emod_eq_of_lt q0 q1
   rw [eq]
   refine ⟨(k, (r * 4294967296 + a[k]) % d, o.set k ((r * 4294967296 + a[k]) / d)), ⟨hD.set _ q0 q1, by simpa using hlen, by omega, ⟨r0, r1⟩, ?_⟩, ?_, weak_digs ?_ (by simp) ?_⟩
   ·dsimp only
    rw [drop_set_self (by omega), List.drop_eq_getElem_cons hk, val_cons, val_cons]
    exact short_step hv (by rw [Int.mul_comm]; exact Int.mul_ediv_add_emod _ _)
   ·simp
   ·simp; exact fun _ _ h => h
   ·repeat (refine sin_set (by simp) ?_)
    exact sin_empty
theorem shift_step {v p x w c r q y B : Int} (hv : v + p * x = w * c) (h : r + B * q = y * c) : v + p * (x + r) + p * B * q = (w + p * y) * c := by grind
theorem nat_shifted_wp {a : List Int} {s : Nat} (ha : Dig a) (la : a.length ≤ 2 ^ 36) (hs : s < 32) {Q : Ex → Sl → Sto → Prop} (hQ : Q .ret (Sl.empty.set 4 (.ref 0 0 (a.length + 1))) [(0, ⟨.own, 1, dg (digsN (a.length + 1) (val a * 2 ^ s))⟩)]) : WpM Tryz.prog [] F.nat_shifted_c.body (argS [nat a, .int .u64 s]) [] Q := by
 unfold F.nat_shifted_c
 simp
 repeat simp (disch := omega) [wrap64, if_pos]
 refine wm_loop (fun g : Nat × List Int => (((((Sl.empty.set 14 (.int .i64 g.1)).set 13 (.int .i64 a.length)).set 12 (nat a)).set 5 (.ref 0 0 (a.length + 1))).set 1 (.int .u64 s), [(0, ⟨.own, 1, dg g.2⟩)]))
  (fun g => Dig g.2 ∧ g.2.length = a.length + 1 ∧ g.1 ≤ a.length ∧ (∀ x, g.2[g.1]? = some x → x < 2 ^ s) ∧ val (g.2.take (g.1 + 1)) = val (a.take g.1) * 2 ^ s) (fun g => a.length - g.1) (0, List.replicate (a.length + 1) 0) ⟨Dig.replicate _, by simp, by simp, by simp; exact Int.pow_pos (by decide), by simp [List.take_replicate]⟩ ?_ ?_
 ·exact weak_digs (fun _ _ h => h) (by simp) (by repeat (first | exact sin_empty | refine sin_set (by simp) ?_))
 rintro ⟨i, o⟩ ⟨hD, hlen, hle, hx, hv⟩
 dsimp only at hD hlen hle hx hv ⊢
 by_cases hi : i < a.length
 ·have hai := ha.get hi
  have hio : i < o.length := by omega
  have hoi := hD.get hio
  have hox := hx _ (List.getElem?_eq_getElem hio)
  simp [hi]
  repeat simp (disch := omega) [wrap64, wrapU64, if_pos]
  have m0 : 0 ≤ a[i] * 2 ^ s := Int.mul_nonneg hai.1 (Int.le_of_lt (Int.pow_pos (by decide)))
  have p31 : (2 : Int) ^ s ≤ 2147483648 := by
   have := Nat.pow_le_pow_right (show 0 < 2 by decide) (show s ≤ 31 by omega)
   have e : ((2 : Int) ^ s) = ((2 ^ s : Nat) : Int) := by simp
   rw [e]; omega
  have m1 : a[i] * 2 ^ s < 4294967296 * 2 ^ s := Int.mul_lt_mul_of_pos_right hai.2 (Int.pow_pos (by decide))
  obtain ⟨e1, e2⟩ := or_shift32 hs hoi.1 hox hai.1
  have e3 : IntKind.u64.wrap (a[i] * 2 ^ s) / 4294967296 % 4294967296 = a[i] * 2 ^ s / 4294967296 := by
   rw [wrapU64 m0 (by omega)]; omega
  rw [e1, e3]
  have hs1 : a[i] * 2 ^ s / 4294967296 < 2 ^ s := Int.ediv_lt_of_lt_mul (by decide) (by omega)
  refine ⟨(i + 1, (o.set i (o[i] + a[i] * 2 ^ s % 4294967296)).set (i + 1) (a[i] * 2 ^ s / 4294967296)), ⟨(hD.set _ (by omega) e2).set _ (by omega) (by omega), by simpa using hlen, hi, ?_, ?_⟩, ?_, weak_digs ?_ (by simp) ?_⟩
  ·intro x hx'
   rw [List.getElem?_set_self (by simp; omega)] at hx'
   injection hx' with hx'
   rw [← hx']; exact hs1
  ·dsimp only
   rw [take_set_succ (by simp; omega), take_set_succ (by omega), val_snoc, val_snoc, val_take_succ hi]
   rw [val_take_succ hio] at hv
   simp only [List.length_append, List.length_take, List.length_singleton, Nat.min_eq_left (Nat.le_of_lt hio)]
   rw [Int.pow_succ]
   exact shift_step hv (Int.emod_add_mul_ediv _ _)
  ·simp; omega
  ·simp; exact fun _ _ h => h
  ·repeat (refine sin_set (by simp) ?_)
   exact sin_empty
 ·simp [hi]
  have hia : i = a.length := by omega
  rw [List.take_of_length_le (by omega), List.take_of_length_le (by omega)] at hv
  rw [← hv, ← hlen, ← digsN_eq hD] at hQ
  rw [hlen] at hQ
  simpa using hQ
theorem nat_shifted {a : List Int} {s : Nat} (ha : Dig a) (la : a.length ≤ 2 ^ 36) (hs : s < 32) : CallD Tryz.prog F.nat_shifted [nat a, .int .u64 s] (· = nat (digsN (a.length + 1) (val a * 2 ^ s))) := by
 refine callD_by F.nat_shifted_ok (nat_shifted_wp ha la hs ?_)
 unfold F.nat_shifted_c
 simp
 rw [toD_digs (st := .own) (l := digsN (a.length + 1) (val a * 2 ^ s)) (by simp) (by simp) (by simp)]
 simp [List.take_of_length_le]
theorem nat_shiftedX {a : List Int} {s : Nat} (ha : Dig a) (la : a.length ≤ 2 ^ 36) (hs : s < 32) : CallX Tryz.prog F.nat_shifted [nat a, .int .u64 s] [] (fun r σ => r = .ref 0 0 (a.length + 1) ∧ σ = [(0, ⟨.own, 1, dg (digsN (a.length + 1) (val a * 2 ^ s))⟩)]) := by
 refine callX_of F.nat_shifted_ok (nat_shifted_wp ha la hs ⟨by simp, [.ref 0 0 (a.length + 1)], _, ?_, ⟨fun o x h => h, by simp, by simp, ?_⟩, rfl, rfl⟩)
 ·unfold F.nat_shifted_c; simp
 ·intro o x h _
  simp [look] at h
  obtain ⟨rfl, rfl⟩ := h
  exact dg_within
def len8 (q : Nat) : Nat := if q = 0 then 0 else Nat.log2 q + 1
theorem len8_half {x : Nat} (h : 0 < x) : len8 x = len8 (x / 2) + 1 := by
 unfold len8
 rw [if_neg (by omega), Nat.log2_def]
 split
 ·rw [if_neg (by omega)]
 ·rw [if_pos (by omega)]
theorem len8_byte {x : Nat} (h : 256 ≤ x) : len8 x = 8 + len8 (x / 256) := by
 rw [len8_half (x := x) (by omega), len8_half (x := x / 2) (by omega), len8_half (x := x / 2 / 2) (by omega), len8_half (x := x / 2 / 2 / 2) (by omega), len8_half (x := x / 2 / 2 / 2 / 2) (by omega),
  len8_half (x := x / 2 / 2 / 2 / 2 / 2) (by omega), len8_half (x := x / 2 / 2 / 2 / 2 / 2 / 2) (by omega), len8_half (x := x / 2 / 2 / 2 / 2 / 2 / 2 / 2) (by omega)]
 rw [show x / 2 / 2 / 2 / 2 / 2 / 2 / 2 / 2 = x / 256 from by omega]
 omega
theorem len8_le {x : Nat} (h : x < 256) : len8 x ≤ 8 := by
 revert x; decide +kernel
theorem len8_pow {x : Nat} (h : 0 < x) : 2 ^ (len8 x - 1) ≤ x ∧ x < 2 ^ len8 x := by
 unfold len8
 rw [if_neg (by omega)]
 exact ⟨Nat.log2_self_le (by omega), Nat.lt_log2_self⟩
theorem wrapU8 {x : Int} (h1 : 0 ≤ x) (h2 : x < 256) : IntKind.u8.wrap x = x := wrap_id (k := .u8) (by simpa [IntKind.min, IntKind.bits, IntKind.signed] using h1) (by simp [IntKind.max, IntKind.bits, IntKind.signed]; omega)
theorem bits_Len32 {x : Nat} (hx : x < 4294967296) : CallD Tryz.prog F.math_bits_Len32 [.int .u32 x] (· = .int .i64 (len8 x)) := by
 refine callD_by F.math_bits_Len32_ok ?_
 unfold F.math_bits_Len32_c
 generalize hT : ByteArray.mk _ = T
 have tab : ∀ q : Nat, q < 256 → T[q]? = some (len8 q).toUInt8 := by
  subst hT
  decide +kernel
 have u8 : ∀ q : Nat, q < 256 → ((len8 q).toUInt8.toNat : Nat) = len8 q := by
  intro q hq
  have := len8_le hq
  simp; omega
 clear hT
 simp
 refine ⟨fun h => ⟨fun h' => ?_, fun h' => ?_⟩, fun h => ⟨fun h' => ?_, fun h' => ?_⟩⟩
 ·have hq : x / 65536 / 256 < 256 := by omega
  have hl := len8_le hq
  have e : ((x : Int) / 65536 / 256).toNat = x / 65536 / 256 := by omega
  have e1 : len8 x = 24 + len8 (x / 65536 / 256) := by
   rw [len8_byte (x := x) (by omega), len8_byte (x := x / 256) (by omega), show x / 256 / 256 = x / 65536 from by omega, len8_byte (x := x / 65536) (by omega)]; omega
  rw [wrapU8 (by omega) (by omega), if_pos (by omega), e, tab _ hq]
  simp only [Option.map_some, u8 _ hq]
  simp
  repeat simp (disch := omega) [wrap64]
  omega
 ·have hq : x / 65536 < 256 := by omega
  have hl := len8_le hq
  have e : ((x : Int) / 65536).toNat = x / 65536 := by omega
  have e1 : len8 x = 16 + len8 (x / 65536) := by
   rw [len8_byte (x := x) (by omega), len8_byte (x := x / 256) (by omega), show x / 256 / 256 = x / 65536 from by omega]; omega
  rw [wrapU8 (by omega) (by omega), if_pos (by omega), e, tab _ hq]
  simp only [Option.map_some, u8 _ hq]
  simp
  repeat simp (disch := omega) [wrap64]
  omega
 ·have hq : x / 256 < 256 := by omega
  have hl := len8_le hq
  have e : ((x : Int) / 256).toNat = x / 256 := by omega
  have e1 : len8 x = 8 + len8 (x / 256) := len8_byte (by omega)
  rw [wrapU8 (by omega) (by omega), if_pos (by omega), e, tab _ hq]
  simp only [Option.map_some, u8 _ hq]
  simp
  repeat simp (disch := omega) [wrap64]
  omega
 ·have hq : x < 256 := by omega
  have hl := len8_le hq
  have e : ((x : Int)).toNat = x := by omega
  rw [wrapU8 (by omega) (by omega), if_pos (by omega), e, tab _ hq]
  simp only [Option.map_some, u8 _ hq]
  simp
  repeat simp (disch := omega) [wrap64]
theorem bits_LeadingZeros32 {x : Nat} (hx : x < 4294967296) : CallD Tryz.prog F.math_bits_LeadingZeros32 [.int .u32 x] (· = .int .i64 (32 - len8 x)) := by
 refine callD_by F.math_bits_LeadingZeros32_ok ?_
 unfold F.math_bits_LeadingZeros32_c
 simp
 refine callK_of (bits_Len32 hx) (by simp) ?_
 have : len8 x ≤ 32 := by
  by_cases h : x = 0
  ·subst h; decide
  ·have h1 := (len8_pow (x := x) (by omega)).1
   by_cases h2 : len8 x ≤ 32
   ·exact h2
   ·have : 2 ^ 32 ≤ 2 ^ (len8 x - 1) := Nat.pow_le_pow_right (by decide) (by omega)
    omega
 simp
 repeat simp (disch := omega) [wrap64]
end Go.Proofs.YtkockkfmjmheeaaGreat
