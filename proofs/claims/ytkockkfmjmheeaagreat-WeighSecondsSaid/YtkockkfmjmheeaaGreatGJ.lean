import Derived.Test.YtkockkfmjmheeaaGreatGD
import Derived.Test.YtkockkfmjmheeaaGreatGC
import Derived.Test.YtkockkfmjmheeaaGreatProg
import Derived.KernelRfl
import Derived.Test.YtkockkfmjmheeaaGreatGE
import Derived.Test.YtkockkfmjmheeaaGreatGH
namespace Go.Proofs.YtkockkfmjmheeaaGreat.F
open Go Go.Proofs Go.Proofs.YtkockkfmjmheeaaGreat.E Go.Proofs.YtkockkfmjmheeaaGreat.Q
abbrev ref01_trim : Nat := 92
def ref01_trim_c : MFn := ⟨22,(.seq (r [o 2 (.mv (.c .nils))] [0]) (.seq (r [o 4 (.mv (.t 0)),o 5 (.lenS (.t 4)),o 3 (.mv (.t 5))] [0,3]) (.seq (.block 0 (.loop (.seq (.seq (r [o 6 (.mv (.t 3)),o 7 (.bin .gtr (.t 6) (i 0)),o 8 (.mv (.t 7)),y 9 8 (.mv (.t 0)),y 10 8 (.mv (.t 3)),y 11 8 (.bin .sub (.t 10) (i 1)),y 12 8 (.ixA 1 (.t 9) (.t 11)),y 13 8 (.ld none (.t 12)),y 14 8 (.bin .eql (.t 13) (.c (.int .u32 0))),o 15 (.pick (.t 8) (.t 14) (.c (.bool false)))] [0,3,15]) (.cond (.t 15) .skip (.exit 0))) (.block 1 (r [o 16 (.mv (.t 3)),o 17 (.bin .sub (.t 16) (i 1)),o 3 (.mv (.t 17))] [0,3]))))) (.seq (r [o 18 (.mv (.t 0)),o 19 (.mv (.t 3)),o 20 (.slc 1 (.t 18) none (some (.t 19)) none),o 21 (.app 1 4 (.c .nils) (.t 20)),o 2 (.mv (.t 21))] [2]) .ret)))),[.t 2]⟩
theorem ref01_trim_ok : cFn Tryz.prog (kps [[0],[0,3],[0,3,15],[0,3],[2]]) [] 92 = some ref01_trim_c := by kernel_rfl
abbrev ref01_Of : Nat := 63
def ref01_Of_c : MFn := ⟨10,(.seq (r [o 2 (.mv (.c .nils))] [0]) (.seq (r [o 3 (.mv (.t 0)),o 4 (.cvt .u32 (.t 3)),o 5 (.mv (.t 0)),o 6 (.bin .shr (.t 5) (.c (.int .u64 32))),o 7 (.cvt .u32 (.t 6)),o 8 (.buildSl 1 2 [.int .u32 0] [(0,(.t 4)),(1,(.t 7))]),o 9 (.call 92 [(.t 8)]),o 2 (.mv (.t 9))] [2]) .ret)),[.t 2]⟩
theorem ref01_Of_ok : cFn Tryz.prog (kps [[0],[2]]) [] 63 = some ref01_Of_c := by kernel_rfl
abbrev ref01_at : Nat := 94
def ref01_at_c : MFn := ⟨14,(.seq (r [o 4 (.mv (.c (.int .u64 0)))] [0,1]) (.seq (.seq (r [o 5 (.mv (.t 1)),o 6 (.mv (.t 0)),o 7 (.lenS (.t 6)),o 8 (.bin .lss (.t 5) (.t 7))] [0,1,8]) (.cond (.t 8) (.seq (r [o 9 (.mv (.t 0)),o 10 (.mv (.t 1)),o 11 (.ixA 1 (.t 9) (.t 10)),o 12 (.ld none (.t 11)),o 13 (.cvt .u64 (.t 12)),o 4 (.mv (.t 13))] [4]) .ret) .skip)) (.seq (r [o 4 (.mv (.c (.int .u64 0)))] [4]) .ret))),[.t 4]⟩
theorem ref01_at_ok : cFn Tryz.prog (kps [[0,1],[0,1,8],[4],[4]]) [] 94 = some ref01_at_c := by kernel_rfl
abbrev ref01_Small : Nat := 104
def ref01_Small_c : MFn := ⟨28,(.seq (r [o 2 (.mv (.c (.int .u64 0))),o 3 (.mv (.c (.bool false)))] [0]) (.seq (r [o 4 (.mv (.t 0)),o 5 (.call 92 [(.t 4)]),o 0 (.mv (.t 5))] [0]) (.seq (.seq (r [o 6 (.mv (.t 0)),o 7 (.lenS (.t 6))] [0,7]) (.block 0 (.seq (r [o 9 (.bin .eql (.t 7) (i 0)),o 8 (.mv (.t 9))] [0,7,8]) (.cond (.t 8) (.seq (r [o 2 (.mv (.c (.int .u64 0))),o 3 (.mv (.c (.bool true)))] [2,3]) .ret) (.seq (r [o 11 (.bin .eql (.t 7) (i 1)),o 10 (.mv (.t 11))] [0,7,10]) (.cond (.t 10) (.seq (r [o 12 (.mv (.t 0)),o 13 (.ixA 1 (.t 12) (i 0)),o 14 (.ld none (.t 13)),o 15 (.cvt .u64 (.t 14)),o 2 (.mv (.t 15)),o 3 (.mv (.c (.bool true)))] [2,3]) .ret) (.seq (r [o 17 (.bin .eql (.t 7) (i 2)),o 16 (.mv (.t 17))] [0,16]) (.cond (.t 16) (.seq (r [o 18 (.mv (.t 0)),o 19 (.ixA 1 (.t 18) (i 1)),o 20 (.ld none (.t 19)),o 21 (.cvt .u64 (.t 20)),o 22 (.bin .shl (.t 21) (.c (.int .u64 32))),o 23 (.mv (.t 0)),o 24 (.ixA 1 (.t 23) (i 0)),o 25 (.ld none (.t 24)),o 26 (.cvt .u64 (.t 25)),o 27 (.bin .or (.t 22) (.t 26)),o 2 (.mv (.t 27)),o 3 (.mv (.c (.bool true)))] [2,3]) .ret) .skip)))))))) (.seq (r [o 2 (.mv (.c (.int .u64 0))),o 3 (.mv (.c (.bool false)))] [2,3]) .ret)))),[.t 2,.t 3]⟩
theorem ref01_Small_ok : cFn Tryz.prog (kps [[0],[0],[0,7],[0,7,8],[2,3],[0,7,10],[2,3],[0,16],[2,3],[2,3]]) [] 104 = some ref01_Small_c := by kernel_rfl
abbrev ref01_Compare : Nat := 68
def ref01_Compare_c : MFn := ⟨45,(.seq (r [o 4 (.mv (i 0))] [0,1]) (.seq (r [o 6 (.mv (.t 0)),o 7 (.call 92 [(.t 6)]),o 8 (.mv (.t 1)),o 9 (.call 92 [(.t 8)]),o 0 (.mv (.t 7)),o 1 (.mv (.t 9))] [0,1]) (.seq (.seq (r [o 10 (.mv (.t 0)),o 11 (.lenS (.t 10)),o 12 (.mv (.t 1)),o 13 (.lenS (.t 12)),o 14 (.bin .neq (.t 11) (.t 13))] [0,1,14]) (.cond (.t 14) (.seq (.seq (r [o 15 (.mv (.t 0)),o 16 (.lenS (.t 15)),o 17 (.mv (.t 1)),o 18 (.lenS (.t 17)),o 19 (.bin .lss (.t 16) (.t 18))] [19]) (.cond (.t 19) (.seq (r [o 4 (.mv (i (-1)))] [4]) .ret) .skip)) (.seq (r [o 4 (.mv (i 1))] [4]) .ret)) .skip)) (.seq (.seq (r [o 20 (.mv (.t 0)),o 21 (.lenS (.t 20)),o 22 (.bin .sub (.t 21) (i 1)),o 5 (.mv (.t 22))] [0,1,5]) (.block 0 (.loop (.seq (.seq (r [o 23 (.mv (.t 5)),o 24 (.bin .geq (.t 23) (i 0))] [0,1,5,24]) (.cond (.t 24) .skip (.exit 0))) (.seq (.block 1 (.seq (r [o 27 (.mv (.t 0)),o 28 (.mv (.t 5)),o 29 (.ixA 1 (.t 27) (.t 28)),o 30 (.ld none (.t 29)),o 31 (.mv (.t 1)),o 32 (.mv (.t 5)),o 33 (.ixA 1 (.t 31) (.t 32)),o 34 (.ld none (.t 33)),o 35 (.bin .neq (.t 30) (.t 34))] [0,1,5,35]) (.cond (.t 35) (.seq (.seq (r [o 36 (.mv (.t 0)),o 37 (.mv (.t 5)),o 38 (.ixA 1 (.t 36) (.t 37)),o 39 (.ld none (.t 38)),o 40 (.mv (.t 1)),o 41 (.mv (.t 5)),o 42 (.ixA 1 (.t 40) (.t 41)),o 43 (.ld none (.t 42)),o 44 (.bin .lss (.t 39) (.t 43))] [44]) (.cond (.t 44) (.seq (r [o 4 (.mv (i (-1)))] [4]) .ret) .skip)) (.seq (r [o 4 (.mv (i 1))] [4]) .ret)) .skip))) (r [o 25 (.mv (.t 5)),o 26 (.bin .sub (.t 25) (i 1)),o 5 (.mv (.t 26))] [0,1,5])))))) (.seq (r [o 4 (.mv (i 0))] [4]) .ret))))),[.t 4]⟩
theorem ref01_Compare_ok : cFn Tryz.prog (kps [[0,1],[0,1],[0,1,14],[19],[4],[4],[0,1,5],[0,1,5,24],[0,1,5],[0,1,5,35],[44],[4],[4],[4]]) [] 68 = some ref01_Compare_c := by kernel_rfl
abbrev ref01_Add : Nat := 67
def ref01_Add_c : MFn := ⟨44,(.seq (r [o 4 (.mv (.c .nils))] [0,1]) (.seq (r [o 5 (.mv (.c .nils))] [0,1,5]) (.seq (r [o 6 (.mv (.c (.int .u64 0)))] [0,1,5,6]) (.seq (.seq (r [o 7 (.mv (i 0))] [0,1,5,6,7]) (.block 0 (.loop (.seq (.seq (r [o 9 (.mv (.t 7)),o 10 (.mv (.t 0)),o 11 (.lenS (.t 10)),o 12 (.bin .lss (.t 9) (.t 11)),o 13 (.mv (.t 12)),n 14 13 (.mv (.t 7)),n 15 13 (.mv (.t 1)),n 16 13 (.lenS (.t 15)),n 17 13 (.bin .lss (.t 14) (.t 16)),o 18 (.pick (.t 13) (.c (.bool true)) (.t 17)),o 19 (.mv (.t 18)),n 20 19 (.mv (.t 6)),n 21 19 (.bin .gtr (.t 20) (.c (.int .u64 0))),o 22 (.pick (.t 19) (.c (.bool true)) (.t 21))] [0,1,5,6,7,22]) (.cond (.t 22) .skip (.exit 0))) (.seq (.block 1 (.seq (r [o 25 (.mv (.t 0)),o 26 (.mv (.t 7)),o 27 (.call 94 [(.t 25),(.t 26)]),o 28 (.mv (.t 1)),o 29 (.mv (.t 7)),o 30 (.call 94 [(.t 28),(.t 29)]),o 31 (.bin .add (.t 27) (.t 30)),o 32 (.mv (.t 6)),o 33 (.bin .add (.t 31) (.t 32)),o 8 (.mv (.t 33))] [0,1,5,7,8]) (.seq (r [o 34 (.mv (.t 5)),o 35 (.mv (.t 8)),o 36 (.bin .rem (.t 35) (.c (.int .u64 4294967296))),o 37 (.cvt .u32 (.t 36)),o 38 (.buildSl 1 1 [.int .u32 0] [(0,(.t 37))]),o 39 (.app 1 4 (.t 34) (.t 38)),o 5 (.mv (.t 39))] [0,1,5,7,8]) (r [o 40 (.mv (.t 8)),o 41 (.bin .quo (.t 40) (.c (.int .u64 4294967296))),o 6 (.mv (.t 41))] [0,1,5,6,7])))) (r [o 23 (.mv (.t 7)),o 24 (.bin .add (.t 23) (i 1)),o 7 (.mv (.t 24))] [0,1,5,6,7])))))) (.seq (r [o 42 (.mv (.t 5)),o 43 (.call 92 [(.t 42)]),o 4 (.mv (.t 43))] [4]) .ret))))),[.t 4]⟩
theorem ref01_Add_ok : cFn Tryz.prog (kps [[0,1],[0,1,5],[0,1,5,6],[0,1,5,6,7],[0,1,5,6,7,22],[0,1,5,6,7],[0,1,5,7,8],[0,1,5,7,8],[0,1,5,6,7],[4]]) [] 67 = some ref01_Add_c := by kernel_rfl
abbrev ref01_short : Nat := 107
def ref01_short_c : MFn := ⟨41,(.seq (r [o 4 (.mv (.c .nils)),o 5 (.mv (.c (.int .u64 0)))] [0,1]) (.seq (r [o 10 (.mv (.t 0)),o 11 (.lenS (.t 10)),o 12 (.mkSl 1 4 [.int .u32 0] (.t 11) (.t 11)),o 6 (.mv (.t 12))] [0,1,6]) (.seq (r [o 7 (.mv (.c (.int .u64 0)))] [0,1,6,7]) (.seq (.seq (r [o 13 (.mv (.t 0)),o 14 (.lenS (.t 13)),o 15 (.bin .sub (.t 14) (i 1)),o 8 (.mv (.t 15))] [0,1,6,7,8]) (.block 0 (.loop (.seq (.seq (r [o 16 (.mv (.t 8)),o 17 (.bin .geq (.t 16) (i 0))] [0,1,6,7,8,17]) (.cond (.t 17) .skip (.exit 0))) (.seq (.block 1 (.seq (r [o 20 (.mv (.t 7)),o 21 (.bin .mul (.t 20) (.c (.int .u64 4294967296))),o 22 (.mv (.t 0)),o 23 (.mv (.t 8)),o 24 (.ixA 1 (.t 22) (.t 23)),o 25 (.ld none (.t 24)),o 26 (.cvt .u64 (.t 25)),o 27 (.bin .add (.t 21) (.t 26)),o 9 (.mv (.t 27))] [0,1,6,8,9]) (.seq (r [o 28 (.mv (.t 6)),o 29 (.mv (.t 8)),o 30 (.mv (.t 9)),o 31 (.mv (.t 1)),o 32 (.bin .quo (.t 30) (.t 31)),o 33 (.cvt .u32 (.t 32)),o 34 (.ixA 1 (.t 28) (.t 29)),z (.st 1 (.t 34) (.t 33))] [0,1,6,8,9]) (r [o 35 (.mv (.t 9)),o 36 (.mv (.t 1)),o 37 (.bin .rem (.t 35) (.t 36)),o 7 (.mv (.t 37))] [0,1,6,7,8])))) (r [o 18 (.mv (.t 8)),o 19 (.bin .sub (.t 18) (i 1)),o 8 (.mv (.t 19))] [0,1,6,7,8])))))) (.seq (r [o 38 (.mv (.t 6)),o 39 (.call 92 [(.t 38)]),o 40 (.mv (.t 7)),o 4 (.mv (.t 39)),o 5 (.mv (.t 40))] [4,5]) .ret))))),[.t 4,.t 5]⟩
theorem ref01_short_ok : cFn Tryz.prog (kps [[0,1],[0,1,6],[0,1,6,7],[0,1,6,7,8],[0,1,6,7,8,17],[0,1,6,7,8],[0,1,6,8,9],[0,1,6,8,9],[0,1,6,7,8],[4,5]]) [] 107 = some ref01_short_c := by kernel_rfl
abbrev ref01_half : Nat := 106
def ref01_half_c : MFn := ⟨12,(.seq (r [o 2 (.mv (.c .nils))] [0]) (.seq (r [o 6 (.mv (.t 0)),o 7 (.call 92 [(.t 6)]),o 8 (.call 107 [(.t 7),(.c (.int .u64 2))]),o 5 (.mv (.t 8)),o 9 (.ext (.t 5) 0),o 10 (.ext (.t 5) 1),o 3 (.mv (.t 9)),o 4 (.mv (.t 10))] [3]) (.seq (r [o 11 (.mv (.t 3)),o 2 (.mv (.t 11))] [2]) .ret))),[.t 2]⟩
theorem ref01_half_ok : cFn Tryz.prog (kps [[0],[3],[2]]) [] 106 = some ref01_half_c := by kernel_rfl
abbrev ref01_even : Nat := 105
def ref01_even_c : MFn := ⟨7,(.seq (r [o 2 (.mv (.c (.bool false)))] [0]) (.seq (r [o 3 (.mv (.t 0)),o 4 (.call 94 [(.t 3),(i 0)]),o 5 (.bin .rem (.t 4) (.c (.int .u64 2))),o 6 (.bin .eql (.t 5) (.c (.int .u64 0))),o 2 (.mv (.t 6))] [2]) .ret)),[.t 2]⟩
theorem ref01_even_ok : cFn Tryz.prog (kps [[0],[2]]) [] 105 = some ref01_even_c := by kernel_rfl
abbrev ref01_Mul : Nat := 66
def ref01_Mul_c : MFn := ⟨73,(.seq (r [o 4 (.mv (.c .nils))] [0,1]) (.seq (r [o 10 (.mv (.t 0)),o 11 (.call 92 [(.t 10)]),o 12 (.mv (.t 1)),o 13 (.call 92 [(.t 12)]),o 0 (.mv (.t 11)),o 1 (.mv (.t 13))] [0,1]) (.seq (r [o 14 (.mv (.t 0)),o 15 (.lenS (.t 14)),o 16 (.mv (.t 1)),o 17 (.lenS (.t 16)),o 18 (.bin .add (.t 15) (.t 17)),o 19 (.mkSl 1 4 [.int .u32 0] (.t 18) (.t 18)),o 5 (.mv (.t 19))] [0,1,5]) (.seq (.seq (r [o 6 (.mv (i 0))] [0,1,5,6]) (.block 0 (.loop (.seq (.seq (r [o 20 (.mv (.t 6)),o 21 (.mv (.t 0)),o 22 (.lenS (.t 21)),o 23 (.bin .lss (.t 20) (.t 22))] [0,1,5,6,23]) (.cond (.t 23) .skip (.exit 0))) (.seq (.block 1 (.seq (r [o 7 (.mv (.c (.int .u64 0)))] [0,1,5,6,7]) (.seq (.seq (r [o 8 (.mv (i 0))] [0,1,5,6,7,8]) (.block 2 (.loop (.seq (.seq (r [o 26 (.mv (.t 8)),o 27 (.mv (.t 1)),o 28 (.lenS (.t 27)),o 29 (.bin .lss (.t 26) (.t 28))] [0,1,5,6,7,8,29]) (.cond (.t 29) .skip (.exit 2))) (.seq (.block 3 (.seq (r [o 32 (.mv (.t 0)),o 33 (.mv (.t 6)),o 34 (.ixA 1 (.t 32) (.t 33)),o 35 (.ld none (.t 34)),o 36 (.cvt .u64 (.t 35)),o 37 (.mv (.t 1)),o 38 (.mv (.t 8)),o 39 (.ixA 1 (.t 37) (.t 38)),o 40 (.ld none (.t 39)),o 41 (.cvt .u64 (.t 40)),o 42 (.bin .mul (.t 36) (.t 41)),o 43 (.mv (.t 5)),o 44 (.mv (.t 6)),o 45 (.mv (.t 8)),o 46 (.bin .add (.t 44) (.t 45)),o 47 (.ixA 1 (.t 43) (.t 46)),o 48 (.ld none (.t 47)),o 49 (.cvt .u64 (.t 48)),o 50 (.bin .add (.t 42) (.t 49)),o 51 (.mv (.t 7)),o 52 (.bin .add (.t 50) (.t 51)),o 9 (.mv (.t 52))] [0,1,5,6,8,9]) (.seq (r [o 53 (.mv (.t 5)),o 54 (.mv (.t 6)),o 55 (.mv (.t 8)),o 56 (.bin .add (.t 54) (.t 55)),o 57 (.mv (.t 9)),o 58 (.bin .rem (.t 57) (.c (.int .u64 4294967296))),o 59 (.cvt .u32 (.t 58)),o 60 (.ixA 1 (.t 53) (.t 56)),z (.st 1 (.t 60) (.t 59))] [0,1,5,6,8,9]) (r [o 61 (.mv (.t 9)),o 62 (.bin .quo (.t 61) (.c (.int .u64 4294967296))),o 7 (.mv (.t 62))] [0,1,5,6,7,8])))) (r [o 30 (.mv (.t 8)),o 31 (.bin .add (.t 30) (i 1)),o 8 (.mv (.t 31))] [0,1,5,6,7,8])))))) (r [o 63 (.mv (.t 5)),o 64 (.mv (.t 6)),o 65 (.mv (.t 1)),o 66 (.lenS (.t 65)),o 67 (.bin .add (.t 64) (.t 66)),o 68 (.mv (.t 7)),o 69 (.cvt .u32 (.t 68)),o 70 (.ixA 1 (.t 63) (.t 67)),z (.st 1 (.t 70) (.t 69))] [0,1,5,6])))) (r [o 24 (.mv (.t 6)),o 25 (.bin .add (.t 24) (i 1)),o 6 (.mv (.t 25))] [0,1,5,6])))))) (.seq (r [o 71 (.mv (.t 5)),o 72 (.call 92 [(.t 71)]),o 4 (.mv (.t 72))] [4]) .ret))))),[.t 4]⟩
theorem ref01_Mul_ok : cFn Tryz.prog (kps [[0,1],[0,1],[0,1,5],[0,1,5,6],[0,1,5,6,23],[0,1,5,6],[0,1,5,6,7],[0,1,5,6,7,8],[0,1,5,6,7,8,29],[0,1,5,6,7,8],[0,1,5,6,8,9],[0,1,5,6,8,9],[0,1,5,6,7,8],[0,1,5,6],[4]]) [] 66 = some ref01_Mul_c := by kernel_rfl
abbrev ref01_Sub : Nat := 69
def ref01_Sub_c : MFn := ⟨44,(.seq (r [o 4 (.mv (.c .nils)),o 5 (.mv (i 0))] [0,1]) (.seq (.seq (r [o 10 (.mv (.t 0)),o 11 (.mv (.t 1)),o 12 (.call 68 [(.t 10),(.t 11)]),o 13 (.bin .lss (.t 12) (i 0))] [0,1,13]) (.cond (.t 13) (.seq (r [o 4 (.mv (.c .nils)),o 5 (.mv (i 1))] [4,5]) .ret) .skip)) (.seq (r [o 6 (.mv (.c .nils))] [0,1,6]) (.seq (r [o 7 (.mv (.c (.int .u64 0)))] [0,1,6,7]) (.seq (.seq (r [o 8 (.mv (i 0))] [0,1,6,7,8]) (.block 0 (.loop (.seq (.seq (r [o 14 (.mv (.t 8)),o 15 (.mv (.t 0)),o 16 (.lenS (.t 15)),o 17 (.bin .lss (.t 14) (.t 16))] [0,1,6,7,8,17]) (.cond (.t 17) .skip (.exit 0))) (.seq (.block 1 (.seq (r [o 20 (.mv (.t 1)),o 21 (.mv (.t 8)),o 22 (.call 94 [(.t 20),(.t 21)]),o 23 (.mv (.t 7)),o 24 (.bin .add (.t 22) (.t 23)),o 9 (.mv (.t 24))] [0,1,6,8,9]) (.seq (r [o 7 (.mv (.c (.int .u64 0)))] [0,1,6,7,8,9]) (.seq (.seq (r [o 25 (.mv (.t 0)),o 26 (.mv (.t 8)),o 27 (.call 94 [(.t 25),(.t 26)]),o 28 (.mv (.t 9)),o 29 (.bin .lss (.t 27) (.t 28))] [0,1,6,7,8,9,29]) (.cond (.t 29) (r [o 7 (.mv (.c (.int .u64 1)))] [0,1,6,7,8,9]) .skip)) (r [o 30 (.mv (.t 6)),o 31 (.mv (.t 0)),o 32 (.mv (.t 8)),o 33 (.call 94 [(.t 31),(.t 32)]),o 34 (.mv (.t 7)),o 35 (.bin .mul (.t 34) (.c (.int .u64 4294967296))),o 36 (.bin .add (.t 33) (.t 35)),o 37 (.mv (.t 9)),o 38 (.bin .sub (.t 36) (.t 37)),o 39 (.cvt .u32 (.t 38)),o 40 (.buildSl 1 1 [.int .u32 0] [(0,(.t 39))]),o 41 (.app 1 4 (.t 30) (.t 40)),o 6 (.mv (.t 41))] [0,1,6,7,8]))))) (r [o 18 (.mv (.t 8)),o 19 (.bin .add (.t 18) (i 1)),o 8 (.mv (.t 19))] [0,1,6,7,8])))))) (.seq (r [o 42 (.mv (.t 6)),o 43 (.call 92 [(.t 42)]),o 4 (.mv (.t 43)),o 5 (.mv (i 0))] [4,5]) .ret)))))),[.t 4,.t 5]⟩
theorem ref01_Sub_ok : cFn Tryz.prog (kps [[0,1],[0,1,13],[4,5],[0,1,6],[0,1,6,7],[0,1,6,7,8],[0,1,6,7,8,17],[0,1,6,7,8],[0,1,6,8,9],[0,1,6,7,8,9],[0,1,6,7,8,9,29],[0,1,6,7,8,9],[0,1,6,7,8],[4,5]]) [] 69 = some ref01_Sub_c := by kernel_rfl
end Go.Proofs.YtkockkfmjmheeaaGreat.F

namespace Go.Proofs.YtkockkfmjmheeaaGreat
open Go Go.Proofs Go.Proofs.YtkockkfmjmheeaaGreat.E
set_option linter.unusedSimpArgs false
set_option linter.unusedVariables false
theorem ref01_trim {l : List Int} (hd : Dig l) (hl : l.length ≤ 2 ^ 37) : CallD Tryz.prog F.ref01_trim [nat l] (· = nat (digs (val l))) := by
 have hc0 := cut0_le l l.length
 rw [← trim_eq hd]
 refine callD_by F.ref01_trim_ok ?_
 unfold F.ref01_trim_c
 simp
 refine wm_loop (fun k : Nat => ((Sl.empty.set 3 (.int .i64 k)).set 0 (nat l), [])) (fun k => k ≤ l.length ∧ cut0 l k = cut0 l l.length) id l.length ⟨Nat.le_refl _, rfl⟩ ?_ ?_
 ·exact weak_plain (fun _ _ h => h) (sin_set (by simp) (sin_set (by simp) sin_empty))
 intro k ⟨hk, hc⟩
 by_cases h0 : 0 < k
 ·simp [h0]
  repeat simp (disch := omega) [wrap64, if_pos]
  obtain ⟨k, rfl⟩ : ∃ k', k = k' + 1 := ⟨k - 1, by omega⟩
  have hk1 : k < l.length := by omega
  simp [cut0, hk1] at hc
  refine ⟨fun h => ?_, fun h => ?_⟩
  ·simp at h; simp [h] at hc
   exact ⟨k, ⟨by omega, hc⟩, by show k < k + 1; omega, weak_plain (by simp; exact fun _ _ h => h) (sin_set (by simp) (sin_set (by simp) sin_empty))⟩
  ·simp at h
   simp [h] at hc
   rw [← hc]
   have hlen : (l.take (k + 1)).length = k + 1 := by simp; omega
   generalize l.take (k + 1) = m at *
   cases m with
   | nil => simp at hlen
   | cons d m =>
     have e : dg (d :: m) = [.int .u32 d] :: dg m := rfl
     simp at hlen
     subst hlen
     rw [e]
     simp
     rw [← e, if_pos (by omega)]
     simp
     rw [toD_digs (st := .own) (l := d :: m) (by simp) (by simp) (by simp)]
     simp
 ·have hk0 : k = 0 := by omega
  subst hk0
  have hz : cut0 l l.length = 0 := by rw [← hc]; rfl
  simp [hz]
theorem ref01_Of {n : Int} (h0 : 0 ≤ n) (h1 : n < 18446744073709551616) : CallD Tryz.prog F.ref01_Of [.int .u64 n] (· = nat (digs n)) := by
 have hD : Dig [n % 4294967296, n / 4294967296 % 4294967296] := Dig.cons (by omega) (by omega) (Dig.cons (by omega) (by omega) Dig.nil)
 have hv : val [n % 4294967296, n / 4294967296 % 4294967296] = n := by simp; omega
 refine callD_by F.ref01_Of_ok ?_
 unfold F.ref01_Of_c
 simp
 refine callK_of (ref01_trim hD (by simp)) (by simp; rw [toD_digs (st := .own) (l := [n % 4294967296, n / 4294967296 % 4294967296]) (by simp) (by simp) (by simp)]; simp) ?_
 rw [hv]
 simp
theorem ref01_at {l : List Int} {i : Nat} (hd : Dig l) (hl : l.length ≤ 2 ^ 37) : CallD Tryz.prog F.ref01_at [nat l, .int .i64 i] (· = .int .u64 (l.getD i 0)) := by
 refine callD_by F.ref01_at_ok ?_
 unfold F.ref01_at_c
 by_cases hi : i < l.length
 ·have := hd.get hi
  simp [hi]
  repeat simp (disch := omega) [wrapU64]
 ·simp [hi]
theorem ref01_Small {l : List Int} (hd : Dig l) (hl : l.length ≤ 2 ^ 37) : CallD Tryz.prog F.ref01_Small [nat l] (· = smallV (val l)) := by
 refine callD_by F.ref01_Small_ok ?_
 unfold F.ref01_Small_c
 simp
 refine callK_of (ref01_trim hd (by omega)) (by simp) ?_
 have hn := val_nonneg hd
 generalize val l = n at *
 by_cases h0 : n = 0
 ·subst h0
  simp [smallV]
 ·have e1 := digs_pos (n := n) (by omega)
  by_cases h1 : n / 4294967296 = 0
  ·rw [h1] at e1
   simp [e1]
   repeat simp (disch := omega) [wrapU64]
   have : n % 4294967296 = n := by omega
   simp [smallV, this]; omega
  ·have e2 := digs_pos (n := n / 4294967296) (by omega)
   rw [e2] at e1
   by_cases h2 : n / 4294967296 / 4294967296 = 0
   ·rw [h2] at e1
    simp [e1]
    repeat simp (disch := omega) [wrapU64, or_low]
    have : n / 4294967296 % 4294967296 * 4294967296 + n % 4294967296 = n := by omega
    simp [smallV, this]; omega
   ·have e3 := digs_pos (n := n / 4294967296 / 4294967296) (by omega)
    rw [e3] at e1
    simp [e1]
    refine ⟨fun h => by omega, fun _ => ⟨fun h => by omega, fun _ => ⟨fun h => by omega, fun _ => ?_⟩⟩⟩
    simp [smallV]; omega
theorem ref01_Compare {a b : List Int} (ha : Dig a) (hb : Dig b) (la : a.length ≤ 2 ^ 37) (lb : b.length ≤ 2 ^ 37) : CallD Tryz.prog F.ref01_Compare [nat a, nat b] (· = .int .i64 (if val a < val b then -1 else if val b < val a then 1 else 0)) := by
 refine callD_by F.ref01_Compare_ok ?_
 unfold F.ref01_Compare_c
 simp
 refine callK_of (ref01_trim ha (by omega)) (by simp) ?_
 simp
 refine callK_of (ref01_trim hb (by omega)) (by simp) ?_
 simp
 have h1 := digs_le_of ha
 have h2 := digs_le_of hb
 have n1 := val_nonneg ha
 have n2 := val_nonneg hb
 generalize val a = x at *
 generalize val b = y at *
 refine ⟨fun h => ⟨fun h' => ?_, fun h' => ?_⟩, fun h => ?_⟩
 ·have := digs_lt_of_length n1 h'
  intro; omega
 ·have := digs_lt_of_length (x := y) (y := x) n2 (by omega)
  have h3 : ¬ x < y := by omega
  simp [h3, this]
 ·have hl : (digs x).length = (digs y).length := by omega
  repeat simp (disch := omega) [wrap64]
  refine wm_loop (fun k : Nat => (((Sl.empty.set 5 (.int .i64 ((k : Int) - 1))).set 1 (nat (digs y))).set 0 (nat (digs x)), [])) (fun k => k ≤ (digs x).length ∧ (digs x).drop k = (digs y).drop k) id (digs x).length ⟨Nat.le_refl _, by rw [List.drop_length, hl, List.drop_length]⟩ ?_ ?_
  ·exact weak_plain (fun _ _ h => h) (by repeat (first | exact sin_empty | refine sin_set (by simp) ?_))
  rintro k ⟨hk, hd⟩
  dsimp only
  cases k with
  | zero =>
    have e : x = y := digs_inj n1 n2 (by simpa using hd)
    subst e
    simp
  | succ k =>
    have hkx : k < (digs x).length := by omega
    have hky : k < (digs y).length := by omega
    have c1 : ((k + 1 : Nat) : Int) - 1 = k := by omega
    simp [c1, hkx, hky]
    repeat simp (disch := omega) [wrap64, if_pos]
    refine ⟨fun h => ⟨fun h' => ?_, fun h' => ?_⟩, fun h => ?_⟩
    ·have := val_lt_of (digs_dig x) (digs_dig y) hkx hky hd h'
     rw [val_digs n1, val_digs n2] at this
     intro; omega
    ·have := val_lt_of (digs_dig y) (digs_dig x) hky hkx hd.symm (by omega)
     rw [val_digs n1, val_digs n2] at this
     have h3 : ¬ x < y := by omega
     simp [h3, this]
    ·refine ⟨k, ⟨by omega, ?_⟩, by show k < k + 1; omega, weak_plain (fun _ _ h => h) (by repeat (first | exact sin_empty | refine sin_set (by simp) ?_))⟩
     rw [List.drop_eq_getElem_cons hkx, List.drop_eq_getElem_cons hky, hd, h]
end Go.Proofs.YtkockkfmjmheeaaGreat

namespace Go.Proofs.YtkockkfmjmheeaaGreat
open Go Go.Proofs Go.Proofs.YtkockkfmjmheeaaGreat.E
set_option linter.unusedSimpArgs false
set_option linter.unusedVariables false
namespace RAdd
variable (a b : List Int)
def st (g : Nat × Int × List Int) : Sl × Sto := (((((Sl.empty.set 7 (.int .i64 g.2.2.length)).set 6 (.int .u64 g.2.1)).set 5 (outV g.1 g.2.2)).set 1 (nat b)).set 0 (nat a), outS g.1 g.2.2)
def inv (g : Nat × Int × List Int) : Prop := Dig g.2.2 ∧ g.2.2.length ≤ max a.length b.length + 1 ∧ (0 ≤ g.2.1 ∧ g.2.1 ≤ 1) ∧ (0 < g.2.1 → g.2.2.length ≤ max a.length b.length) ∧ val g.2.2 + 4294967296 ^ g.2.2.length * g.2.1 = val (a.take g.2.2.length) + val (b.take g.2.2.length)
def ms (g : Nat × Int × List Int) : Nat := max a.length b.length + 1 - g.2.2.length
theorem take_next {l : List Int} {i : Nat} : val (l.take (i + 1)) = val (l.take i) + 4294967296 ^ i * l.getD i 0 := by
 by_cases h : i < l.length
 ·rw [val_take_succ h]; simp [h]
 ·rw [List.take_of_length_le (by omega), List.take_of_length_le (by omega)]; simp [h]
theorem getD_dig {l : List Int} (h : Dig l) (i : Nat) : 0 ≤ l.getD i 0 ∧ l.getD i 0 < 4294967296 := by
 by_cases hi : i < l.length
 ·simpa [hi] using h.get hi
 ·simp [hi]
theorem body {a b : List Int} (ha : Dig a) (hb : Dig b) (la : a.length ≤ 2 ^ 36) (lb : b.length ≤ 2 ^ 36) {o : Nat} {c : Int} {out : List Int} (hg : inv a b (o, c, out)) (hgo : out.length < a.length ∨ out.length < b.length ∨ 0 < c) (Q : Ex → Sl → Sto → Prop) :
 WpM Tryz.prog [] F.ref01_Add_c.body.tl.tl.tl.hd.tl.inn.inn.tl ((((((Sl.empty.set 22 (.bool true)).set 7 (.int .i64 out.length)).set 6 (.int .u64 c)).set 5 (outV o out)).set 1 (nat b)).set 0 (nat a)) (outS o out) (Rnd [] (st a b) (inv a b) (ms a b) (o, c, out) Q) := by
 obtain ⟨hD, hlen, ⟨hc0, hc1⟩, hcm, hv⟩ := hg
 dsimp only at hD hlen hc0 hc1 hcm hv
 have ga := getD_dig ha out.length
 have gb := getD_dig hb out.length
 have ta := take_next (l := a) (i := out.length)
 have tb := take_next (l := b) (i := out.length)
 unfold F.ref01_Add_c
 simp [MCode.tl, MCode.hd, MCode.inn]
 refine callK_of (ref01_at (i := out.length) ha (by omega)) (by simp) ?_
 simp
 refine callK_of (ref01_at (i := out.length) hb (by omega)) (by simp) ?_
 have xa : a.length ≤ out.length → a.getD out.length 0 = 0 := fun h => by simp [h]
 have xb : b.length ≤ out.length → b.getD out.length 0 = 0 := fun h => by simp [h]
 simp only [List.getD_eq_getElem?_getD] at ga gb ta tb xa xb ⊢
 generalize a[out.length]?.getD 0 = x at *
 generalize b[out.length]?.getD 0 = y at *
 have fin : ∀ o', inv a b (o', (x + y + c) / 4294967296, out ++ [(x + y + c) % 4294967296]) := by
  intro o'
  refine ⟨hD.snoc (by omega) (by omega), by simp; omega, by dsimp only; omega, ?_, ?_⟩
  ·intro h
   dsimp only at h
   simp
   omega
  ·simp only [List.length_append, List.length_singleton]
   rw [ta, tb, val_snoc, Int.pow_succ]
   exact ring_a hv (by rw [Int.emod_add_mul_ediv]; omega)
 have dec : ∀ o', ms a b (o', (x + y + c) / 4294967296, out ++ [(x + y + c) % 4294967296]) < ms a b (o, c, out) := by
  intro o'
  simp [ms]; omega
 have hlb : out.length ≤ 2 ^ 36 + 1 := by omega
 simp
 cases out with
 | nil =>
   repeat simp (disch := omega) [wrap64, wrapU64, if_pos, Int.tdiv_eq_ediv_of_nonneg, Int.tmod_eq_emod_of_nonneg]
   generalize fresh _ = o'
   refine ⟨_, fin o', dec o', ?_⟩
   simp only [st]
   refine weak_out ?_ ?_ ?_
   ·simp; exact fun _ _ h => h
   ·intro _
    simp; rfl
   ·simp
    repeat (refine sin_set (by simp [E.look]) ?_)
    exact sin_empty
 | cons d0 out =>
   simp at hlb
   repeat simp (disch := omega) [wrap64, wrapU64, if_pos, Int.tdiv_eq_ediv_of_nonneg, Int.tmod_eq_emod_of_nonneg]
   generalize fresh _ = o'
   refine ⟨_, fin o', dec o', ?_⟩
   simp only [st]
   refine weak_out ?_ ?_ ?_
   ·simp; exact fun _ _ h => h
   ·intro _
    simp
   ·simp
    repeat (refine sin_set (by simp [E.look]) ?_)
    exact sin_empty
end RAdd
theorem ref01_Add {a b : List Int} (ha : Dig a) (hb : Dig b) (la : a.length ≤ 2 ^ 36) (lb : b.length ≤ 2 ^ 36) : CallD Tryz.prog F.ref01_Add [nat a, nat b] (· = nat (digs (val a + val b))) := by
 have body := @RAdd.body
 unfold F.ref01_Add_c at body
 refine callD_by F.ref01_Add_ok ?_
 unfold F.ref01_Add_c
 simp
 refine wm_loop (RAdd.st a b) (RAdd.inv a b) (RAdd.ms a b) (0, 0, []) ⟨Dig.nil, by simp, by simp, by simp, by simp⟩ ?_ ?_
 ·simp only [RAdd.st]
  exact weak_out (o := 0) (l := []) (fun _ _ h => h) (by simp) (by repeat (first | exact sin_empty | refine sin_set (by simp) ?_))
 rintro ⟨o, c, out⟩ hg
 have body := fun hgo Q => body ha hb la lb hg hgo Q
 obtain ⟨hD, hlen, ⟨hc0, hc1⟩, hcm, hv⟩ := hg
 dsimp only at hD hlen hc0 hc1 hcm hv
 by_cases h1 : out.length < a.length
 ·have := body (.inl h1)
  simp [RAdd.st, h1]
  simpa [MCode.tl, MCode.hd, MCode.inn] using this _
 ·by_cases h2 : out.length < b.length
  ·have := body (.inr (.inl h2))
   simp [RAdd.st, h1, h2]
   simpa [MCode.tl, MCode.hd, MCode.inn] using this _
  ·by_cases h3 : 0 < c
   ·have := body (.inr (.inr h3))
    simp [RAdd.st, h1, h2, h3]
    simpa [MCode.tl, MCode.hd, MCode.inn] using this _
   ·have hc : c = 0 := by omega
    subst hc
    rw [List.take_of_length_le (by omega), List.take_of_length_le (by omega)] at hv
    simp at hv
    simp [RAdd.st, h1, h2]
    refine callK_of (ref01_trim (l := out) hD (by omega)) (by simp; rw [toD_out]) ?_
    simp [hv]
end Go.Proofs.YtkockkfmjmheeaaGreat

namespace Go.Proofs.YtkockkfmjmheeaaGreat
open Go Go.Proofs Go.Proofs.YtkockkfmjmheeaaGreat.E
set_option linter.unusedSimpArgs false
set_option linter.unusedVariables false
theorem ref01_short {a : List Int} {d : Int} (ha : Dig a) (la : a.length ≤ 2 ^ 36) (d0 : 0 < d) (d1 : d < 4294967296) : CallD Tryz.prog F.ref01_short [nat a, .int .u64 d] (· = .tup [nat (digs (val a / d)), .int .u64 (val a % d)]) := by
 refine callD_by F.ref01_short_ok ?_
 unfold F.ref01_short_c
 simp
 repeat simp (disch := omega) [wrap64, if_pos]
 refine wm_loop (fun g : Nat × Int × List Int => (((((Sl.empty.set 8 (.int .i64 ((g.1 : Int) - 1))).set 7 (.int .u64 g.2.1)).set 6 (.ref 0 0 a.length)).set 1 (.int .u64 d)).set 0 (nat a), [(0, ⟨.own, 1, dg g.2.2⟩)]))
  (fun g => Dig g.2.2 ∧ g.2.2.length = a.length ∧ g.1 ≤ a.length ∧ (0 ≤ g.2.1 ∧ g.2.1 < d) ∧ val (a.drop g.1) = d * val (g.2.2.drop g.1) + g.2.1) (fun g => g.1) (a.length, 0, List.replicate a.length 0) ⟨Dig.replicate _, by simp, by simp, by simp; omega, by simp⟩ ?_ ?_
 ·exact weak_digs (fun _ _ h => h) (by simp) (by repeat (first | exact sin_empty | refine sin_set (by simp) ?_))
 rintro ⟨k, r, o⟩ ⟨hD, hlen, hle, ⟨hr0, hr1⟩, hv⟩
 dsimp only at hD hlen hle hr0 hr1 hv ⊢
 cases k with
 | zero =>
   obtain ⟨e1, e2⟩ := div_unique hv hr0 hr1
   simp at e1 e2
   simp
   refine callK_of (ref01_trim (l := o) hD (by omega)) (by simp; rw [toD_digs (st := .own) (l := o) (by simp) (by simp) (by omega)]; simp [← hlen]) ?_
   simp [e1, e2]
 | succ k =>
   have hk : k < a.length := by omega
   have hak := ha.get hk
   have c1 : ((k + 1 : Nat) : Int) - 1 = k := by omega
   have hd0 : ¬ d = 0 := by omega
   simp [c1, hk, hd0]
   repeat simp (disch := omega) [wrap64, wrapU64, if_pos, Int.tdiv_eq_ediv_of_nonneg, Int.tmod_eq_emod_of_nonneg, hd0]
   have q0 : 0 ≤ (r * 4294967296 + a[k]) / d := Int.ediv_nonneg (by omega) (by omega)
   have q1 : (r * 4294967296 + a[k]) / d < 4294967296 := Int.ediv_lt_of_lt_mul d0 (by omega)
   have r0 := Int.emod_nonneg (r * 4294967296 + a[k]) hd0
   have r1 := Int.emod_lt_of_pos (r * 4294967296 + a[k]) d0
   have eq : IntKind.u64.wrap ((r * 4294967296 + a[k]) / d) % 4294967296 = (r * 4294967296 + a[k]) / d := by rw [wrapU64 q0 (by omega)]; exact Int.emod_eq_of_lt q0 q1
   rw [eq]
   refine ⟨(k, (r * 4294967296 + a[k]) % d, o.set k ((r * 4294967296 + a[k]) / d)), ⟨hD.set _ q0 q1, by simpa using hlen, by omega, ⟨r0, r1⟩, ?_⟩, ?_, weak_digs ?_ (by simp) ?_⟩
   ·dsimp only
    rw [drop_set_self (by omega), List.drop_eq_getElem_cons hk, val_cons, val_cons]
    exact short_step hv (by rw [Int.mul_comm]; exact Int.mul_ediv_add_emod _ _)
   ·simp
   ·simp; exact fun _ _ h => h
   ·repeat (refine sin_set (by simp) ?_)
    exact sin_empty
theorem ref01_half {a : List Int} (ha : Dig a) (la : a.length ≤ 2 ^ 36) : CallD Tryz.prog F.ref01_half [nat a] (· = nat (digs (val a / 2))) := by
 refine callD_by F.ref01_half_ok ?_
 unfold F.ref01_half_c
 simp
 refine callK_of (ref01_trim ha (by omega)) (by simp) ?_
 simp
 refine callK_of (ref01_short (digs_dig (val a)) (Nat.le_trans (digs_le_of ha) la) (d := 2) (by decide) (by decide)) (by simp) ?_
 rw [val_digs (val_nonneg ha)]
 simp
theorem ref01_even {a : List Int} (ha : Dig a) (la : a.length ≤ 2 ^ 36) : CallD Tryz.prog F.ref01_even [nat a] (· = .bool (decide (val a % 2 = 0))) := by
 refine callD_by F.ref01_even_ok ?_
 unfold F.ref01_even_c
 simp
 refine callK_of (ref01_at (i := 0) ha (by omega)) (by simp) ?_
 have h0 := RAdd.getD_dig ha 0
 have e : val a % 2 = a.getD 0 0 % 2 := by
  cases a with
  | nil => simp
  | cons d l => simp; omega
 rw [e]
 generalize a.getD 0 0 = x at *
 simp
 repeat simp (disch := omega) [Int.tmod_eq_emod_of_nonneg]
theorem mul_step' {out o a b : List Int} {i k : Nat} {c : Int} (hk : k < b.length) (hok : i + k < o.length) (hi : i < a.length)
 (gv : val (List.take (i + b.length) o) + 4294967296 ^ (i + k) * c = val (List.take (i + b.length) out) + 4294967296 ^ i * (a[i] * val (List.take k b))) :
 val (List.take (i + b.length) (o.set (i + k) ((a[i] * b[k] + o[i + k] + c) % 4294967296))) + 4294967296 ^ (i + (k + 1)) * ((a[i] * b[k] + o[i + k] + c) / 4294967296) = val (List.take (i + b.length) out) + 4294967296 ^ i * (a[i] * val (List.take (k + 1) b)) := by
 have := mul_step hk hok hi gv
 rw [show a[i] * b[k] + o[i + k] + c = c + (o[i + k] + a[i] * b[k]) from by omega]
 exact this
theorem ref01_Mul1 {S : Sl} {a b : List Int} (h0 : S 0 = some (nat a)) (h1 : S 1 = some (nat b)) (ha : Dig a) (hb : Dig b) (la : a.length ≤ 2 ^ 35) (lb : b.length ≤ 2 ^ 35) : WpM Tryz.prog [] F.ref01_Mul_c.body.tl.tl S [] (DoneD F.ref01_Mul_c.res (· = nat (digs (val a * val b)))) := by
 unfold F.ref01_Mul_c
 simp [MCode.tl, h0, h1]
 repeat simp (disch := omega) [wrap64, if_pos, h0, h1]
 refine wm_loop (fun g : Nat × List Int => ((((Sl.empty.set 6 (.int .i64 g.1)).set 5 (.ref 0 0 (a.length + b.length))).set 1 (nat b)).set 0 (nat a), [(0, ⟨.own, 1, dg g.2⟩)]))
  (fun g => Dig g.2 ∧ g.2.length = a.length + b.length ∧ g.1 ≤ a.length ∧ val (g.2.take (g.1 + b.length)) = val (a.take g.1) * val b) (fun g => a.length - g.1) (0, List.replicate (a.length + b.length) 0) ⟨Dig.replicate _, by simp, by simp, by simp [List.take_replicate]⟩ ?_ ?_
 ·exact weak_digs (fun _ _ h => h) (by simp) (by repeat (first | exact sin_empty | refine sin_set (by simp) ?_))
 rintro ⟨i, out⟩ ⟨hD, hlen, hle, hv⟩
 dsimp only at hD hlen hle hv ⊢
 by_cases hi : i < a.length
 ·have hai := ha.get hi
  simp [hi]
  refine wm_loop (fun g : Nat × Int × List Int => ((((((Sl.empty.set 8 (.int .i64 g.1)).set 7 (.int .u64 g.2.1)).set 6 (.int .i64 i)).set 5 (.ref 0 0 (a.length + b.length))).set 1 (nat b)).set 0 (nat a), [(0, ⟨.own, 1, dg g.2.2⟩)]))
   (fun g => Dig g.2.2 ∧ g.2.2.length = a.length + b.length ∧ g.1 ≤ b.length ∧ (0 ≤ g.2.1 ∧ g.2.1 < 4294967296) ∧ val (g.2.2.take (i + b.length)) + 4294967296 ^ (i + g.1) * g.2.1 = val (out.take (i + b.length)) + 4294967296 ^ i * (a[i] * val (b.take g.1))) (fun g => b.length - g.1) (0, 0, out) ⟨hD, hlen, by simp, by simp, by simp⟩ ?_ ?_
  ·exact weak_digs (fun _ _ h => h) (by simp) (by repeat (first | exact sin_empty | refine sin_set (by simp) ?_))
  rintro ⟨k, c, o⟩ ⟨gD, glen, gle, ⟨gc0, gc1⟩, gv⟩
  dsimp only at gD glen gle gc0 gc1 gv ⊢
  by_cases hk : k < b.length
  ·have hbk := hb.get hk
   have hm := mul_bound hai hbk
   have hok : i + k < o.length := by omega
   have hox := gD.get hok
   simp [hk, hi]
   repeat simp (disch := omega) [wrap64, wrapU64, if_pos, Int.tdiv_eq_ediv_of_nonneg, Int.tmod_eq_emod_of_nonneg]
   refine ⟨(k + 1, (a[i] * b[k] + o[i + k] + c) / 4294967296, o.set (i + k) ((a[i] * b[k] + o[i + k] + c) % 4294967296)), ⟨gD.set _ (by omega) (by omega), by simpa using glen, hk, ⟨by dsimp only; omega, by dsimp only; omega⟩, mul_step' hk hok hi gv⟩, ?_, weak_digs ?_ (by simp) ?_⟩
   ·simp; omega
   ·simp; exact fun _ _ h => h
   ·repeat (refine sin_set (by simp) ?_)
    exact sin_empty
  ·simp [hk]
   repeat simp (disch := omega) [wrap64, wrapU64, if_pos]
   have hkl : k = b.length := by omega
   subst hkl
   have hcm : c % 4294967296 = c := Int.emod_eq_of_lt gc0 gc1
   refine ⟨(i + 1, o.set (i + b.length) (c % 4294967296)), ⟨gD.set _ (by omega) (by omega), by simpa using glen, hi, ?_⟩, ?_, weak_digs ?_ (by simp) ?_⟩
   ·dsimp only
    rw [show i + 1 + b.length = i + b.length + 1 from by omega, take_set_succ (by omega), val_snoc, List.length_take, Nat.min_eq_left (by omega), hcm, val_take_succ hi]
    rw [List.take_length] at gv
    exact ring_e gv hv
   ·simp; omega
   ·simp; exact fun _ _ h => h
   ·repeat (refine sin_set (by simp) ?_)
    exact sin_empty
 ·simp [hi]
  have hia : i = a.length := by omega
  rw [List.take_of_length_le (by omega), List.take_of_length_le (by omega)] at hv
  refine callK_of (ref01_trim (l := out) hD (by omega)) (by simp; rw [toD_digs (st := .own) (l := out) (by simp) (by simp) (by omega)]; simp [← hlen]) ?_
  simp [hv]
theorem ref01_Mul {a b : List Int} (ha : Dig a) (hb : Dig b) (la : a.length ≤ 2 ^ 35) (lb : b.length ≤ 2 ^ 35) : CallD Tryz.prog F.ref01_Mul [nat a, nat b] (· = nat (digs (val a * val b))) := by
 refine callD_by F.ref01_Mul_ok ?_
 unfold F.ref01_Mul_c
 simp
 refine callK_of (ref01_trim ha (by omega)) (by simp) ?_
 simp
 refine callK_of (ref01_trim hb (by omega)) (by simp) ?_
 have h1 := digs_le_of ha
 have h2 := digs_le_of hb
 have := ref01_Mul1 (S := (Sl.empty.set 1 (nat (digs (val b)))).set 0 (nat (digs (val a)))) rfl rfl (digs_dig _) (digs_dig _) (by omega) (by omega)
 rw [val_digs (val_nonneg ha), val_digs (val_nonneg hb)] at this
 unfold F.ref01_Mul_c at this
 simpa [MCode.tl] using this
end Go.Proofs.YtkockkfmjmheeaaGreat

namespace Go.Proofs.YtkockkfmjmheeaaGreat
open Go Go.Proofs Go.Proofs.YtkockkfmjmheeaaGreat.E
set_option linter.unusedSimpArgs false
set_option linter.unusedVariables false
namespace RSub
variable (a b : List Int)
def st (g : Nat × Int × List Int) : Sl × Sto := (((((Sl.empty.set 8 (.int .i64 g.2.2.length)).set 7 (.int .u64 g.2.1)).set 6 (outV g.1 g.2.2)).set 1 (nat b)).set 0 (nat a), outS g.1 g.2.2)
def inv (g : Nat × Int × List Int) : Prop := Dig g.2.2 ∧ g.2.2.length ≤ a.length ∧ (0 ≤ g.2.1 ∧ g.2.1 ≤ 1) ∧ val g.2.2 = val (a.take g.2.2.length) - val (b.take g.2.2.length) + 4294967296 ^ g.2.2.length * g.2.1
def ms (g : Nat × Int × List Int) : Nat := a.length - g.2.2.length
end RSub
theorem ref01_Sub {a b : List Int} (ha : Dig a) (hb : Dig b) (la : a.length ≤ 2 ^ 36) (lb : b.length ≤ 2 ^ 36) : CallD Tryz.prog F.ref01_Sub [nat a, nat b] (· = subV (val a) (val b)) := by
 refine callD_by F.ref01_Sub_ok ?_
 unfold F.ref01_Sub_c
 simp
 refine callK_of (ref01_Compare ha hb (by omega) (by omega)) (by simp) ?_
 by_cases h : val a < val b
 ·simp [h, subV]
 ·have e : ¬ ((if val b < val a then 1 else 0 : Int) < 0) := by split <;> omega
  simp [h, e, subV]
  refine wm_loop (RSub.st a b) (RSub.inv a b) (RSub.ms a) (0, 0, []) ⟨Dig.nil, by simp, by simp, by simp⟩ ?_ ?_
  ·simp only [RSub.st]
   exact weak_out (o := 0) (l := []) (fun _ _ h => h) (by simp) (by repeat (first | exact sin_empty | refine sin_set (by simp) ?_))
  rintro ⟨o, c, out⟩ ⟨hD, hlen, ⟨hc0, hc1⟩, hv⟩
  dsimp only at hD hlen hc0 hc1 hv
  by_cases hi : out.length < a.length
  ·have ga := RAdd.getD_dig ha out.length
   have gb := RAdd.getD_dig hb out.length
   have ta := RAdd.take_next (l := a) (i := out.length)
   have tb := RAdd.take_next (l := b) (i := out.length)
   have k0 := ref01_at (l := b) (i := out.length) hb (by omega)
   have k1 := ref01_at (l := a) (i := out.length) ha (by omega)
   generalize a.getD out.length 0 = x at *
   generalize b.getD out.length 0 = y at *
   have fin : ∀ o' d c', d = x + 4294967296 * c' - (c + y) → 0 ≤ d → d < 4294967296 → 0 ≤ c' → c' ≤ 1 → RSub.inv a b (o', c', out ++ [d]) := by
    intro o' d c' h1 h2 h3 h4 h5
    refine ⟨hD.snoc h2 h3, by simp; omega, ⟨h4, h5⟩, ?_⟩
    simp only [List.length_append, List.length_singleton]
    rw [ta, tb, val_snoc, Int.pow_succ, hv, h1]
    exact ring_c
   simp [RSub.st, hi]
   refine callK_of k0 (by simp) ?_
   simp
   repeat simp (disch := omega) [wrapU64]
   refine callK_of k1 (by simp) ?_
   simp
   refine ⟨fun hlt => ?_, fun hge => ?_⟩
   ·refine callK_of k1 (by simp) ?_
    cases out with
    | nil =>
      repeat simp (disch := omega) [wrap64, wrapU64, if_pos]
      generalize fresh _ = o'
      refine ⟨_, fin o' _ 1 (show (x + 4294967296 - (y + c)) % 4294967296 = _ from by omega) (by omega) (by omega) (by omega) (by omega), by simp [RSub.ms]; omega, ?_⟩
      simp only [RSub.st]
      refine weak_out ?_ ?_ ?_
      ·simp; exact fun _ _ h => h
      ·intro _
       simp ; rfl
      ·simp
       repeat (refine sin_set (by simp [E.look]) ?_)
       exact sin_empty
    | cons d0 out =>
      simp at hlen hi
      repeat simp (disch := omega) [wrap64, wrapU64, if_pos]
      generalize fresh _ = o'
      refine ⟨_, fin o' _ 1 (show (x + 4294967296 - (y + c)) % 4294967296 = _ from by omega) (by omega) (by omega) (by omega) (by omega), by simp [RSub.ms]; omega, ?_⟩
      simp only [RSub.st]
      refine weak_out ?_ ?_ ?_
      ·simp; exact fun _ _ h => h
      ·intro _
       simp
      ·simp
       repeat (refine sin_set (by simp [E.look]) ?_)
       exact sin_empty
   ·refine callK_of k1 (by simp) ?_
    have e : IntKind.u64.wrap (x - (y + c)) = x - (y + c) := wrapU64 (by omega) (by omega)
    cases out with
    | nil =>
      repeat simp (disch := omega) [wrap64, wrapU64, if_pos, e]
      generalize fresh _ = o'
      refine ⟨_, fin o' _ 0 (show (x - (y + c)) % 4294967296 = _ from by omega) (by omega) (by omega) (by omega) (by omega), by simp [RSub.ms]; omega, ?_⟩
      simp only [RSub.st]
      refine weak_out ?_ ?_ ?_
      ·simp; exact fun _ _ h => h
      ·intro _
       simp ; rfl
      ·simp
       repeat (refine sin_set (by simp [E.look]) ?_)
       exact sin_empty
    | cons d0 out =>
      simp at hlen hi
      repeat simp (disch := omega) [wrap64, wrapU64, if_pos, e]
      generalize fresh _ = o'
      refine ⟨_, fin o' _ 0 (show (x - (y + c)) % 4294967296 = _ from by omega) (by omega) (by omega) (by omega) (by omega), by simp [RSub.ms]; omega, ?_⟩
      simp only [RSub.st]
      refine weak_out ?_ ?_ ?_
      ·simp; exact fun _ _ h => h
      ·intro _
       simp
      ·simp
       repeat (refine sin_set (by simp [E.look]) ?_)
       exact sin_empty
  ·have hl : out.length = a.length := by omega
   have e : val out = val a - val b := by
    have h3 := val_lt hD
    have h4 := val_nonneg hD
    have h5 := val_lt ha
    rw [hl] at hv h3
    rw [List.take_length] at hv
    have hbt : val (b.take a.length) = val b := by
     by_cases hbl : b.length ≤ a.length
     ·rw [List.take_of_length_le hbl]
     ·have h6 := val_split (l := b) (k := a.length) (by omega)
      have h7 := val_nonneg (hb.drop a.length)
      have h8 := val_nonneg (hb.take a.length)
      by_cases h9 : val (b.drop a.length) = 0
      ·rw [h9] at h6; omega
      ·have : 4294967296 ^ a.length * 1 ≤ 4294967296 ^ a.length * val (b.drop a.length) := Int.mul_le_mul_of_nonneg_left (by omega) (Int.le_of_lt (B_pow_pos _))
       omega
    rw [hbt] at hv
    by_cases hc : c = 1
    ·subst hc; omega
    ·have : c = 0 := by omega
     subst this; simpa using hv
   simp [RSub.st, hi]
   refine callK_of (ref01_trim (l := out) hD (by omega)) (by simp; rw [toD_out]) ?_
   simp [e]
end Go.Proofs.YtkockkfmjmheeaaGreat
