import Derived.Test.YtipbefckimdkkaaGreatHE
import Derived.Test.YtipbefckimdkkaaGreatIF
import Derived.Test.YtipbefckimdkkaaGreatGC
import Derived.Test.YtipbefckimdkkaaGreatProg
import Derived.KernelRfl
import Derived.Test.YtipbefckimdkkaaGreatGD
import Derived.Test.YtipbefckimdkkaaGreatGO
import Derived.Test.YtipbefckimdkkaaGreatGH
import Derived.Test.YtipbefckimdkkaaGreatGL
namespace Go.Proofs.YtipbefckimdkkaaGreat.F
open Go Go.Proofs Go.Proofs.YtipbefckimdkkaaGreat.E Go.Proofs.YtipbefckimdkkaaGreat.Q
abbrev slices_insertionSortCmpFunc_Ratio : Nat := 152
def slices_insertionSortCmpFunc_Ratio_c : MFn := ⟨53,(.seq (r [o 10 (.mv (.t 1)),o 11 (.bin .add (.t 10) (i 1)),o 8 (.mv (.t 11))] [0,1,2,3,8]) (.block 0 (.loop (.seq (.seq (r [o 12 (.mv (.t 8)),o 13 (.mv (.t 2)),o 14 (.bin .lss (.t 12) (.t 13))] [0,1,2,3,8,14]) (.cond (.t 14) .skip (.exit 0))) (.seq (.block 1 (.seq (r [o 17 (.mv (.t 8)),o 9 (.mv (.t 17))] [0,1,2,3,8,9]) (.block 2 (.loop (.seq (.seq (r [o 18 (.mv (.t 9)),o 19 (.mv (.t 1)),o 20 (.bin .gtr (.t 18) (.t 19)),o 21 (.mv (.t 20)),y 22 21 (.mv (.t 3)),y 23 21 (.mv (.t 0)),y 24 21 (.mv (.t 9)),y 25 21 (.ixA 3 (.t 23) (.t 24)),y 26 21 (.ld (some 3) (.t 25)),y 27 21 (.mv (.t 0)),y 28 21 (.mv (.t 9)),y 29 21 (.bin .sub (.t 28) (i 1)),y 30 21 (.ixA 3 (.t 27) (.t 29)),y 31 21 (.ld (some 3) (.t 30)),y 32 21 (.callVF (.t 22) [(.t 26),(.t 31)]),y 33 21 (.bin .lss (.t 32) (i 0)),o 34 (.pick (.t 21) (.t 33) (.c (.bool false)))] [0,1,2,3,8,9,34]) (.cond (.t 34) .skip (.exit 2))) (.seq (.block 3 (r [o 37 (.mv (.t 0)),o 38 (.mv (.t 9)),o 39 (.mv (.t 0)),o 40 (.mv (.t 9)),o 41 (.bin .sub (.t 40) (i 1)),o 42 (.mv (.t 0)),o 43 (.mv (.t 9)),o 44 (.bin .sub (.t 43) (i 1)),o 45 (.ixA 3 (.t 42) (.t 44)),o 46 (.ld (some 3) (.t 45)),o 47 (.mv (.t 0)),o 48 (.mv (.t 9)),o 49 (.ixA 3 (.t 47) (.t 48)),o 50 (.ld (some 3) (.t 49)),o 51 (.ixA 3 (.t 37) (.t 38)),z (.st 3 (.t 51) (.t 46)),o 52 (.ixA 3 (.t 39) (.t 41)),z (.st 3 (.t 52) (.t 50))] [0,1,2,3,8,9])) (r [o 35 (.mv (.t 9)),o 36 (.bin .sub (.t 35) (i 1)),o 9 (.mv (.t 36))] [0,1,2,3,8,9]))))))) (r [o 15 (.mv (.t 8)),o 16 (.bin .add (.t 15) (i 1)),o 8 (.mv (.t 16))] [0,1,2,3,8])))))),[]⟩
theorem slices_insertionSortCmpFunc_Ratio_ok : cFn Tryz.prog (kps [[0,1,2,3,8],[0,1,2,3,8,14],[0,1,2,3,8],[0,1,2,3,8,9],[0,1,2,3,8,9,34],[0,1,2,3,8,9],[0,1,2,3,8,9]]) [] 152 = some slices_insertionSortCmpFunc_Ratio_c := by kernel_rfl
abbrev slices_pdqsortCmpFunc_Ratio : Nat := 137
def slices_pdqsortCmpFunc_Ratio_c : MFn := ⟨148,(.seq (r [o 10 (.mv (.c (.bool true)))] [0,1,2,3,4,10]) (.seq (r [o 11 (.mv (.c (.bool true)))] [0,1,2,3,4,10,11]) (.block 0 (.loop (.block 1 (.seq (r [o 21 (.mv (.t 2)),o 22 (.mv (.t 1)),o 23 (.bin .sub (.t 21) (.t 22)),o 12 (.mv (.t 23))] [0,1,2,3,4,10,11,12]) (.seq (.seq (r [o 24 (.mv (.t 12)),o 25 (.bin .leq (.t 24) (i 12))] [0,1,2,3,4,10,11,12,25]) (.cond (.t 25) (.seq (r [o 26 (.mv (.t 0)),o 27 (.mv (.t 1)),o 28 (.mv (.t 2)),o 29 (.mv (.t 4)),o 30 (.call 152 [(.t 26),(.t 27),(.t 28),(.t 29)])] []) .ret) .skip)) (.seq (.seq (r [o 31 (.mv (.t 3)),o 32 (.bin .eql (.t 31) (i 0))] [0,1,2,3,4,10,11,12,32]) (.cond (.t 32) (.seq (r [o 33 (.mv (.t 0)),o 34 (.mv (.t 1)),o 35 (.mv (.t 2)),o 36 (.mv (.t 4)),o 37 (.call 153 [(.t 33),(.t 34),(.t 35),(.t 36)])] []) .ret) .skip)) (.seq (.seq (r [o 38 (.mv (.t 10)),o 39 (.un .not (.t 38))] [0,1,2,3,4,10,11,12,39]) (.cond (.t 39) (.seq (r [o 40 (.mv (.t 0)),o 41 (.mv (.t 1)),o 42 (.mv (.t 2)),o 43 (.mv (.t 4)),o 44 (.call 154 [(.t 40),(.t 41),(.t 42),(.t 43)])] [0,1,2,3,4,10,11,12]) (r [o 45 (.mv (.t 3)),o 46 (.bin .sub (.t 45) (i 1)),o 3 (.mv (.t 46))] [0,1,2,3,4,10,11,12])) .skip)) (.seq (r [o 48 (.mv (.t 0)),o 49 (.mv (.t 1)),o 50 (.mv (.t 2)),o 51 (.mv (.t 4)),o 52 (.call 155 [(.t 48),(.t 49),(.t 50),(.t 51)]),o 47 (.mv (.t 52)),o 53 (.ext (.t 47) 0),o 54 (.ext (.t 47) 1),o 13 (.mv (.t 53)),o 14 (.mv (.t 54))] [0,1,2,3,4,10,11,12,13,14]) (.seq (.seq (r [o 55 (.mv (.t 14)),o 56 (.bin .eql (.t 55) (i 2))] [0,1,2,3,4,10,11,12,13,14,56]) (.cond (.t 56) (.seq (r [o 57 (.mv (.t 0)),o 58 (.mv (.t 1)),o 59 (.mv (.t 2)),o 60 (.mv (.t 4)),o 61 (.call 156 [(.t 57),(.t 58),(.t 59),(.t 60)])] [0,1,2,3,4,10,11,12,13]) (.seq (r [o 62 (.mv (.t 2)),o 63 (.bin .sub (.t 62) (i 1)),o 64 (.mv (.t 13)),o 65 (.mv (.t 1)),o 66 (.bin .sub (.t 64) (.t 65)),o 67 (.bin .sub (.t 63) (.t 66)),o 13 (.mv (.t 67))] [0,1,2,3,4,10,11,12,13]) (r [o 14 (.mv (i 1))] [0,1,2,3,4,10,11,12,13,14]))) .skip)) (.seq (.seq (r [o 68 (.mv (.t 10)),o 69 (.mv (.t 68)),y 70 69 (.mv (.t 11)),o 71 (.pick (.t 69) (.t 70) (.c (.bool false))),o 72 (.mv (.t 71)),y 73 72 (.mv (.t 14)),y 74 72 (.bin .eql (.t 73) (i 1)),o 75 (.pick (.t 72) (.t 74) (.c (.bool false)))] [0,1,2,3,4,10,11,12,13,75]) (.cond (.t 75) (.seq (r [o 76 (.mv (.t 0)),o 77 (.mv (.t 1)),o 78 (.mv (.t 2)),o 79 (.mv (.t 4)),o 80 (.call 157 [(.t 76),(.t 77),(.t 78),(.t 79)])] [0,1,2,3,4,10,11,12,13,80]) (.cond (.t 80) .ret .skip)) .skip)) (.seq (.seq (r [o 81 (.mv (.t 1)),o 82 (.bin .gtr (.t 81) (i 0)),o 83 (.mv (.t 82)),y 84 83 (.mv (.t 4)),y 85 83 (.mv (.t 0)),y 86 83 (.mv (.t 1)),y 87 83 (.bin .sub (.t 86) (i 1)),y 88 83 (.ixA 3 (.t 85) (.t 87)),y 89 83 (.ld (some 3) (.t 88)),y 90 83 (.mv (.t 0)),y 91 83 (.mv (.t 13)),y 92 83 (.ixA 3 (.t 90) (.t 91)),y 93 83 (.ld (some 3) (.t 92)),y 94 83 (.callVF (.t 84) [(.t 89),(.t 93)]),y 95 83 (.bin .lss (.t 94) (i 0)),y 96 83 (.un .not (.t 95)),o 97 (.pick (.t 83) (.t 96) (.c (.bool false)))] [0,1,2,3,4,10,11,12,13,97]) (.cond (.t 97) (.seq (r [o 98 (.mv (.t 0)),o 99 (.mv (.t 1)),o 100 (.mv (.t 2)),o 101 (.mv (.t 13)),o 102 (.mv (.t 4)),o 103 (.call 158 [(.t 98),(.t 99),(.t 100),(.t 101),(.t 102)]),o 15 (.mv (.t 103))] [0,2,3,4,10,11,15]) (.seq (r [o 104 (.mv (.t 15)),o 1 (.mv (.t 104))] [0,1,2,3,4,10,11]) (.exit 1))) .skip)) (.seq (r [o 106 (.mv (.t 0)),o 107 (.mv (.t 1)),o 108 (.mv (.t 2)),o 109 (.mv (.t 13)),o 110 (.mv (.t 4)),o 111 (.call 159 [(.t 106),(.t 107),(.t 108),(.t 109),(.t 110)]),o 105 (.mv (.t 111)),o 112 (.ext (.t 105) 0),o 113 (.ext (.t 105) 1),o 16 (.mv (.t 112)),o 17 (.mv (.t 113))] [0,1,2,3,4,12,16,17]) (.seq (r [o 114 (.mv (.t 17)),o 11 (.mv (.t 114))] [0,1,2,3,4,11,12,16]) (.seq (r [o 115 (.mv (.t 16)),o 116 (.mv (.t 1)),o 117 (.bin .sub (.t 115) (.t 116)),o 118 (.mv (.t 2)),o 119 (.mv (.t 16)),o 120 (.bin .sub (.t 118) (.t 119)),o 18 (.mv (.t 117)),o 19 (.mv (.t 120))] [0,1,2,3,4,11,12,16,18,19]) (.seq (r [o 121 (.mv (.t 12)),o 122 (.bin .quo (.t 121) (i 8)),o 20 (.mv (.t 122))] [0,1,2,3,4,11,16,18,19,20]) (.seq (r [o 123 (.mv (.t 18)),o 124 (.mv (.t 19)),o 125 (.bin .lss (.t 123) (.t 124))] [0,1,2,3,4,11,16,18,19,20,125]) (.cond (.t 125) (.seq (r [o 126 (.mv (.t 18)),o 127 (.mv (.t 20)),o 128 (.bin .geq (.t 126) (.t 127)),o 10 (.mv (.t 128))] [0,1,2,3,4,10,11,16]) (.seq (r [o 129 (.mv (.t 0)),o 130 (.mv (.t 1)),o 131 (.mv (.t 16)),o 132 (.mv (.t 3)),o 133 (.mv (.t 4)),o 134 (.call 137 [(.t 129),(.t 130),(.t 131),(.t 132),(.t 133)])] [0,2,3,4,10,11,16]) (r [o 135 (.mv (.t 16)),o 136 (.bin .add (.t 135) (i 1)),o 1 (.mv (.t 136))] [0,1,2,3,4,10,11]))) (.seq (r [o 137 (.mv (.t 19)),o 138 (.mv (.t 20)),o 139 (.bin .geq (.t 137) (.t 138)),o 10 (.mv (.t 139))] [0,1,2,3,4,10,11,16]) (.seq (r [o 140 (.mv (.t 0)),o 141 (.mv (.t 16)),o 142 (.bin .add (.t 141) (i 1)),o 143 (.mv (.t 2)),o 144 (.mv (.t 3)),o 145 (.mv (.t 4)),o 146 (.call 137 [(.t 140),(.t 142),(.t 143),(.t 144),(.t 145)])] [0,1,3,4,10,11,16]) (r [o 147 (.mv (.t 16)),o 2 (.mv (.t 147))] [0,1,2,3,4,10,11])))))))))))))))))))))),[]⟩
theorem slices_pdqsortCmpFunc_Ratio_ok : cFn Tryz.prog (kps [[0,1,2,3,4,10],[0,1,2,3,4,10,11],[0,1,2,3,4,10,11,12],[0,1,2,3,4,10,11,12,25],[],[0,1,2,3,4,10,11,12,32],[],[0,1,2,3,4,10,11,12,39],[0,1,2,3,4,10,11,12],[0,1,2,3,4,10,11,12],[0,1,2,3,4,10,11,12,13,14],[0,1,2,3,4,10,11,12,13,14,56],[0,1,2,3,4,10,11,12,13],[0,1,2,3,4,10,11,12,13],[0,1,2,3,4,10,11,12,13,14],[0,1,2,3,4,10,11,12,13,75],[0,1,2,3,4,10,11,12,13,80],[0,1,2,3,4,10,11,12,13,97],[0,2,3,4,10,11,15],[0,1,2,3,4,10,11],[0,1,2,3,4,12,16,17],[0,1,2,3,4,11,12,16],[0,1,2,3,4,11,12,16,18,19],[0,1,2,3,4,11,16,18,19,20],[0,1,2,3,4,11,16,18,19,20,125],[0,1,2,3,4,10,11,16],[0,2,3,4,10,11,16],[0,1,2,3,4,10,11],[0,1,2,3,4,10,11,16],[0,1,3,4,10,11,16],[0,1,2,3,4,10,11]]) [] 137 = some slices_pdqsortCmpFunc_Ratio_c := by kernel_rfl
abbrev math_bits_Len64 : Nat := 161
def math_bits_Len64_c : MFn := ⟨25,(.seq (r [o 2 (.mv (i 0))] [0,2]) (.seq (.seq (r [o 3 (.mv (.t 0)),o 4 (.bin .geq (.t 3) (.c (.int .u64 4294967296)))] [0,2,4]) (.cond (.t 4) (.seq (r [o 5 (.mv (.t 0)),o 6 (.bin .shr (.t 5) (.c (.int .u64 32))),o 0 (.mv (.t 6))] [0]) (r [o 2 (.mv (i 32))] [0,2])) .skip)) (.seq (.seq (r [o 7 (.mv (.t 0)),o 8 (.bin .geq (.t 7) (.c (.int .u64 65536)))] [0,2,8]) (.cond (.t 8) (.seq (r [o 9 (.mv (.t 0)),o 10 (.bin .shr (.t 9) (.c (.int .u64 16))),o 0 (.mv (.t 10))] [0,2]) (r [o 11 (.mv (.t 2)),o 12 (.bin .add (.t 11) (i 16)),o 2 (.mv (.t 12))] [0,2])) .skip)) (.seq (.seq (r [o 13 (.mv (.t 0)),o 14 (.bin .geq (.t 13) (.c (.int .u64 256)))] [0,2,14]) (.cond (.t 14) (.seq (r [o 15 (.mv (.t 0)),o 16 (.bin .shr (.t 15) (.c (.int .u64 8))),o 0 (.mv (.t 16))] [0,2]) (r [o 17 (.mv (.t 2)),o 18 (.bin .add (.t 17) (i 8)),o 2 (.mv (.t 18))] [0,2])) .skip)) (.seq (r [o 19 (.mv (.t 2)),o 20 (.mv (.t 0)),o 21 (.cvt .u8 (.t 20)),o 22 (.ixS (.c (.str ⟨#[0,1,2,2,3,3,3,3,4,4,4,4,4,4,4,4,5,5,5,5,5,5,5,5,5,5,5,5,5,5,5,5,6,6,6,6,6,6,6,6,6,6,6,6,6,6,6,6,6,6,6,6,6,6,6,6,6,6,6,6,6,6,6,6,7,7,7,7,7,7,7,7,7,7,7,7,7,7,7,7,7,7,7,7,7,7,7,7,7,7,7,7,7,7,7,7,7,7,7,7,7,7,7,7,7,7,7,7,7,7,7,7,7,7,7,7,7,7,7,7,7,7,7,7,7,7,7,7,8,8,8,8,8,8,8,8,8,8,8,8,8,8,8,8,8,8,8,8,8,8,8,8,8,8,8,8,8,8,8,8,8,8,8,8,8,8,8,8,8,8,8,8,8,8,8,8,8,8,8,8,8,8,8,8,8,8,8,8,8,8,8,8,8,8,8,8,8,8,8,8,8,8,8,8,8,8,8,8,8,8,8,8,8,8,8,8,8,8,8,8,8,8,8,8,8,8,8,8,8,8,8,8,8,8,8,8,8,8,8,8,8,8,8,8,8,8,8,8,8,8,8,8,8,8,8,8]⟩)) (.t 21)),o 23 (.cvt .i64 (.t 22)),o 24 (.bin .add (.t 19) (.t 23)),o 2 (.mv (.t 24))] [2]) .ret))))),[.t 2]⟩
theorem math_bits_Len64_ok : cFn Tryz.prog (kps [[0,2],[0,2,4],[0],[0,2],[0,2,8],[0,2],[0,2],[0,2,14],[0,2],[0,2],[2]]) [] 161 = some math_bits_Len64_c := by kernel_rfl
abbrev math_bits_Len : Nat := 138
def math_bits_Len_c : MFn := ⟨8,(.seq (r [o 2 (.mv (i 0))] [0]) (.seq (.cond (.c (.bool false)) (.seq (r [o 3 (.mv (.t 0)),o 4 (.cvt .u32 (.t 3)),o 5 (.call 160 [(.t 4)]),o 2 (.mv (.t 5))] [2]) .ret) .skip) (.seq (r [o 6 (.mv (.t 0)),o 7 (.call 161 [(.t 6)]),o 2 (.mv (.t 7))] [2]) .ret))),[.t 2]⟩
theorem math_bits_Len_ok : cFn Tryz.prog (kps [[0],[2],[2]]) [] 138 = some math_bits_Len_c := by kernel_rfl
abbrev slices_SortFunc_Ratio_Ratio : Nat := 104
def slices_SortFunc_Ratio_Ratio_c : MFn := ⟨14,(.seq (r [o 5 (.mv (.t 0)),o 6 (.lenS (.t 5)),o 4 (.mv (.t 6))] [0,1,4]) (r [o 7 (.mv (.t 0)),o 8 (.mv (.t 4)),o 9 (.mv (.t 4)),o 10 (.cvt .u64 (.t 9)),o 11 (.call 138 [(.t 10)]),o 12 (.mv (.t 1)),o 13 (.call 137 [(.t 7),(i 0),(.t 8),(.t 11),(.t 12)])] [])),[]⟩
theorem slices_SortFunc_Ratio_Ratio_ok : cFn Tryz.prog (kps [[0,1,4],[]]) [] 104 = some slices_SortFunc_Ratio_Ratio_c := by kernel_rfl
abbrev slices_CompactFunc_Ratio_Ratio : Nat := 105
def slices_CompactFunc_Ratio_Ratio_c : MFn := ⟨66,(.seq (r [o 4 (.mv (.c .nils))] [0,1]) (.seq (.seq (r [o 8 (.mv (.t 0)),o 9 (.lenS (.t 8)),o 10 (.bin .lss (.t 9) (i 2))] [0,1,10]) (.cond (.t 10) (.seq (r [o 11 (.mv (.t 0)),o 4 (.mv (.t 11))] [4]) .ret) .skip)) (.seq (.seq (r [o 5 (.mv (i 1))] [0,1,5]) (.block 0 (.loop (.seq (.seq (r [o 12 (.mv (.t 5)),o 13 (.mv (.t 0)),o 14 (.lenS (.t 13)),o 15 (.bin .lss (.t 12) (.t 14))] [0,1,5,15]) (.cond (.t 15) .skip (.exit 0))) (.seq (.block 1 (.seq (r [o 18 (.mv (.t 1)),o 19 (.mv (.t 0)),o 20 (.mv (.t 5)),o 21 (.ixA 3 (.t 19) (.t 20)),o 22 (.ld (some 3) (.t 21)),o 23 (.mv (.t 0)),o 24 (.mv (.t 5)),o 25 (.bin .sub (.t 24) (i 1)),o 26 (.ixA 3 (.t 23) (.t 25)),o 27 (.ld (some 3) (.t 26)),o 28 (.callVF (.t 18) [(.t 22),(.t 27)])] [0,1,5,28]) (.cond (.t 28) (.seq (r [o 29 (.mv (.t 0)),o 30 (.mv (.t 5)),o 31 (.slc 3 (.t 29) (some (.t 30)) none none),o 6 (.mv (.t 31))] [0,1,5,6]) (.seq (.seq (r [o 7 (.mv (i 1))] [0,1,5,6,7]) (.block 2 (.loop (.seq (.seq (r [o 32 (.mv (.t 7)),o 33 (.mv (.t 6)),o 34 (.lenS (.t 33)),o 35 (.bin .lss (.t 32) (.t 34))] [0,1,5,6,7,35]) (.cond (.t 35) .skip (.exit 2))) (.seq (.block 3 (.seq (r [o 38 (.mv (.t 1)),o 39 (.mv (.t 6)),o 40 (.mv (.t 7)),o 41 (.ixA 3 (.t 39) (.t 40)),o 42 (.ld (some 3) (.t 41)),o 43 (.mv (.t 6)),o 44 (.mv (.t 7)),o 45 (.bin .sub (.t 44) (i 1)),o 46 (.ixA 3 (.t 43) (.t 45)),o 47 (.ld (some 3) (.t 46)),o 48 (.callVF (.t 38) [(.t 42),(.t 47)]),o 49 (.un .not (.t 48))] [0,1,5,6,7,49]) (.cond (.t 49) (.seq (r [o 50 (.mv (.t 0)),o 51 (.mv (.t 5)),o 52 (.mv (.t 6)),o 53 (.mv (.t 7)),o 54 (.ixA 3 (.t 52) (.t 53)),o 55 (.ld (some 3) (.t 54)),o 56 (.ixA 3 (.t 50) (.t 51)),z (.st 3 (.t 56) (.t 55))] [0,1,5,6,7]) (r [o 57 (.mv (.t 5)),o 58 (.bin .add (.t 57) (i 1)),o 5 (.mv (.t 58))] [0,1,5,6,7])) .skip))) (r [o 36 (.mv (.t 7)),o 37 (.bin .add (.t 36) (i 1)),o 7 (.mv (.t 37))] [0,1,5,6,7])))))) (.seq (r [o 59 (.mv (.t 0)),o 60 (.mv (.t 5)),o 61 (.slc 3 (.t 59) (some (.t 60)) none none),z (.clr 3 zR (.t 61))] [0,5]) (.seq (r [o 62 (.mv (.t 0)),o 63 (.mv (.t 5)),o 64 (.slc 3 (.t 62) none (some (.t 63)) none),o 4 (.mv (.t 64))] [4]) .ret)))) .skip))) (r [o 16 (.mv (.t 5)),o 17 (.bin .add (.t 16) (i 1)),o 5 (.mv (.t 17))] [0,1,5])))))) (.seq (r [o 65 (.mv (.t 0)),o 4 (.mv (.t 65))] [4]) .ret)))),[.t 4]⟩
theorem slices_CompactFunc_Ratio_Ratio_ok : cFn Tryz.prog (kps [[0,1],[0,1,10],[4],[0,1,5],[0,1,5,15],[0,1,5],[0,1,5,28],[0,1,5,6],[0,1,5,6,7],[0,1,5,6,7,35],[0,1,5,6,7],[0,1,5,6,7,49],[0,1,5,6,7],[0,1,5,6,7],[0,5],[4],[4]]) [] 105 = some slices_CompactFunc_Ratio_Ratio_c := by kernel_rfl
end Go.Proofs.YtipbefckimdkkaaGreat.F

namespace Go.Proofs.YtipbefckimdkkaaGreat
open Go Go.Proofs Go.Proofs.YtipbefckimdkkaaGreat.E
set_option linter.unusedSimpArgs false
set_option linter.unusedVariables false
abbrev obR (L : List Raw) : Ob := ⟨.own, 3, L.map Raw.c⟩
theorem plain_R (L : List Raw) : Plain (obR L).cells := fun r hr y hy f => by
 obtain ⟨x, _, rfl⟩ := List.mem_map.1 hr
 exact rawc_within _ y hy
abbrev cmpRC : V := .clo F.ratio_Compare []
@[simp] theorem toD_cmpRC (σ : Sto) : toD σ 12 cmpRC = some cmpRC := (rfl)
section
variable {σ : Sto} {o : Nat} {L : List Raw}
set_option maxHeartbeats 8000000 in
theorem ins_sortR (hl : L.length ≤ 1000000) (hO : ∀ x ∈ L, x.Ok (2 ^ 33)) (ho : E.look σ o = some (obR L)) (hs : Shut σ) :
 CallX Tryz.prog F.slices_insertionSortCmpFunc_Ratio [.ref o 0 L.length, .int .i64 0, .int .i64 L.length, cmpRC] σ
  (fun v s => v = .tup [] ∧ ∃ M : List Raw, s = setOb σ o (obR M) ∧ M.Perm L ∧ SrtF Raw.q M) := by
 refine callX_by F.slices_insertionSortCmpFunc_Ratio_ok ?_
 unfold F.slices_insertionSortCmpFunc_Ratio_c
 simp
 repeat simp (disch := omega) [wrap64]
 have hoK : (E.look σ o).isSome = true := by rw [ho]; rfl
 refine wm_loop (fun g : Nat × List Raw => (((((Sl.empty.set 8 (.int .i64 g.1)).set 3 cmpRC).set 2 (.int .i64 L.length)).set 1 (.int .i64 0)).set 0 (.ref o 0 L.length), setOb σ o (obR g.2)))
  (fun g => 1 ≤ g.1 ∧ (g.1 = 1 ∨ g.1 ≤ L.length) ∧ g.2.Perm L ∧ SrtF Raw.q (g.2.take g.1)) (fun g => L.length - g.1) (1, L) ⟨Nat.le_refl _, .inl rfl, .refl _, ?_⟩ ?_ ?_
 ·cases L with
  | nil => exact List.Pairwise.nil
  | cons a l => simp [SrtF]
 ·refine weak_gen ?_ ?_ (keep_set keys_look) ?_ (shut_set hs (plain_R _))
  ·repeat (first | exact sub_empty | refine sub_set (by simp) ?_)
  ·intro p x
   rw [look_setOb]
   split
   ·rename_i e; rw [e, ho]; exact id
   ·exact id
  ·repeat (first | exact sin_empty | refine sin_set (by simp [V.within]) ?_)
 rintro ⟨i, X⟩ ⟨h1, h2, h3, h4⟩
 dsimp only at h1 h2 h3 h4
 have hX := h3.length_eq
 by_cases hi : i < L.length
 ·have hiX : i < X.length := by omega
  simp [hi]
  refine wm_loop (fun j : Nat => ((((((Sl.empty.set 9 (.int .i64 j)).set 8 (.int .i64 i)).set 3 cmpRC).set 2 (.int .i64 L.length)).set 1 (.int .i64 0)).set 0 (.ref o 0 L.length), setOb σ o (obR (insAt X X[i] i j))))
   (fun j => j ≤ i ∧ ∀ y ∈ (X.take i).drop j, X[i].q < y.q) (fun j => j) i ⟨Nat.le_refl _, fun y hy => by
     have e : (X.take i).drop i = [] := List.drop_eq_nil_of_le (by simp; omega)
     rw [e] at hy; simp at hy⟩ ?_ ?_
  ·rw [insAt_self hiX]
   refine weak_gen ?_ (Has.refl _) (keep_set keys_look) ?_ (shut_set hs (plain_R _))
   ·repeat (first | exact sub_empty | refine sub_set (by simp) ?_)
   ·repeat (first | exact sin_empty | refine sin_set (by simp [V.within]) ?_)
  rintro j ⟨ji, hlt⟩
  have hY := insAt_len (x := X[i]) hiX ji
  have hend : (∀ hp : 0 < j, (X[j - 1]'(by omega)).q ≤ X[i].q) → Again (σ.map (·.1)) (fun g : Nat × List Raw => (((((Sl.empty.set 8 (.int .i64 g.1)).set 3 cmpRC).set 2 (.int .i64 L.length)).set 1 (.int .i64 0)).set 0 (.ref o 0 L.length), setOb σ o (obR g.2)))
   (fun g => 1 ≤ g.1 ∧ (g.1 = 1 ∨ g.1 ≤ L.length) ∧ g.2.Perm L ∧ SrtF Raw.q (g.2.take g.1)) (fun g => L.length - g.1) (i, X)
   (((((Sl.empty.set 8 (.int .i64 (i + 1))).set 3 cmpRC).set 2 (.int .i64 L.length)).set 1 (.int .i64 0)).set 0 (.ref o 0 L.length)) (setOb σ o (obR (insAt X X[i] i j))) := by
   intro he
   refine ⟨(i + 1, insAt X X[i] i j), ⟨by dsimp only; omega, .inr hi, (insAt_perm hiX ji).trans h3, insAt_srt hiX ji h4 hlt he⟩, by dsimp only; omega, ?_⟩
   refine weak_gen ?_ (Has.refl _) (keep_set keys_look) ?_ (shut_set hs (plain_R _))
   ·repeat (first | exact sub_empty | refine sub_set (by simp) ?_)
   ·repeat (first | exact sin_empty | refine sin_set (by simp [V.within]) ?_)
  by_cases hja : j = 0
  ·subst hja
   simp
   repeat simp (disch := omega) [wrap64]
   exact hend (fun hp => absurd hp (by omega))
  ·have q0 : (0 : Int) < j := by omega
   have q1 : 0 < j := by omega
   have q2 : j < (insAt X X[i] i j).length := by omega
   have q3 : j - 1 < (insAt X X[i] i j).length := by omega
   have q3X : j - 1 < X.length := by omega
   have e1 : ((j : Int) - 1).toNat = j - 1 := by omega
   have g1 : (insAt X X[i] i j)[j] = X[i] := by
    have := insAt_get (x := X[i]) hiX ji
    rw [List.getElem?_eq_getElem q2] at this
    exact Option.some.inj this
   have g2 : (insAt X X[i] i j)[j - 1] = X[j - 1] := by
    have := insAt_prev (x := X[i]) hiX ji q1
    rw [List.getElem?_eq_getElem q3, List.getElem?_eq_getElem q3X] at this
    exact Option.some.inj this
   have okI : X[i].Ok (2 ^ 33) := hO _ (h3.mem_iff.1 (List.getElem_mem hiX))
   have okJ : X[j - 1].Ok (2 ^ 33) := hO _ (h3.mem_iff.1 (List.getElem_mem q3X))
   simp [q0, q1, q2, q3]
   repeat simp (disch := omega) [wrap64, if_pos, e1, q0, q1, q2, q3, g1, g2]
   refine ⟨_, _, ⟨rfl, rfl⟩, callXK_of (ratio_Compare okI okJ) (by simp [toD_rawc, raw_v]) ?_⟩
   by_cases hc : cmpR X[i].q X[j - 1].q < 0
   ·simp [hc]
    repeat simp (disch := omega) [wrap64, if_pos, e1, q0, q1, q2, q3, g1, g2]
    have e2 : (j : Int) - 1 = ((j - 1 : Nat) : Int) := by omega
    have e3 : ((List.map Raw.c (insAt X X[i] i j)).set j X[j - 1].c).set (j - 1) X[i].c = List.map Raw.c (insAt X X[i] i (j - 1)) := by
     rw [← insAt_step (x := X[i]) hiX ji q1, List.map_set, List.map_set]
    rw [e3, e2]
    refine ⟨j - 1, ⟨by omega, fun y hy => ?_⟩, by dsimp only; omega, ?_⟩
    ·have hki : j - 1 < (X.take i).length := by simp; omega
     rw [List.drop_eq_getElem_cons hki] at hy
     rcases List.mem_cons.1 hy with rfl | hy
     ·simp only [List.getElem_take]; exact cmpR_lt.1 hc
     ·exact hlt y (by have e : j - 1 + 1 = j := by omega
                      rwa [e] at hy)
    ·refine weak_gen ?_ ?_ (keep_set keys_look) ?_ (shut_set hs (plain_R _))
     ·repeat (first | exact sub_empty | refine sub_set (by simp) ?_)
     ·intro p y
      simp only [look_setOb]
      split <;> exact id
     ·repeat (first | exact sin_empty | refine sin_set (by simp [V.within]) ?_)
   ·simp [hc]
    repeat simp (disch := omega) [wrap64]
    exact hend (fun hp => Rat.not_lt.1 fun h => hc (cmpR_lt.2 h))
 ·simp [hi]
  refine doneX_gen (r := .tup []) (l := []) (by simp) (by simp) rfl (Has.refl _) (keep_set keys_look) (shut_set hs (plain_R _)) (by simp) ⟨rfl, X, rfl, h3, ?_⟩
  rw [List.take_of_length_le (by omega)] at h4
  exact h4
end
end Go.Proofs.YtipbefckimdkkaaGreat

namespace Go.Proofs.YtipbefckimdkkaaGreat
open Go Go.Proofs Go.Proofs.YtipbefckimdkkaaGreat.E
set_option linter.unusedSimpArgs false
set_option linter.unusedVariables false
section
variable {σ : Sto} {o : Nat} {L : List Raw}
set_option maxRecDepth 100000 in
set_option maxHeartbeats 4000000 in
theorem pdq_sortR {n : Int} (hl : L.length ≤ 12) (hO : ∀ x ∈ L, x.Ok (2 ^ 33)) (ho : E.look σ o = some (obR L)) (hs : Shut σ) :
 CallX Tryz.prog F.slices_pdqsortCmpFunc_Ratio [.ref o 0 L.length, .int .i64 0, .int .i64 L.length, .int .i64 n, cmpRC] σ
  (fun v s => v = .tup [] ∧ ∃ M : List Raw, s = setOb σ o (obR M) ∧ M.Perm L ∧ SrtF Raw.q M) := by
 refine callX_by F.slices_pdqsortCmpFunc_Ratio_ok ?_
 unfold F.slices_pdqsortCmpFunc_Ratio_c
 simp
 refine wm_loop (fun g : Nat => (((((((Sl.empty.set 11 (.bool true)).set 10 (.bool true)).set 4 cmpRC).set 3 (.int .i64 n)).set 2 (.int .i64 L.length)).set 1 (.int .i64 0)).set 0 (.ref o 0 L.length), σ)) (fun _ => True) (fun g => g) 0 trivial ?_ ?_
 ·refine weak_gen ?_ (Has.refl _) keys_look ?_ hs
  ·repeat (first | exact sub_empty | refine sub_set (by simp) ?_)
  ·have hoK : (E.look σ o).isSome = true := by rw [ho]; rfl
   repeat (first | exact sin_empty | refine sin_set (by first | (simp; done) | (simp [V.within]; done) | (rw [within_ref]; exact hoK)) ?_)
 rintro g -
 have h12 : (L.length : Int) ≤ 12 := by omega
 simp
 repeat simp (disch := omega) [wrap64, h12]
 refine ⟨?_, fun h => absurd h (by omega)⟩
 refine callK_X (ins_sortR (o := o) (L := L) (σ := σ) (by omega) hO ho hs) ?_
 rintro r s ⟨rfl, M, rfl, hM, hS⟩
 simp
 exact doneX_gen (r := .tup []) (l := []) (by simp) (by simp) rfl (Has.refl _) (keep_set keys_look) (shut_set hs (plain_R _)) (by simp) ⟨rfl, M, rfl, hM, hS⟩
end
theorem bits_Len64 {x : Nat} (hx : x < 256) : CallD Tryz.prog F.math_bits_Len64 [.int .u64 x] (· = .int .i64 (len8 x)) := by
 refine callD_by F.math_bits_Len64_ok ?_
 unfold F.math_bits_Len64_c
 generalize hT : ByteArray.mk _ = T
 have tab : ∀ q : Nat, q < 256 → T[q]? = some (len8 q).toUInt8 := by
  subst hT
  decide +kernel
 have u8 : ∀ q : Nat, q < 256 → ((len8 q).toUInt8.toNat : Nat) = len8 q := by
  intro q hq
  have := len8_le hq
  simp; omega
 clear hT
 simp
 have hl := len8_le hx
 have e1 : ¬ (4294967296 : Int) ≤ x := by omega
 have e2 : ¬ (65536 : Int) ≤ x := by omega
 have e3 : ¬ (256 : Int) ≤ x := by omega
 simp [e1, e2, e3]
 have e : ((x : Int)).toNat = x := by omega
 rw [wrapU8 (by omega) (by omega), if_pos (by omega), e, tab _ hx]
 simp only [Option.map_some, u8 _ hx]
 simp
 repeat simp (disch := omega) [wrap64]
theorem bits_Len {x : Nat} (hx : x < 256) : CallD Tryz.prog F.math_bits_Len [.int .u64 x] (· = .int .i64 (len8 x)) := by
 refine callD_by F.math_bits_Len_ok ?_
 unfold F.math_bits_Len_c
 simp
 refine callK_of (bits_Len64 hx) (by simp) ?_
 simp
section
variable {σ : Sto} {o : Nat} {L : List Raw}
theorem sort_funcR (hl : L.length ≤ 12) (hO : ∀ x ∈ L, x.Ok (2 ^ 33)) (ho : E.look σ o = some (obR L)) (hs : Shut σ) :
 CallX Tryz.prog F.slices_SortFunc_Ratio_Ratio [.ref o 0 L.length, cmpRC] σ
  (fun v s => v = .tup [] ∧ ∃ M : List Raw, s = setOb σ o (obR M) ∧ M.Perm L ∧ SrtF Raw.q M) := by
 refine callX_by F.slices_SortFunc_Ratio_Ratio_ok ?_
 unfold F.slices_SortFunc_Ratio_Ratio_c
 simp
 rw [show IntKind.u64.wrap (L.length : Int) = (L.length : Int) from wrap_id (k := .u64) (by simp [IntKind.min, IntKind.bits, IntKind.signed]) (by simp [IntKind.max, IntKind.bits, IntKind.signed]; omega)]
 refine callK_of (bits_Len (x := L.length) (by omega)) (by simp) ?_
 simp
 refine callK_X (pdq_sortR (n := len8 L.length) (o := o) (L := L) (σ := σ) hl hO ho hs) ?_
 rintro r s ⟨rfl, M, rfl, hM, hS⟩
 simp
 exact doneX_gen (r := .tup []) (l := []) (by simp) (by simp) rfl (Has.refl _) (keep_set keys_look) (shut_set hs (plain_R _)) (by simp) ⟨rfl, M, rfl, hM, hS⟩
end
end Go.Proofs.YtipbefckimdkkaaGreat

namespace Go.Proofs.YtipbefckimdkkaaGreat
open Go Go.Proofs Go.Proofs.YtipbefckimdkkaaGreat.E
set_option linter.unusedSimpArgs false
set_option linter.unusedVariables false
def kq (q : Rat) : List V := (rawOf q).c
theorem kq_len (q : Rat) : (kq q).length = 3 := rfl
theorem kq_take (q : Rat) : (kq q).take 3 = kq q := rfl
theorem kq_drop (q : Rat) : (kq q).drop 3 = [] := rfl
theorem kq_toD (σ : Sto) (n : Nat) (q : Rat) : mapO (toD σ (n + 1)) (kq q) = some (kq q) := toD_rawc _ _ _
theorem kq_rch (σ : Sto) (n : Nat) (q : Rat) : (kq q).flatMap (rch σ n) = [] := rch_rawc _ _ _
attribute [simp] kq_len kq_take kq_drop kq_rch
theorem kq_in (q : Rat) : ∀ y ∈ kq q, ∀ p : Nat → Bool, y.within p = true := fun y hy _ => rawc_within _ y hy
abbrev z3 : List V := [.bool false, .nils, .nils]
abbrev obK (W : List (List V)) : Ob := ⟨.own, 3, W⟩
def RowsK (W : List (List V)) : Prop := ∀ r ∈ W, (∃ q, r = kq q) ∨ r = z3
theorem RowsK.plain {W : List (List V)} (h : RowsK W) : Plain W := fun r hr y hy f => by
 rcases h r hr with ⟨q, rfl⟩ | rfl
 ·exact kq_in q y hy f
 ·simp at hy; rcases hy with rfl | rfl <;> simp [V.within]
theorem rowsK_map (l : List Rat) : RowsK (l.map kq) := fun r hr => by
 obtain ⟨q, _, rfl⟩ := List.mem_map.1 hr
 exact .inl ⟨q, rfl⟩
theorem RowsK.set {W : List (List V)} (h : RowsK W) (k : Nat) (q : Rat) : RowsK (W.set k (kq q)) := fun r hr => by
 rcases List.mem_or_eq_of_mem_set hr with hr | rfl
 ·exact h r hr
 ·exact .inl ⟨q, rfl⟩
theorem rowsK_end (l : List Rat) (n : Nat) : RowsK (l.map kq ++ List.replicate n z3) := fun r hr => by
 rcases List.mem_append.1 hr with hr | hr
 ·exact rowsK_map l r hr
 ·exact .inr (List.eq_of_mem_replicate hr)
theorem RowsK.len3 {W : List (List V)} (h : RowsK W) {k : Nat} (hk : k < W.length) : W[k].length = 3 := by
 rcases h _ (List.getElem_mem hk) with ⟨q, e⟩ | e <;> rw [e] <;> rfl
theorem RowsK.drop3 {W : List (List V)} (h : RowsK W) {k : Nat} (hk : k < W.length) : W[k].drop 3 = [] := List.drop_eq_nil_of_le (by rw [h.len3 hk]; omega)
@[simp] theorem E.wp_clr {P : Program} {S : Sl} {σ : Sto} {d : Option Nat} {rest : List MOper} {Q : Sl → Sto → Prop} {es z x} : WpOps P (⟨d, .clr es z x, none⟩ :: rest) S σ Q = Opt (evOp S σ (.clr es z x)) (Nxt P rest d S Q) := wp_opt rfl
theorem cmpctQ_take {l : List Rat} {i : Nat} (h : i < l.length) (h0 : 0 < i) : cmpctQ (l.take (i + 1)) = if l[i - 1]'(by omega) = l[i] then cmpctQ (l.take i) else cmpctQ (l.take i) ++ [l[i]] := by
 obtain ⟨k, rfl⟩ : ∃ k, i = k + 1 := ⟨i - 1, by omega⟩
 have hk : k < l.length := by omega
 have e1 : l.take (k + 1) = l.take k ++ [l[k]] := List.take_succ_eq_append_getElem hk
 have e2 : l.take (k + 1 + 1) = l.take k ++ [l[k], l[k + 1]] := by
  rw [List.take_succ_eq_append_getElem h, e1, List.append_assoc]; rfl
 rw [e2, cmpctQ_snoc, ← e1]
 rfl
theorem cmpctQ_len {l : List Rat} : (cmpctQ l).length ≤ l.length := by
 match l with
 | [] => simp [cmpctQ]
 | [a] => simp [cmpctQ]
 | a :: b :: l =>
   have := cmpctQ_len (l := b :: l)
   rw [cmpctQ_cons]
   split
   ·simp at this ⊢; omega
   ·simp at this ⊢; omega
abbrev sameRC : V := .clo F.ratio_Same []
@[simp] theorem toD_sameRC (σ : Sto) : toD σ 12 sameRC = some sameRC := (rfl)
section
variable {σ : Sto} {o : Nat} {l : List Rat}
structure CpI (l : List Rat) (m : Nat) (k : Nat) (W : List (List V)) : Prop where
 len : W.length = l.length
 lt : k < m
 rows : RowsK W
 cnt : (cmpctQ (l.take m)).length = k
 pre : W.take k = (cmpctQ (l.take m)).map kq
 suf : W.drop (m - 1) = (l.drop (m - 1)).map kq
theorem CpI.at {m k : Nat} {W : List (List V)} (h : CpI l m k W) {i : Nat} (hi : m - 1 ≤ i) (hl : i < l.length) : W[i]'(by rw [h.len]; exact hl) = kq l[i] := by
 have e := congrArg (fun x => x[i - (m - 1)]?) h.suf
 simp only [List.getElem?_drop, List.getElem?_map] at e
 have e2 : m - 1 + (i - (m - 1)) = i := by omega
 rw [e2, List.getElem?_eq_getElem hl, List.getElem?_eq_getElem (by rw [h.len]; exact hl)] at e
 exact Option.some.inj e
theorem CpI.same {m k : Nat} {W : List (List V)} (h : CpI l m k W) (hm : m < l.length) (he : l[m - 1]'(by omega) = l[m]) : CpI l (m + 1) k W := by
 have h0 : 0 < m := by have := h.lt; omega
 have e := cmpctQ_take hm h0
 rw [if_pos he] at e
 refine ⟨h.len, by have := h.lt; omega, h.rows, by rw [e]; exact h.cnt, by rw [e]; exact h.pre, ?_⟩
 have s := congrArg (List.drop 1) h.suf
 rw [List.drop_drop, ← List.map_drop, List.drop_drop] at s
 have e2 : m - 1 + 1 = m := by omega
 rw [e2] at s
 exact s
theorem CpI.more {m k : Nat} {W : List (List V)} (h : CpI l m k W) (hm : m < l.length) (he : ¬ l[m - 1]'(by omega) = l[m]) : CpI l (m + 1) (k + 1) (W.set k (kq l[m])) := by
 have h0 : 0 < m := by have := h.lt; omega
 have hk := h.lt
 have hW := h.len
 have e := cmpctQ_take hm h0
 rw [if_neg he] at e
 refine ⟨by simp [h.len], by omega, h.rows.set _ _, by rw [e]; simp [h.cnt], ?_, ?_⟩
 ·rw [e, List.map_append, ← h.pre, List.take_succ_eq_append_getElem (by simp; omega)]
  simp [List.take_set_of_le]
 ·have s := congrArg (List.drop 1) h.suf
  rw [List.drop_drop, ← List.map_drop, List.drop_drop] at s
  have e2 : m - 1 + 1 = m := by omega
  rw [e2] at s
  rw [Nat.add_sub_cancel, ← s, List.drop_set_of_lt (by omega)]
set_option maxHeartbeats 8000000 in
theorem compactR (hl : l.length ≤ 1000000) (hO : ∀ x ∈ l, (rawOf x).Ok (2 ^ 33)) (ho : E.look σ o = some (obK (l.map kq))) (hs : Shut σ) :
 CallX Tryz.prog F.slices_CompactFunc_Ratio_Ratio [.ref o 0 l.length, sameRC] σ
  (fun v s => v = .ref o 0 (cmpctQ l).length ∧ ∃ n, s = setOb σ o (obK ((cmpctQ l).map kq ++ List.replicate n z3))) := by
 have hoK : (E.look σ o).isSome = true := by rw [ho]; rfl
 have same : Has (setOb σ o (obK (l.map kq))) σ := fun p x => by
  rw [look_setOb]
  split
  ·rename_i e; rw [e, ho]; exact id
  ·exact id
 refine callX_by F.slices_CompactFunc_Ratio_Ratio_ok ?_
 unfold F.slices_CompactFunc_Ratio_Ratio_c
 simp
 refine ⟨fun h2 => ?_, fun h2 => ?_⟩
 ·have ec : cmpctQ l = l := by
   match l, h2 with
   | [], _ => rfl
   | [a], _ => rfl
   | a :: b :: l, h => simp at h; omega
  refine doneX_gen (r := .ref o 0 l.length) (by simp) (by simp; rfl) rfl same (keep_set keys_look) (shut_set hs (rowsK_map _).plain) (by simp) ⟨by rw [ec], 0, by simp [ec]⟩
 have h2n : 2 ≤ l.length := by omega
 refine wm_loop (fun i : Nat => (((Sl.empty.set 5 (.int .i64 i)).set 1 sameRC).set 0 (.ref o 0 l.length), σ))
  (fun i => 1 ≤ i ∧ i ≤ l.length ∧ cmpctQ (l.take i) = l.take i) (fun i => l.length - i) 1 ⟨Nat.le_refl _, by omega, ?_⟩ ?_ ?_
 ·have e : l.take 1 = [l[0]] := by
   have := List.take_succ_eq_append_getElem (l := l) (i := 0) (by omega)
   simpa using this
  rw [e]; rfl
 ·refine weak_gen ?_ (Has.refl _) keys_look ?_ hs
  ·repeat (first | exact sub_empty | refine sub_set (by simp) ?_)
  ·repeat (first | exact sin_empty | refine sin_set (by first | (simp; done) | (simp [V.within]; done) | (rw [within_ref]; exact hoK)) ?_)
 rintro i ⟨i1, i2, i3⟩
 by_cases hi : i < l.length
 ·have q0 : i - 1 < l.length := by omega
  have e1 : ((i : Int) - 1).toNat = i - 1 := by omega
  have okI : (rawOf l[i]).Ok (2 ^ 33) := hO _ (List.getElem_mem hi)
  have okJ : (rawOf l[i - 1]).Ok (2 ^ 33) := hO _ (List.getElem_mem q0)
  simp [hi, ho]
  repeat simp (disch := omega) [wrap64, if_pos, e1, q0, hi, ho]
  refine ⟨_, _, ⟨rfl, rfl⟩, callXK_of (ratio_Same okI okJ) (by simp [toD_rawc, raw_v, kq]) ?_⟩
  rw [rawOf_q, rawOf_q]
  have ct := cmpctQ_take hi (by omega)
  by_cases hc : l[i] = l[i - 1]
  ·simp [hc]
   repeat simp (disch := omega) [boundHi, boundLo, wrap64, if_pos, hi, ho]
   rw [if_pos hc.symm, i3] at ct
   have hst : CpI l (i + 1) i (l.map kq) := ⟨by simp, by omega, rowsK_map _, by rw [ct]; simp; omega, by rw [ct, List.map_take], by rw [List.map_drop]⟩
   refine wm_loop (fun g : Nat × Nat × List (List V) => (((((Sl.empty.set 7 (.int .i64 g.1)).set 6 (.ref o i (l.length - i))).set 5 (.int .i64 g.2.1)).set 1 sameRC).set 0 (.ref o 0 l.length), setOb σ o (obK g.2.2)))
    (fun g => 1 ≤ g.1 ∧ i + g.1 ≤ l.length ∧ CpI l (i + g.1) g.2.1 g.2.2) (fun g => l.length - g.1) (1, i, l.map kq) ⟨Nat.le_refl _, by dsimp only; omega, hst⟩ ?_ ?_
   ·refine weak_gen ?_ same (keep_set keys_look) ?_ (shut_set hs (rowsK_map _).plain)
    ·repeat (first | exact sub_empty | refine sub_set (by simp) ?_)
    ·repeat (first | exact sin_empty | refine sin_set (by simp [V.within]) ?_)
   rintro ⟨j, k, W⟩ ⟨j1, j2, hW⟩
   dsimp only at j1 j2 hW
   have hWl := hW.len
   have hWk := hW.lt
   by_cases hj : i + j < l.length
   ·have p0 : (j : Int) < (l.length - i : Nat) := by omega
    have e2 : ((j : Int) - 1).toNat = j - 1 := by omega
    have p1 : i + j < W.length := by omega
    have p2 : i + (j - 1) < W.length := by omega
    have g1 : W[i + j] = kq l[i + j] := hW.at (by omega) hj
    have g2 : W[i + (j - 1)] = kq l[i + j - 1] := by
     have h := hW.at (i := i + j - 1) (by omega) (by omega)
     have e : i + (j - 1) = i + j - 1 := by omega
     simp only [e]; exact h
    have okI : (rawOf l[i + j]).Ok (2 ^ 33) := hO _ (List.getElem_mem hj)
    have okJ : (rawOf l[i + j - 1]).Ok (2 ^ 33) := hO _ (List.getElem_mem (by omega))
    simp [p0]
    repeat simp (disch := omega) [wrap64, if_pos, e2, p0, p1, p2, g1, g2]
    refine ⟨_, _, ⟨rfl, rfl⟩, callXK_of (ratio_Same okI okJ) (by simp [toD_rawc, raw_v, kq]) ?_⟩
    rw [rawOf_q, rawOf_q]
    have e3 : (j : Int) + 1 = ((j + 1 : Nat) : Int) := by omega
    by_cases hd : l[i + j - 1] = l[i + j]
    ·simp [hd]
     repeat simp (disch := omega) [wrap64]
     refine ⟨(j + 1, k, W), ⟨by dsimp only; omega, by dsimp only; omega, hW.same hj hd⟩, by dsimp only; omega, ?_⟩
     rw [e3]
     refine weak_gen ?_ (Has.refl _) (keep_set keys_look) ?_ (shut_set hs hW.rows.plain)
     ·repeat (first | exact sub_empty | refine sub_set (by simp) ?_)
     ·repeat (first | exact sin_empty | refine sin_set (by simp [V.within]) ?_)
    ·have hd' : ¬ l[i + j] = l[i + j - 1] := fun h => hd h.symm
     have p3 : k < W.length := by omega
     have p4 : (k : Int) < l.length := by omega
     have p5 : k < l.length := by omega
     have l3 := hW.rows.len3 p3
     have d3 := hW.rows.drop3 p3
     simp [hd']
     repeat simp (disch := omega) [wrap64, if_pos, e2, p0, p1, p2, p3, p4, p5, g1, g2, l3, d3]
     have e4 : (k : Int) + 1 = ((k + 1 : Nat) : Int) := by omega
     have hW2 := hW.more hj hd
     refine ⟨(j + 1, k + 1, W.set k (kq l[i + j])), ⟨by dsimp only; omega, by dsimp only; omega, hW2⟩, by dsimp only; omega, ?_⟩
     rw [e3, e4]
     refine weak_gen ?_ ?_ (keep_set keys_look) ?_ (shut_set hs hW2.rows.plain)
     ·repeat (first | exact sub_empty | refine sub_set (by simp) ?_)
     ·intro p y
      simp only [look_setOb]
      split <;> exact id
     ·repeat (first | exact sin_empty | refine sin_set (by simp [V.within]) ?_)
   ·have p0 : ¬ (j : Int) < (l.length - i : Nat) := by omega
    have eil : i + j = l.length := by omega
    have hcnt := hW.cnt
    have hpre := hW.pre
    rw [eil, List.take_length] at hcnt hpre
    have p5 : k ≤ l.length := by omega
    have p6 : (k : Int) ≤ l.length := by omega
    simp [p0]
    repeat simp (disch := omega) [boundHi, boundLo, wrap64, if_pos, if_neg, p5, p6, hWl, evOp]
    have dn : W.drop l.length = [] := List.drop_eq_nil_of_le (by omega)
    rw [hpre, dn, List.append_nil]
    refine doneX_gen (r := .ref o 0 k) (σ1 := setOb σ o (obK ((cmpctQ l).map kq ++ List.replicate (l.length - k) z3))) (by simp) (by simp; rfl) rfl ?_ (keep_set keys_look) (shut_set hs (rowsK_end _ _).plain) (by simp) ⟨by rw [hcnt], _, rfl⟩
    intro p y
    simp only [look_setOb]
    split <;> exact id
  ·rw [if_neg fun h => hc h.symm, i3] at ct
   have e3 : (i : Int) + 1 = ((i + 1 : Nat) : Int) := by omega
   simp [hc]
   repeat simp (disch := omega) [wrap64]
   refine ⟨i + 1, ⟨by omega, by omega, by rw [ct, List.take_succ_eq_append_getElem hi]⟩, by dsimp only; omega, ?_⟩
   rw [e3]
   refine weak_gen ?_ (Has.refl _) keys_look ?_ hs
   ·repeat (first | exact sub_empty | refine sub_set (by simp) ?_)
   ·repeat (first | exact sin_empty | refine sin_set (by first | (simp; done) | (simp [V.within]; done) | (rw [within_ref]; exact hoK)) ?_)
 ·have eil : i = l.length := by omega
  rw [eil, List.take_length] at i3
  simp [hi]
  refine doneX_gen (r := .ref o 0 l.length) (by simp) (by simp; rfl) rfl same (keep_set keys_look) (shut_set hs (rowsK_map _).plain) (by simp) ⟨by rw [i3], 0, by simp [i3]⟩
end
end Go.Proofs.YtipbefckimdkkaaGreat
