import Derived.Test.YtipbefckimdkkaaGreatGM
import Derived.Test.YtipbefckimdkkaaGreatGG
namespace Go.Proofs.YtipbefckimdkkaaGreat.F
open Go Go.Proofs Go.Proofs.YtipbefckimdkkaaGreat.E Go.Proofs.YtipbefckimdkkaaGreat.Q
abbrev value_has : Nat := 165
def value_has_c : MFn := ⟨72,(.seq (r [o 2 (.box (.t 0)),o 3 (.box (.t 1)),o 4 (.mv (.c (.bool false)))] [2,3]) (.seq (.seq (r [o 5 (.fA 0 (.t 3)),o 6 (.ld none (.t 5)),o 7 (.fA 0 (.t 2)),o 8 (.ld none (.t 7)),o 9 (.bin .neq (.t 6) (.t 8))] [2,3,9]) (.cond (.t 9) (.seq (r [o 4 (.mv (.c (.bool false)))] [4]) .ret) .skip)) (.seq (.seq (r [o 10 (.fA 0 (.t 2)),o 11 (.ld none (.t 10))] [2,3,11]) (.block 0 (.seq (r [o 13 (.bin .eql (.t 11) (i 1)),o 12 (.mv (.t 13))] [2,3,11,12]) (.cond (.t 12) (.seq (r [o 14 (.fA 1 (.t 3)),o 15 (.ld none (.t 14)),o 16 (.bin .eql (.t 15) (i 0)),o 17 (.mv (.t 16)),n 18 17 (.fA 1 (.t 3)),n 19 17 (.ld none (.t 18)),n 20 17 (.bin .eql (.t 19) (i 1)),o 21 (.pick (.t 17) (.c (.bool true)) (.t 20)),o 22 (.mv (.t 21)),y 23 22 (.fA 2 (.t 3)),y 24 22 (.ld none (.t 23)),y 25 22 (.lenS (.t 24)),y 26 22 (.bin .eql (.t 25) (i 0)),o 27 (.pick (.t 22) (.t 26) (.c (.bool false))),o 4 (.mv (.t 27))] [4]) .ret) (.seq (r [o 29 (.bin .eql (.t 11) (i 2)),o 28 (.mv (.t 29))] [2,3,11,28]) (.cond (.t 28) (.seq (r [o 30 (.fA 1 (.t 3)),o 31 (.ld none (.t 30)),o 32 (.bin .geq (.t 31) (i (-2147483648))),o 33 (.mv (.t 32)),y 34 33 (.fA 1 (.t 3)),y 35 33 (.ld none (.t 34)),y 36 33 (.bin .leq (.t 35) (i 2147483647)),o 37 (.pick (.t 33) (.t 36) (.c (.bool false))),o 38 (.mv (.t 37)),y 39 38 (.fA 2 (.t 3)),y 40 38 (.ld none (.t 39)),y 41 38 (.lenS (.t 40)),y 42 38 (.bin .eql (.t 41) (i 0)),o 43 (.pick (.t 38) (.t 42) (.c (.bool false))),o 4 (.mv (.t 43))] [4]) .ret) (.seq (r [o 45 (.bin .eql (.t 11) (i 3)),o 44 (.mv (.t 45))] [2,3,44]) (.cond (.t 44) (.seq (r [o 46 (.fA 1 (.t 3)),o 47 (.ld none (.t 46)),o 48 (.bin .eql (.t 47) (i 0)),o 49 (.mv (.t 48)),y 50 49 (.fA 1 (.t 2)),y 51 49 (.ld none (.t 50)),y 52 49 (.fA 2 (.t 3)),y 53 49 (.ld none (.t 52)),y 54 49 (.call 174 [(.t 51),(.t 53),(.c (.clo 165 []))]),o 55 (.pick (.t 49) (.t 54) (.c (.bool false))),o 4 (.mv (.t 55))] [4]) .ret) .skip)))))))) (.seq (r [o 56 (.fA 1 (.t 3)),o 57 (.ld none (.t 56)),o 58 (.bin .eql (.t 57) (i 0)),o 59 (.mv (.t 58)),y 60 59 (.fA 2 (.t 3)),y 61 59 (.ld none (.t 60)),y 62 59 (.lenS (.t 61)),y 63 59 (.bin .leq (.t 62) (i 32)),o 64 (.pick (.t 59) (.t 63) (.c (.bool false))),o 65 (.mv (.t 64)),y 66 65 (.fA 2 (.t 3)),y 67 65 (.ld none (.t 66)),y 68 65 (.mkF 176 [(.t 2)]),y 69 65 (.call 175 [(.t 67),(.t 68)]),y 70 65 (.un .not (.t 69)),o 71 (.pick (.t 65) (.t 70) (.c (.bool false))),o 4 (.mv (.t 71))] [4]) .ret)))),[.t 4]⟩
theorem value_has_ok : cFn Tryz.prog (kps [[2,3],[2,3,9],[4],[2,3,11],[2,3,11,12],[4],[2,3,11,28],[4],[2,3,44],[4],[4]]) [] 165 = some value_has_c := by kernel_rfl
abbrev value_shape : Nat := 145
def value_shape_c : MFn := ⟨127,(.seq (r [o 2 (.box (.t 0)),o 4 (.alloc [.int .i64 0,.nils]),o 5 (.mv (.c (.bool false)))] [1,2,4]) (.seq (r [o 16 (.fA 0 (.t 2)),o 17 (.ld none (.t 16)),o 18 (.build [.int .i64 0,.nils] [(0,1,(.t 17))]),o 6 (.alloc [.int .i64 0,.nils]),z (.st 2 (.t 6) (.t 18))] [1,2,4,6]) (.seq (.block 0 (.seq (r [o 20 (.mv (.t 1)),o 21 (.bin .lss (.t 20) (i 1)),o 19 (.mv (.t 21))] [1,2,4,6,19]) (.cond (.t 19) (.seq (r [o 22 (.ld (some 2) (.t 6)),z (.st 2 (.t 4) (.t 22)),o 5 (.mv (.c (.bool false)))] [4,5]) .ret) (.seq (r [o 24 (.fA 0 (.t 2)),o 25 (.ld none (.t 24)),o 26 (.bin .eql (.t 25) (i 1)),o 27 (.mv (.t 26)),n 28 27 (.fA 0 (.t 2)),n 29 27 (.ld none (.t 28)),n 30 27 (.bin .eql (.t 29) (i 2)),o 31 (.pick (.t 27) (.c (.bool true)) (.t 30)),o 23 (.mv (.t 31))] [1,2,4,6,23]) (.cond (.t 23) (.seq (r [o 32 (.ld (some 2) (.t 6)),o 33 (.ld (some 2) (.t 6)),o 34 (.ld (some 3) (.t 2)),o 35 (.callF 165 [(.t 33),(.t 34)]),z (.st 2 (.t 4) (.t 32)),o 5 (.mv (.t 35))] [4,5]) .ret) (.seq (r [o 37 (.fA 0 (.t 2)),o 38 (.ld none (.t 37)),o 39 (.bin .eql (.t 38) (i 3)),o 40 (.mv (.t 39)),y 41 40 (.fA 1 (.t 2)),y 42 40 (.ld none (.t 41)),y 43 40 (.bin .eql (.t 42) (i 0)),o 44 (.pick (.t 40) (.t 43) (.c (.bool false))),o 45 (.mv (.t 44)),y 46 45 (.fA 2 (.t 2)),y 47 45 (.ld none (.t 46)),y 48 45 (.lenS (.t 47)),y 49 45 (.bin .geq (.t 48) (i 2)),o 50 (.pick (.t 45) (.t 49) (.c (.bool false))),o 51 (.mv (.t 50)),y 52 51 (.fA 2 (.t 2)),y 53 51 (.ld none (.t 52)),y 54 51 (.lenS (.t 53)),y 55 51 (.bin .leq (.t 54) (i 4)),o 56 (.pick (.t 51) (.t 55) (.c (.bool false))),o 36 (.mv (.t 56))] [1,2,4,6,36]) (.cond (.t 36) (.seq (.seq (r [o 57 (.fA 2 (.t 2)),o 58 (.ld none (.t 57)),o 59 (.lenS (.t 58)),o 60 (.mv (i 0))] [1,4,6,58,59,60]) (.block 1 (.loop (.seq (r [o 61 (.bin .lss (.t 60) (.t 59))] [1,4,6,58,59,60,61]) (.seq (.cond (.t 61) .skip (.exit 1)) (.seq (.block 2 (.seq (r [o 62 (.ixA 3 (.t 58) (.t 60)),o 63 (.ld (some 3) (.t 62)),o 8 (.alloc zV),z (.st 3 (.t 8) (.t 63))] [1,4,6,8,58,59,60]) (.seq (r [o 65 (.ld (some 3) (.t 8)),o 66 (.mv (.t 1)),o 67 (.bin .sub (.t 66) (i 1)),o 68 (.call 145 [(.t 65),(.t 67)]),o 64 (.mv (.t 68)),o 69 (.ext (.t 64) 0),o 70 (.ext (.t 64) 1),o 9 (.alloc [.int .i64 0,.nils]),z (.st 2 (.t 9) (.t 69)),o 10 (.mv (.t 70))] [1,4,6,9,10,58,59,60]) (.seq (.seq (r [o 71 (.mv (.t 10)),o 72 (.un .not (.t 71))] [1,4,6,9,58,59,60,72]) (.cond (.t 72) (.seq (r [o 73 (.ld (some 2) (.t 6)),z (.st 2 (.t 4) (.t 73)),o 5 (.mv (.c (.bool false)))] [4,5]) .ret) .skip)) (r [o 74 (.fA 1 (.t 6)),o 75 (.ld none (.t 74)),o 76 (.ld (some 2) (.t 9)),o 77 (.buildSl 2 1 [.int .i64 0,.nils] [(0,(.t 76))]),o 78 (.app 2 32 (.t 75) (.t 77)),o 79 (.fA 1 (.t 6)),z (.st 1 (.t 79) (.t 78))] [1,4,6,58,59,60]))))) (r [o 80 (.bin .add (.t 60) (i 1)),o 60 (.mv (.t 80))] [1,4,6,58,59,60]))))))) (.seq (r [o 81 (.ld (some 2) (.t 6)),z (.st 2 (.t 4) (.t 81)),o 5 (.mv (.c (.bool true)))] [4,5]) .ret)) (.seq (r [o 83 (.fA 0 (.t 2)),o 84 (.ld none (.t 83)),o 85 (.bin .eql (.t 84) (i 4)),o 86 (.mv (.t 85)),y 87 86 (.fA 1 (.t 2)),y 88 86 (.ld none (.t 87)),y 89 86 (.bin .eql (.t 88) (i 0)),o 90 (.pick (.t 86) (.t 89) (.c (.bool false))),o 91 (.mv (.t 90)),y 92 91 (.fA 2 (.t 2)),y 93 91 (.ld none (.t 92)),y 94 91 (.lenS (.t 93)),y 95 91 (.bin .leq (.t 94) (i 32)),o 96 (.pick (.t 91) (.t 95) (.c (.bool false))),o 82 (.mv (.t 96))] [1,2,4,6,82]) (.cond (.t 82) (.seq (r [o 11 (.alloc [.int .i64 0,.nils])] [1,2,4,6,11]) (.seq (.seq (r [o 97 (.fA 2 (.t 2)),o 98 (.ld none (.t 97)),o 99 (.lenS (.t 98)),o 100 (.mv (i 0))] [1,4,6,11,98,99,100]) (.block 3 (.loop (.seq (r [o 101 (.bin .lss (.t 100) (.t 99))] [1,4,6,11,98,99,100,101]) (.seq (.cond (.t 101) .skip (.exit 3)) (.seq (.block 4 (.seq (r [o 102 (.ixA 3 (.t 98) (.t 100)),o 103 (.ld (some 3) (.t 102)),o 13 (.alloc zV),z (.st 3 (.t 13) (.t 103))] [1,4,6,11,13,98,99,100]) (.seq (r [o 105 (.ld (some 3) (.t 13)),o 106 (.mv (.t 1)),o 107 (.bin .sub (.t 106) (i 1)),o 108 (.call 145 [(.t 105),(.t 107)]),o 104 (.mv (.t 108)),o 109 (.ext (.t 104) 0),o 110 (.ext (.t 104) 1),o 14 (.alloc [.int .i64 0,.nils]),z (.st 2 (.t 14) (.t 109)),o 15 (.mv (.t 110))] [1,4,6,11,14,15,98,99,100]) (.seq (.seq (r [o 111 (.mv (.t 15))] [1,4,6,11,14,15,98,99,100,111]) (.cond (.t 111) (r [o 113 (.ld (some 2) (.t 11)),o 114 (.ld (some 2) (.t 14)),o 115 (.call 166 [(.t 113),(.t 114)]),o 112 (.mv (.t 115)),o 116 (.ext (.t 112) 0),o 117 (.ext (.t 112) 1),z (.st 2 (.t 11) (.t 116)),o 15 (.mv (.t 117))] [1,4,6,11,15,98,99,100]) .skip)) (.seq (r [o 118 (.mv (.t 15)),o 119 (.un .not (.t 118))] [1,4,6,11,98,99,100,119]) (.cond (.t 119) (.seq (r [o 120 (.ld (some 2) (.t 6)),z (.st 2 (.t 4) (.t 120)),o 5 (.mv (.c (.bool false)))] [4,5]) .ret) .skip)))))) (r [o 121 (.bin .add (.t 100) (i 1)),o 100 (.mv (.t 121))] [1,4,6,11,98,99,100]))))))) (.seq (r [o 122 (.ld (some 2) (.t 11)),o 123 (.buildSl 2 1 [.int .i64 0,.nils] [(0,(.t 122))]),o 124 (.fA 1 (.t 6)),z (.st 1 (.t 124) (.t 123))] [4,6]) (.seq (r [o 125 (.ld (some 2) (.t 6)),z (.st 2 (.t 4) (.t 125)),o 5 (.mv (.c (.bool true)))] [4,5]) .ret)))) .skip))))))))) (.seq (r [o 126 (.ld (some 2) (.t 6)),z (.st 2 (.t 4) (.t 126)),o 5 (.mv (.c (.bool false)))] [4,5]) .ret)))),[.cell 4 (some 2),.t 5]⟩
theorem value_shape_ok : cFn Tryz.prog (kps [[1,2,4],[1,2,4,6],[1,2,4,6,19],[4,5],[1,2,4,6,23],[4,5],[1,2,4,6,36],[1,4,6,58,59,60],[1,4,6,58,59,60,61],[1,4,6,8,58,59,60],[1,4,6,9,10,58,59,60],[1,4,6,9,58,59,60,72],[4,5],[1,4,6,58,59,60],[1,4,6,58,59,60],[4,5],[1,2,4,6,82],[1,2,4,6,11],[1,4,6,11,98,99,100],[1,4,6,11,98,99,100,101],[1,4,6,11,13,98,99,100],[1,4,6,11,14,15,98,99,100],[1,4,6,11,14,15,98,99,100,111],[1,4,6,11,15,98,99,100],[1,4,6,11,98,99,100,119],[4,5],[1,4,6,11,98,99,100],[4,6],[4,5],[4,5]]) [] 145 = some value_shape_c := by kernel_rfl
abbrev ref03_of : Nat := 142
def ref03_of_c : MFn := ⟨90,(.seq (r [o 2 (.box (.t 0)),o 3 (.box (.t 1)),o 4 (.mv (.c (.bool false)))] [2,3]) (.seq (r [o 8 (.fA 2 (.t 3)),o 9 (.ld none (.t 8)),o 10 (.lenS (.t 9)),o 5 (.mv (.t 10))] [2,3,5]) (.seq (.seq (r [o 11 (.fA 0 (.t 3)),o 12 (.ld none (.t 11)),o 13 (.fA 0 (.t 2)),o 14 (.ld none (.t 13)),o 15 (.bin .neq (.t 12) (.t 14))] [2,3,5,15]) (.cond (.t 15) (.seq (r [o 4 (.mv (.c (.bool false)))] [4]) .ret) .skip)) (.seq (.seq (r [o 16 (.fA 0 (.t 2)),o 17 (.ld none (.t 16))] [2,3,5,17]) (.block 0 (.seq (r [o 26 (.bin .eql (.t 17) (i 1)),o 25 (.mv (.t 26))] [2,3,5,17,25]) (.cond (.t 25) (.seq (r [o 27 (.mv (.t 5)),o 28 (.bin .eql (.t 27) (i 0)),o 29 (.mv (.t 28)),y 30 29 (.fA 1 (.t 3)),y 31 29 (.ld none (.t 30)),y 32 29 (.bin .eql (.t 31) (i 0)),y 33 29 (.mv (.t 32)),n 34 33 (.fA 1 (.t 3)),n 35 33 (.ld none (.t 34)),n 36 33 (.bin .eql (.t 35) (i 1)),y 37 29 (.pick (.t 33) (.c (.bool true)) (.t 36)),o 38 (.pick (.t 29) (.t 37) (.c (.bool false))),o 4 (.mv (.t 38))] [4]) .ret) (.seq (r [o 40 (.bin .eql (.t 17) (i 2)),o 39 (.mv (.t 40))] [2,3,5,17,39]) (.cond (.t 39) (.seq (r [o 41 (.mv (.t 5)),o 42 (.bin .eql (.t 41) (i 0)),o 43 (.mv (.t 42)),y 44 43 (.fA 1 (.t 3)),y 45 43 (.ld none (.t 44)),y 46 43 (.bin .geq (.t 45) (i (-2147483648))),o 47 (.pick (.t 43) (.t 46) (.c (.bool false))),o 48 (.mv (.t 47)),y 49 48 (.fA 1 (.t 3)),y 50 48 (.ld none (.t 49)),y 51 48 (.bin .leq (.t 50) (i 2147483647)),o 52 (.pick (.t 48) (.t 51) (.c (.bool false))),o 4 (.mv (.t 52))] [4]) .ret) (.seq (r [o 54 (.bin .eql (.t 17) (i 3)),o 53 (.mv (.t 54))] [2,3,5,53]) (.cond (.t 53) (.seq (r [o 55 (.fA 1 (.t 3)),o 56 (.ld none (.t 55)),o 57 (.bin .neq (.t 56) (i 0)),o 58 (.mv (.t 57)),n 59 58 (.mv (.t 5)),n 60 58 (.fA 1 (.t 2)),n 61 58 (.ld none (.t 60)),n 62 58 (.lenS (.t 61)),n 63 58 (.bin .neq (.t 59) (.t 62)),o 64 (.pick (.t 58) (.c (.bool true)) (.t 63))] [2,3,5,64]) (.cond (.t 64) (.seq (r [o 4 (.mv (.c (.bool false)))] [4]) .ret) .skip)) (.seq (r [o 18 (.fA 1 (.t 3)),o 19 (.ld none (.t 18)),o 20 (.bin .neq (.t 19) (i 0)),o 21 (.mv (.t 20)),n 22 21 (.mv (.t 5)),n 23 21 (.bin .gtr (.t 22) (i 32)),o 24 (.pick (.t 21) (.c (.bool true)) (.t 23))] [2,3,5,24]) (.cond (.t 24) (.seq (r [o 4 (.mv (.c (.bool false)))] [4]) .ret) .skip)))))))))) (.seq (.seq (r [o 6 (.mv (i 0))] [2,3,5,6]) (.block 1 (.loop (.seq (.seq (r [o 65 (.mv (.t 6)),o 66 (.mv (.t 5)),o 67 (.bin .lss (.t 65) (.t 66))] [2,3,5,6,67]) (.cond (.t 67) .skip (.exit 1))) (.seq (.block 2 (.seq (r [o 70 (.fA 1 (.t 2)),o 71 (.ld none (.t 70)),o 72 (.ixA 2 (.t 71) (i 0)),o 73 (.ld (some 2) (.t 72)),o 7 (.alloc [.int .i64 0,.nils]),z (.st 2 (.t 7) (.t 73))] [2,3,5,6,7]) (.seq (.seq (r [o 74 (.fA 0 (.t 2)),o 75 (.ld none (.t 74)),o 76 (.bin .eql (.t 75) (i 3))] [2,3,5,6,7,76]) (.cond (.t 76) (r [o 77 (.fA 1 (.t 2)),o 78 (.ld none (.t 77)),o 79 (.mv (.t 6)),o 80 (.ixA 2 (.t 78) (.t 79)),o 81 (.ld (some 2) (.t 80)),z (.st 2 (.t 7) (.t 81))] [2,3,5,6,7]) .skip)) (.seq (r [o 82 (.ld (some 2) (.t 7)),o 83 (.fA 2 (.t 3)),o 84 (.ld none (.t 83)),o 85 (.mv (.t 6)),o 86 (.ixA 3 (.t 84) (.t 85)),o 87 (.ld (some 3) (.t 86)),o 88 (.callF 142 [(.t 82),(.t 87)]),o 89 (.un .not (.t 88))] [2,3,5,6,89]) (.cond (.t 89) (.seq (r [o 4 (.mv (.c (.bool false)))] [4]) .ret) .skip))))) (r [o 68 (.mv (.t 6)),o 69 (.bin .add (.t 68) (i 1)),o 6 (.mv (.t 69))] [2,3,5,6])))))) (.seq (r [o 4 (.mv (.c (.bool true)))] [4]) .ret)))))),[.t 4]⟩
theorem ref03_of_ok : cFn Tryz.prog (kps [[2,3],[2,3,5],[2,3,5,15],[4],[2,3,5,17],[2,3,5,24],[4],[2,3,5,17,25],[4],[2,3,5,17,39],[4],[2,3,5,53],[2,3,5,64],[4],[2,3,5,6],[2,3,5,6,67],[2,3,5,6],[2,3,5,6,7],[2,3,5,6,7,76],[2,3,5,6,7],[2,3,5,6,89],[4],[4]]) [] 142 = some ref03_of_c := by kernel_rfl
abbrev ref03_open : Nat := 117
def ref03_open_c : MFn := ⟨129,(.seq (r [o 2 (.box (.t 0)),o 4 (.alloc [.int .i64 0,.nils]),o 5 (.mv (.c (.bool false)))] [1,2,4]) (.seq (.seq (r [o 15 (.mv (.t 1)),o 16 (.bin .gtr (.t 15) (i 40))] [1,2,4,16]) (.cond (.t 16) (.seq (r [o 17 (.build [.int .i64 0,.nils] []),z (.st 2 (.t 4) (.t 17)),o 5 (.mv (.c (.bool false)))] [4,5]) .ret) .skip)) (.seq (.seq (r [o 18 (.fA 0 (.t 2)),o 19 (.ld none (.t 18))] [1,2,4,19]) (.block 0 (.seq (.seq (r [o 21 (.bin .eql (.t 19) (i 1)),o 20 (.mv (.t 21))] [1,2,4,19,20]) (.cond (.t 20) .skip (r [o 22 (.bin .eql (.t 19) (i 2)),o 20 (.mv (.t 22))] [1,2,4,19,20]))) (.cond (.t 20) (.seq (r [o 23 (.fA 0 (.t 2)),o 24 (.ld none (.t 23)),o 25 (.build [.int .i64 0,.nils] [(0,1,(.t 24))]),o 6 (.alloc [.int .i64 0,.nils]),z (.st 2 (.t 6) (.t 25))] [2,4,6]) (.seq (r [o 26 (.ld (some 2) (.t 6)),o 27 (.ld (some 2) (.t 6)),o 28 (.ld (some 3) (.t 2)),o 29 (.callF 142 [(.t 27),(.t 28)]),z (.st 2 (.t 4) (.t 26)),o 5 (.mv (.t 29))] [4,5]) .ret)) (.seq (r [o 31 (.bin .eql (.t 19) (i 3)),o 30 (.mv (.t 31))] [1,2,4,19,30]) (.cond (.t 30) (.seq (r [o 32 (.fA 0 (.t 2)),o 33 (.ld none (.t 32)),o 34 (.build [.int .i64 0,.nils] [(0,1,(.t 33))]),o 7 (.alloc [.int .i64 0,.nils]),z (.st 2 (.t 7) (.t 34))] [1,2,4,7]) (.seq (.seq (r [o 8 (.mv (i 0))] [1,2,4,7,8]) (.block 1 (.loop (.seq (.seq (r [o 35 (.mv (.t 8)),o 36 (.fA 2 (.t 2)),o 37 (.ld none (.t 36)),o 38 (.lenS (.t 37)),o 39 (.bin .lss (.t 35) (.t 38))] [1,2,4,7,8,39]) (.cond (.t 39) .skip (.exit 1))) (.seq (.block 2 (.seq (r [o 43 (.fA 2 (.t 2)),o 44 (.ld none (.t 43)),o 45 (.mv (.t 8)),o 46 (.ixA 3 (.t 44) (.t 45)),o 47 (.ld (some 3) (.t 46)),o 48 (.mv (.t 1)),o 49 (.bin .add (.t 48) (i 1)),o 50 (.call 117 [(.t 47),(.t 49)]),o 42 (.mv (.t 50)),o 51 (.ext (.t 42) 0),o 52 (.ext (.t 42) 1),o 9 (.alloc [.int .i64 0,.nils]),z (.st 2 (.t 9) (.t 51)),o 10 (.mv (.t 52))] [1,2,4,7,8,9,10]) (.seq (.seq (r [o 53 (.mv (.t 10)),o 54 (.un .not (.t 53))] [1,2,4,7,8,9,54]) (.cond (.t 54) (.seq (r [o 55 (.build [.int .i64 0,.nils] []),z (.st 2 (.t 4) (.t 55)),o 5 (.mv (.c (.bool false)))] [4,5]) .ret) .skip)) (r [o 56 (.fA 1 (.t 7)),o 57 (.ld none (.t 56)),o 58 (.ld (some 2) (.t 9)),o 59 (.buildSl 2 1 [.int .i64 0,.nils] [(0,(.t 58))]),o 60 (.app 2 32 (.t 57) (.t 59)),o 61 (.fA 1 (.t 7)),z (.st 1 (.t 61) (.t 60))] [1,2,4,7,8])))) (r [o 40 (.mv (.t 8)),o 41 (.bin .add (.t 40) (i 1)),o 8 (.mv (.t 41))] [1,2,4,7,8])))))) (.seq (r [o 62 (.ld (some 2) (.t 7)),o 63 (.fA 1 (.t 2)),o 64 (.ld none (.t 63)),o 65 (.bin .eql (.t 64) (i 0)),o 66 (.mv (.t 65)),y 67 66 (.fA 2 (.t 2)),y 68 66 (.ld none (.t 67)),y 69 66 (.lenS (.t 68)),y 70 66 (.bin .geq (.t 69) (i 2)),o 71 (.pick (.t 66) (.t 70) (.c (.bool false))),o 72 (.mv (.t 71)),y 73 72 (.fA 2 (.t 2)),y 74 72 (.ld none (.t 73)),y 75 72 (.lenS (.t 74)),y 76 72 (.bin .leq (.t 75) (i 4)),o 77 (.pick (.t 72) (.t 76) (.c (.bool false))),z (.stA 2 (.t 4) (.t 62) [73]),o 5 (.mv (.t 77))] [4,5]) .ret))) (.seq (r [o 79 (.bin .eql (.t 19) (i 4)),o 78 (.mv (.t 79))] [1,2,4,78]) (.cond (.t 78) (.seq (.seq (r [o 80 (.fA 1 (.t 2)),o 81 (.ld none (.t 80)),o 82 (.bin .neq (.t 81) (i 0)),o 83 (.mv (.t 82)),n 84 83 (.fA 2 (.t 2)),n 85 83 (.ld none (.t 84)),n 86 83 (.lenS (.t 85)),n 87 83 (.bin .gtr (.t 86) (i 32)),o 88 (.pick (.t 83) (.c (.bool true)) (.t 87)),o 89 (.mv (.t 88)),n 90 89 (.mv (.t 1)),n 91 89 (.bin .eql (.t 90) (i 40)),o 92 (.pick (.t 89) (.c (.bool true)) (.t 91))] [1,2,4,92]) (.cond (.t 92) (.seq (r [o 93 (.build [.int .i64 0,.nils] []),z (.st 2 (.t 4) (.t 93)),o 5 (.mv (.c (.bool false)))] [4,5]) .ret) .skip)) (.seq (r [o 94 (.build [.int .i64 0,.nils] []),o 11 (.alloc [.int .i64 0,.nils]),z (.st 2 (.t 11) (.t 94))] [1,2,4,11]) (.seq (.seq (r [o 12 (.mv (i 0))] [1,2,4,11,12]) (.block 3 (.loop (.seq (.seq (r [o 95 (.mv (.t 12)),o 96 (.fA 2 (.t 2)),o 97 (.ld none (.t 96)),o 98 (.lenS (.t 97)),o 99 (.bin .lss (.t 95) (.t 98))] [1,2,4,11,12,99]) (.cond (.t 99) .skip (.exit 3))) (.seq (.block 4 (.seq (r [o 103 (.fA 2 (.t 2)),o 104 (.ld none (.t 103)),o 105 (.mv (.t 12)),o 106 (.ixA 3 (.t 104) (.t 105)),o 107 (.ld (some 3) (.t 106)),o 108 (.mv (.t 1)),o 109 (.bin .add (.t 108) (i 1)),o 110 (.call 117 [(.t 107),(.t 109)]),o 102 (.mv (.t 110)),o 111 (.ext (.t 102) 0),o 112 (.ext (.t 102) 1),o 13 (.alloc [.int .i64 0,.nils]),z (.st 2 (.t 13) (.t 111)),o 14 (.mv (.t 112))] [1,2,4,11,12,13,14]) (.seq (.seq (r [o 113 (.mv (.t 14))] [1,2,4,11,12,13,14,113]) (.cond (.t 113) (r [o 115 (.ld (some 2) (.t 11)),o 116 (.ld (some 2) (.t 13)),o 117 (.call 143 [(.t 115),(.t 116)]),o 114 (.mv (.t 117)),o 118 (.ext (.t 114) 0),o 119 (.ext (.t 114) 1),z (.st 2 (.t 11) (.t 118)),o 14 (.mv (.t 119))] [1,2,4,11,12,14]) .skip)) (.seq (r [o 120 (.mv (.t 14)),o 121 (.un .not (.t 120))] [1,2,4,11,12,121]) (.cond (.t 121) (.seq (r [o 122 (.build [.int .i64 0,.nils] []),z (.st 2 (.t 4) (.t 122)),o 5 (.mv (.c (.bool false)))] [4,5]) .ret) .skip))))) (r [o 100 (.mv (.t 12)),o 101 (.bin .add (.t 100) (i 1)),o 12 (.mv (.t 101))] [1,2,4,11,12])))))) (.seq (r [o 123 (.fA 0 (.t 2)),o 124 (.ld none (.t 123)),o 125 (.ld (some 2) (.t 11)),o 126 (.buildSl 2 1 [.int .i64 0,.nils] [(0,(.t 125))]),o 127 (.build [.int .i64 0,.nils] [(0,1,(.t 124)),(1,1,(.t 126))]),z (.st 2 (.t 4) (.t 127)),o 5 (.mv (.c (.bool true)))] [4,5]) .ret)))) .skip)))))))) (.seq (r [o 128 (.build [.int .i64 0,.nils] []),z (.st 2 (.t 4) (.t 128)),o 5 (.mv (.c (.bool false)))] [4,5]) .ret)))),[.cell 4 (some 2),.t 5]⟩
theorem ref03_open_ok : cFn Tryz.prog (kps [[1,2,4],[1,2,4,16],[4,5],[1,2,4,19],[1,2,4,19,20],[1,2,4,19,20],[2,4,6],[4,5],[1,2,4,19,30],[1,2,4,7],[1,2,4,7,8],[1,2,4,7,8,39],[1,2,4,7,8],[1,2,4,7,8,9,10],[1,2,4,7,8,9,54],[4,5],[1,2,4,7,8],[4,5],[1,2,4,78],[1,2,4,92],[4,5],[1,2,4,11],[1,2,4,11,12],[1,2,4,11,12,99],[1,2,4,11,12],[1,2,4,11,12,13,14],[1,2,4,11,12,13,14,113],[1,2,4,11,12,14],[1,2,4,11,12,121],[4,5],[4,5],[4,5]]) [] 117 = some ref03_open_c := by kernel_rfl
abbrev ref03_Right : Nat := 83
def ref03_Right_c : MFn := ⟨14,(.seq (r [o 1 (.box (.t 0)),o 2 (.mv (.c (.bool false)))] [1]) (.seq (.seq (r [o 5 (.ld (some 3) (.t 1)),o 6 (.call 116 [(.t 5)]),o 7 (.bin .gtr (.t 6) (i 1000))] [1,7]) (.cond (.t 7) (.seq (r [o 2 (.mv (.c (.bool false)))] [2]) .ret) .skip)) (.seq (r [o 9 (.ld (some 3) (.t 1)),o 10 (.call 117 [(.t 9),(i 1)]),o 8 (.mv (.t 10)),o 11 (.ext (.t 8) 0),o 12 (.ext (.t 8) 1),o 3 (.alloc [.int .i64 0,.nils]),z (.st 2 (.t 3) (.t 11)),o 4 (.mv (.t 12))] [4]) (.seq (r [o 13 (.mv (.t 4)),o 2 (.mv (.t 13))] [2]) .ret)))),[.t 2]⟩
theorem ref03_Right_ok : cFn Tryz.prog (kps [[1],[1,7],[2],[4],[2]]) [] 83 = some ref03_Right_c := by kernel_rfl
abbrev value_Right : Nat := 122
def value_Right_c : MFn := ⟨21,(.seq (r [o 1 (.box (.t 0)),o 2 (.mv (.c (.bool false)))] [1]) (.seq (r [o 6 (.ld (some 3) (.t 1)),o 7 (.call 145 [(.t 6),(i 40)]),o 5 (.mv (.t 7)),o 8 (.ext (.t 5) 0),o 9 (.ext (.t 5) 1),o 3 (.alloc [.int .i64 0,.nils]),z (.st 2 (.t 3) (.t 8)),o 4 (.mv (.t 9))] [1,3,4]) (.seq (r [o 10 (.mv (.t 4)),o 11 (.mv (.t 10)),y 12 11 (.ld (some 2) (.t 3)),y 13 11 (.call 147 [(.t 12)]),y 14 11 (.call 146 [(.t 13)]),o 15 (.pick (.t 11) (.t 14) (.c (.bool false))),o 16 (.mv (.t 15)),y 17 16 (.ld (some 3) (.t 1)),y 18 16 (.call 148 [(.t 17)]),y 19 16 (.bin .leq (.t 18) (i 1000)),o 20 (.pick (.t 16) (.t 19) (.c (.bool false))),o 2 (.mv (.t 20))] [2]) .ret))),[.t 2]⟩
theorem value_Right_ok : cFn Tryz.prog (kps [[1],[1,3,4],[2]]) [] 122 = some value_Right_c := by kernel_rfl
end Go.Proofs.YtipbefckimdkkaaGreat.F

namespace Go.Proofs.YtipbefckimdkkaaGreat
open Go Go.Proofs Go.Proofs.YtipbefckimdkkaaGreat.E
set_option linter.unusedSimpArgs false
set_option linter.unusedVariables false
theorem value_has {k n : Int} {l : List Tr} (hk : k = 1 ∨ k = 2) : CallD Tryz.prog F.value_has [.agg [.int .i64 k, .dat []], .agg (Tr.mk k n l).cells] (· = .bool (leafOK k n l)) := by
 refine callD_by F.value_has_ok ?_
 unfold F.value_has_c leafOK
 have hle : ((l.length : Int) = 0) ↔ l = [] := by rw [← List.length_eq_zero_iff]; omega
 rcases hk with rfl | rfl
 ·by_cases h0 : n = 0
  ·simp [cells_mk, setOb, List.filter_cons, h0, hle]
  ·by_cases h1 : n = 1
   ·simp [cells_mk, setOb, List.filter_cons, h1, hle]
   ·simp [cells_mk, setOb, List.filter_cons, h0, h1, hle]
 ·by_cases h0 : -2147483648 ≤ n
  ·by_cases h1 : n ≤ 2147483647
   ·simp [cells_mk, setOb, List.filter_cons, h0, h1, hle]
   ·simp [cells_mk, setOb, List.filter_cons, h0, h1, hle]
  ·simp [cells_mk, setOb, List.filter_cons, h0, hle]
def shapeR (o : Option Ty) (r : V) : Prop := match o with
 | some t => r = .tup [.agg t.cells, .bool true]
 | none => ∃ (k : Int) (d : List (List V)), r = .tup [.agg [.int .i64 k, .dat d], .bool false]
theorem toD_out {σ : Sto} {o n es : Nat} {k : Int} {l : List (List V)} (h : n ≠ 0 → E.look σ o = some ⟨.own, es, l⟩) (he : es ≠ 0) (hl : l.length = n) (hd : ∀ r ∈ l, mapO (toD σ 9) r = some r) : toD σ 11 (.agg [.int .i64 k, grown o n]) = some (.agg [.int .i64 k, .dat l]) := by
 simp
 rw [toD_grown (k := 9) h (by simp) he hl hd]
set_option maxHeartbeats 4000000 in
theorem value_shape : ∀ {a : Tr}, a.Ok → ∀ {left : Int}, 0 ≤ left → left ≤ 1000 → CallD Tryz.prog F.value_shape [.agg a.cells, .int .i64 left] (shapeR (shapeT a left)) := by
 intro a
 induction a using Tr.ind with
 | h k n l ih =>
   intro ha left hl0 hl1
   cases ha with
   | mk hk hn hl hc =>
   refine callD_by F.value_shape_ok ?_
   unfold F.value_shape_c
   rw [shapeT_mk]
   by_cases h0 : left < 1
   ·simp [cells_mk, setOb, List.filter_cons, h0, shapeR]
   simp only [h0, if_false]
   by_cases h1 : k = 1 ∨ k = 2
   ·have hh := value_has (n := n) (l := l) h1
    simp only [cells_mk] at hh
    have h1b : (k = 1) = True ∨ (k = 1) = False ∧ (k = 2) = True := by rcases h1 with h | h <;> subst h <;> simp
    simp only [h1, if_true]
    rcases h1 with rfl | rfl
    ·simp [cells_mk, setOb, List.filter_cons, h0]
     refine callFK_of hh (by simp) ?_
     cases leafOK 1 n l <;> simp [setOb, List.filter_cons, shapeR, tcells_mk]
    ·simp [cells_mk, setOb, List.filter_cons, h0]
     refine callFK_of hh (by simp) ?_
     cases leafOK 2 n l <;> simp [setOb, List.filter_cons, shapeR, tcells_mk]
   have h1a : ¬ k = 1 := fun h => h1 (.inl h)
   have h1b : ¬ k = 2 := fun h => h1 (.inr h)
   simp only [h1, if_false]
   by_cases h3 : k = 3 ∧ n = 0 ∧ 2 ≤ l.length ∧ l.length ≤ 4
   ·simp only [h3, and_self, if_true]
    obtain ⟨rfl, rfl, h4, h5⟩ := h3
    have h4' : (2 : Int) ≤ l.length := by omega
    have h5' : (l.length : Int) ≤ 4 := by omega
    simp [cells_mk, setOb, List.filter_cons, h0, h4', h5', h4, h5]
    refine wm_loop (fun g : Nat × List Ty => ((((((Sl.empty.set 60 (.int .i64 g.2.length)).set 59 (.int .i64 l.length)).set 58 (tl l)).set 6 (.ptr 2 0 0)).set 4 (.ptr 1 0 0)).set 1 (.int .i64 left), [(1, ⟨.own, 2, [[.int .i64 0, .nils]]⟩), (2, ⟨.own, 2, [[.int .i64 3, grown g.1 g.2.length]]⟩)] ++ grownS g.1 2 g.2.length (g.2.map fun x => x.cells)))
     (fun g => g.2.length ≤ l.length ∧ 2 < g.1 ∧ shapeL l (left - 1) = (shapeL (l.drop g.2.length) (left - 1)).map (g.2 ++ ·)) (fun g => l.length - g.2.length) (3, []) ⟨by simp, by simp, by simp⟩ ?_ ?_
    ·refine weak_obs ?_ (by simp [grown_zero, grownS_zero]) (by repeat (first | exact sin_empty | refine sin_set (by simp) ?_)) (by simp [grown_zero, grownS_zero])
     repeat (first | exact sub_empty | refine sub_set (by simp) ?_)
    rintro ⟨o, xs⟩ ⟨hi, ho, hj⟩
    dsimp only at hi ho hj
    have q0 : ¬ o = 0 := by omega
    have q1 : ¬ o = 1 := by omega
    have q2 : ¬ o = 2 := by omega
    by_cases h6 : xs.length < l.length
    ·have hih := ih l[xs.length] (List.getElem_mem h6) (hc _ (List.getElem_mem h6)) (left := left - 1) (by omega) (by omega)
     rw [shapeL_step h6] at hj
     by_cases hi0 : xs.length = 0
     ·have : xs = [] := List.length_eq_zero_iff.1 hi0
      subst this
      simp at h6 hih hj
      simp [h6, grown_zero, grownS_zero, setOb, List.filter_cons]
      rw [wrap64 (by omega) (by omega)]
      refine callK_rel hih (by simp [toD_cells]) ?_
      intro r hr
      cases hs : shapeT l[0] (left - 1) with
      | none =>
        rw [hs] at hr hj
        simp at hj
        obtain ⟨k', d', rfl⟩ := hr
        simp [setOb, List.filter_cons, hj, shapeR]
      | some x =>
        rw [hs] at hr hj
        simp only [shapeR] at hr
        subst hr
        simp
        repeat simp (disch := omega) [setOb, List.filter_cons, if_neg, if_pos, wrap64]
        refine ⟨(6, [x]), ⟨by simp; omega, by dsimp only; omega, ?_⟩, by simp; omega, ?_⟩
        ·rw [hj]; simp; cases shapeL l.tail (left - 1) <;> rfl
        ·refine weak_obs ?_ (by simp [grown_pos, grownS_pos]) (by repeat (first | exact sin_empty | refine sin_set (by simp) ?_)) ?_
         ·repeat (first | exact sub_empty | refine sub_set (by simp) ?_)
         ·simp [grown_pos, grownS_pos]
          exact fun y hy => tcells_within _ y hy
     ·simp (disch := omega) [h6, grown_pos hi0, grownS_pos hi0, setOb, List.filter_cons, Nat.max_eq_right, Nat.max_eq_left, if_neg, if_pos]
      rw [wrap64 (by omega) (by omega)]
      refine callK_rel hih (by simp [toD_cells]) ?_
      intro r hr
      cases hs : shapeT l[xs.length] (left - 1) with
      | none =>
        rw [hs] at hr hj
        simp at hj
        obtain ⟨k', d', rfl⟩ := hr
        simp (disch := omega) [setOb, List.filter_cons, Nat.max_eq_right, Nat.max_eq_left, if_neg, if_pos, hj, shapeR]
        have hg : ∀ σ : Sto, E.look σ o = some ⟨.own, 2, xs.map fun x => x.cells⟩ → toD σ 10 (.ref o 0 xs.length) = some (.dat (xs.map fun x => x.cells)) := by
         intro σ hσ
         rw [← grown_pos hi0]
         exact toD_grown (k := 9) (fun _ => hσ) (by simp) (by simp) (by simp) (fun r hr => by simp at hr; obtain ⟨x, _, rfl⟩ := hr; exact toD_tcells _ _ _)
        rw [hg _ (by simp; rw [if_neg (by omega), if_neg (by omega), if_neg (by omega)])]
        simp
      | some x =>
        rw [hs] at hr hj
        simp only [shapeR] at hr
        subst hr
        simp
        repeat simp (disch := omega) [setOb, List.filter_cons, Nat.max_eq_right, Nat.max_eq_left, if_neg, if_pos, wrap64]
        refine ⟨(o + 4, xs ++ [x]), ⟨by simp; omega, by dsimp only; omega, ?_⟩, by simp; omega, ?_⟩
        ·rw [hj]; simp; cases shapeL (List.drop (xs.length + 1) l) (left - 1) <;> simp
        ·refine weak_obs ?_ (by simp [grown_pos, grownS_pos, q0, q1, q2]) (by repeat (first | exact sin_empty | refine sin_set (by simp) ?_)) ?_
         ·repeat (first | exact sub_empty | refine sub_set (by simp) ?_)
         ·simp [grown_pos, grownS_pos]
          intro a ha y hy
          rcases ha with ⟨a, _, rfl⟩ | rfl <;> exact tcells_within _ y hy
    ·have hil : xs.length = l.length := by omega
     rw [shapeL_end (by omega)] at hj
     simp at hj
     simp [h6, hj, toD_frz]
     rw [toD_grown (st := .own) (es := 2) (l := xs.map fun x => x.cells) (k := 9) (fun h => ?_) (by simp) (by simp) (by simp) (fun r hr => ?_)]
     ·simp [tcells_mk, shapeR]
     ·simp [grownS_pos h]; rw [if_neg (by omega), if_neg (by omega), if_neg (by omega)]
     ·simp at hr
      obtain ⟨x, _, rfl⟩ := hr
      exact toD_tcells _ _ _
   have h3' : (k = 3 ∧ n = 0 ∧ 2 ≤ l.length ∧ l.length ≤ 4) = False := by simpa using h3
   simp only [h3', if_false]
   by_cases h4 : k = 4 ∧ n = 0 ∧ l.length ≤ 32
   ·simp only [h4, and_self, if_true]
    obtain ⟨rfl, rfl, h5⟩ := h4
    have h5' : (l.length : Int) ≤ 32 := by omega
    simp [cells_mk, setOb, List.filter_cons, h0, h5', h5]
    refine wm_loop (fun g : Nat × Ty => (((((((Sl.empty.set 100 (.int .i64 g.1)).set 99 (.int .i64 l.length)).set 98 (tl l)).set 11 (.ptr 3 0 0)).set 6 (.ptr 2 0 0)).set 4 (.ptr 1 0 0)).set 1 (.int .i64 left), [(1, ⟨.own, 2, [[.int .i64 0, .nils]]⟩), (2, ⟨.own, 2, [[.int .i64 4, .nils]]⟩), (3, ⟨.own, 2, [if g.1 = 0 then [.int .i64 0, .nils] else g.2.cells]⟩)]))
     (fun g => g.1 ≤ l.length ∧ g.2.Ok ∧ (g.1 = 0 → g.2 = .mk 0 []) ∧ foldS (.mk 0 []) l (left - 1) = foldS g.2 (l.drop g.1) (left - 1)) (fun g => l.length - g.1) (0, .mk 0 []) ⟨by simp, .mk (by simp) (by simp), by simp, by simp⟩ ?_ ?_
    ·refine weak_obs ?_ (by simp) (by repeat (first | exact sin_empty | refine sin_set (by simp) ?_)) (by simp)
     repeat (first | exact sub_empty | refine sub_set (by simp) ?_)
    rintro ⟨i, acc⟩ ⟨hi, hok, hz, hj⟩
    dsimp only at hi hok hz hj
    have hcl : (if i = 0 then [V.int .i64 0, .nils] else acc.cells).length = 2 := by split <;> simp
    have hct : (if i = 0 then [V.int .i64 0, .nils] else acc.cells).take 2 = (if i = 0 then [V.int .i64 0, .nils] else acc.cells) := List.take_of_length_le (by omega)
    have hcd : (if i = 0 then [V.int .i64 0, .nils] else acc.cells).drop 2 = [] := List.drop_eq_nil_of_le (by omega)
    have hcD : ∀ (σ : Sto) (n : Nat), mapO (toD σ (n + 1)) (if i = 0 then [V.int .i64 0, .nils] else acc.cells) = some acc.cells := by
     intro σ n
     by_cases e : i = 0
     ·rw [if_pos e, hz e, tcells_mk]; rfl
     ·rw [if_neg e]; exact toD_tcells _ _ _
    have hcR : ∀ (σ : Sto) (n : Nat), (if i = 0 then [V.int .i64 0, .nils] else acc.cells).flatMap (rch σ n) = [] := by
     intro σ n
     by_cases e : i = 0
     ·rw [if_pos e]; simp
     ·rw [if_neg e]; simp
    by_cases h6 : i < l.length
    ·have hih := ih l[i] (List.getElem_mem h6) (hc _ (List.getElem_mem h6)) (left := left - 1) (by omega) (by omega)
     rw [foldS_step h6] at hj
     simp [h6]
     generalize (if i = 0 then [V.int .i64 0, .nils] else acc.cells) = C at *
     simp [setOb, List.filter_cons]
     rw [wrap64 (by omega) (by omega)]
     refine callK_rel hih (by simp [toD_cells]) ?_
     intro r hr
     cases hs : shapeT l[i] (left - 1) with
     | none =>
       rw [hs] at hr hj
       simp at hj
       obtain ⟨k', d', rfl⟩ := hr
       simp [setOb, List.filter_cons, hj, shapeR]
     | some x =>
       rw [hs] at hr hj
       dsimp only at hj
       simp only [shapeR] at hr
       subst hr
       have hxok := shapeT_ok hs
       simp [setOb, List.filter_cons, hcl, hct, hcd]
       refine callK_of (value_join hok hxok) (by simp [toD_tcells, hcD]) ?_
       unfold joinV
       cases hjn : joinT acc x with
       | none =>
         rw [hjn] at hj
         simp at hj
         simp [setOb, List.filter_cons, hj, shapeR, hcR, hcl]
       | some y =>
         rw [hjn] at hj
         simp at hj
         have hyok := joinT_ok hok hxok hjn
         simp [setOb, List.filter_cons, hcR, hcl]
         rw [wrap64 (by omega) (by omega)]
         refine ⟨(i + 1, y), ⟨by dsimp only; omega, hyok, by simp, hj⟩, by dsimp only; omega, ?_⟩
         refine weak_obs ?_ (by simp; omega) (by repeat (first | exact sin_empty | refine sin_set (by simp) ?_)) ?_
         ·repeat (first | exact sub_empty | refine sub_set (by simp) ?_)
         ·simp
          exact fun z hz => tcells_within _ z hz
    ·have hil : i = l.length := by omega
     rw [foldS_end (by omega)] at hj
     simp [h6, hj]
     generalize (if i = 0 then [V.int .i64 0, .nils] else acc.cells) = C at *
     simp [hcl, hct, hcd, setOb, List.filter_cons]
     have e : ∀ σ : Sto, E.look σ 4 = some ⟨.own, 2, [C]⟩ → toD σ 10 (.ref 4 0 1) = some (.dat [acc.cells]) := by
      intro σ hσ
      show (match getOb σ 4 with | some x => if 0 + 1 ≤ x.cells.length ∧ x.es ≠ 0 then (mapO (mapO (toD σ 9)) ((x.cells.drop 0).take 1)).map V.dat else none | none => none) = _
      simp [getOb, hσ, hcD]
     rw [e _ (by simp)]
     simp [shapeR, tcells_mk]
   ·have h4' : (k = 4 ∧ n = 0 ∧ l.length ≤ 32) = False := by simpa using h4
    simp only [h4', if_false]
    have e3 : (k = 3 → n = 0 → (2 : Int) ≤ l.length → ¬ (l.length : Int) ≤ 4) := fun a b c d => h3 ⟨a, b, by omega, by omega⟩
    have e4 : (k = 4 → n = 0 → ¬ (l.length : Int) ≤ 32) := fun a b c => h4 ⟨a, b, by omega⟩
    by_cases k3 : k = 3
    ·subst k3
     by_cases n0 : n = 0
     ·subst n0
      by_cases l2 : (2 : Int) ≤ l.length
      ·have l4 := e3 rfl rfl l2
       have l4' : (4 : Int) < l.length := by omega
       simp [cells_mk, setOb, List.filter_cons, h0, l2, l4, l4', shapeR]
      ·have l2' : (l.length : Int) < 2 := by omega
       simp [cells_mk, setOb, List.filter_cons, h0, l2, l2', shapeR]
     ·simp [cells_mk, setOb, List.filter_cons, h0, n0, shapeR]
    ·by_cases k4 : k = 4
     ·subst k4
      by_cases n0 : n = 0
      ·subst n0
       have l3 := e4 rfl rfl
       have l3' : (32 : Int) < l.length := by omega
       simp [cells_mk, setOb, List.filter_cons, h0, l3, l3', shapeR]
      ·simp [cells_mk, setOb, List.filter_cons, h0, n0, shapeR]
     ·simp [cells_mk, setOb, List.filter_cons, h0, h1a, h1b, k3, k4, shapeR]
theorem ref03_of {k n : Int} {l : List Tr} (hk : k = 1 ∨ k = 2) : CallD Tryz.prog F.ref03_of [.agg [.int .i64 k, .dat []], .agg (Tr.mk k n l).cells] (· = .bool (leafOK k n l)) := by
 refine callD_by F.ref03_of_ok ?_
 unfold F.ref03_of_c leafOK
 have hle : ((l.length : Int) = 0) ↔ l = [] := by rw [← List.length_eq_zero_iff]; omega
 by_cases hl : l = []
 ·subst hl
  rcases hk with rfl | rfl
  ·by_cases h0 : n = 0
   ·simp [cells_mk, setOb, List.filter_cons, h0]
   ·by_cases h1 : n = 1
    ·simp [cells_mk, setOb, List.filter_cons, h1]
    ·simp [cells_mk, setOb, List.filter_cons, h0, h1]
  ·by_cases h0 : -2147483648 ≤ n
   ·by_cases h1 : n ≤ 2147483647
    ·simp [cells_mk, setOb, List.filter_cons, h0, h1]
    ·simp [cells_mk, setOb, List.filter_cons, h0, h1]
   ·simp [cells_mk, setOb, List.filter_cons, h0]
 ·rcases hk with rfl | rfl <;> simp [cells_mk, setOb, List.filter_cons, hl]
set_option maxHeartbeats 4000000 in
theorem ref03_open : ∀ {a : Tr}, a.Ok → cntT a ≤ 1000 → ∀ {left : Int}, 0 ≤ left → left ≤ 40 → CallD Tryz.prog F.ref03_open [.agg a.cells, .int .i64 (41 - left)] (shapeR (openT a left)) := by
 intro a
 induction a using Tr.ind with
 | h k n l ih =>
   intro ha hcn left hl0 hl1
   rw [cntT_mk] at hcn
   have hlen := cntL_len l
   cases ha with
   | mk hk hn hl hc =>
   refine callD_by F.ref03_open_ok ?_
   unfold F.ref03_open_c
   rw [openT_mk]
   by_cases h0 : left < 1
   ·have h0' : (40 : Int) < 41 - left := by omega
    simp [cells_mk, setOb, List.filter_cons, h0, h0', shapeR]
   have h0' : ¬ (40 : Int) < 41 - left := by omega
   simp only [h0, if_false]
   by_cases h1 : k = 1 ∨ k = 2
   ·have hh := ref03_of (n := n) (l := l) h1
    simp only [cells_mk] at hh
    simp only [h1, if_true]
    rcases h1 with rfl | rfl
    ·simp [cells_mk, setOb, List.filter_cons, h0']
     refine callFK_of hh (by simp) ?_
     cases leafOK 1 n l <;> simp [setOb, List.filter_cons, shapeR, tcells_mk]
    ·simp [cells_mk, setOb, List.filter_cons, h0']
     refine callFK_of hh (by simp) ?_
     cases leafOK 2 n l <;> simp [setOb, List.filter_cons, shapeR, tcells_mk]
   have h1a : ¬ k = 1 := fun h => h1 (.inl h)
   have h1b : ¬ k = 2 := fun h => h1 (.inr h)
   simp only [h1, if_false]
   have kid : ∀ i (h : i < l.length), CallD Tryz.prog F.ref03_open [.agg l[i].cells, .int .i64 (41 - left + 1)] (shapeR (openT l[i] (left - 1))) := by
    intro i h
    have := ih l[i] (List.getElem_mem h) (hc _ (List.getElem_mem h)) (by have := cntT_le (List.getElem_mem h); omega) (left := left - 1) (by omega) (by omega)
    rwa [show (41 : Int) - (left - 1) = 41 - left + 1 from by omega] at this
   by_cases h3 : k = 3
   ·subst h3
    simp [cells_mk, setOb, List.filter_cons, h0']
    refine wm_loop (fun g : Nat × List Ty => (((((Sl.empty.set 8 (.int .i64 g.2.length)).set 7 (.ptr 2 0 0)).set 4 (.ptr 1 0 0)).set 2 (.ptr 0 0 0)).set 1 (.int .i64 (41 - left)), [(0, ⟨.own, 3, [[.int .i64 3, .int .i64 n, tl l]]⟩), (1, ⟨.own, 2, [[.int .i64 0, .nils]]⟩), (2, ⟨.own, 2, [[.int .i64 3, grown g.1 g.2.length]]⟩)] ++ grownS g.1 2 g.2.length (g.2.map fun x => x.cells)))
     (fun g => g.2.length ≤ l.length ∧ 2 < g.1 ∧ openL l (left - 1) = (openL (l.drop g.2.length) (left - 1)).map (g.2 ++ ·)) (fun g => l.length - g.2.length) (3, []) ⟨by simp, by simp, by simp⟩ ?_ ?_
    ·refine weak_obs ?_ (by simp [grown_zero, grownS_zero]) (by repeat (first | exact sin_empty | refine sin_set (by simp) ?_)) (by simp [grown_zero, grownS_zero])
     repeat (first | exact sub_empty | refine sub_set (by simp) ?_)
    rintro ⟨o, xs⟩ ⟨hi, ho, hj⟩
    dsimp only at hi ho hj
    have q0 : ¬ o = 0 := by omega
    have q1 : ¬ o = 1 := by omega
    have q2 : ¬ o = 2 := by omega
    by_cases h6 : xs.length < l.length
    ·have hih := kid xs.length h6
     rw [openL_step h6] at hj
     by_cases hi0 : xs.length = 0
     ·have : xs = [] := List.length_eq_zero_iff.1 hi0
      subst this
      simp at h6 hih hj
      simp [h6, grown_zero, grownS_zero, setOb, List.filter_cons]
      rw [wrap64 (by omega) (by omega)]
      refine callK_rel hih (by simp [toD_cells]) ?_
      intro r hr
      cases hs : openT l[0] (left - 1) with
      | none =>
        rw [hs] at hr hj
        simp at hj
        obtain ⟨k', d', rfl⟩ := hr
        simp [setOb, List.filter_cons, hj, shapeR]
      | some x =>
        rw [hs] at hr hj
        simp only [shapeR] at hr
        subst hr
        simp
        repeat simp (disch := omega) [setOb, List.filter_cons, if_neg, if_pos, wrap64]
        refine ⟨(5, [x]), ⟨by simp; omega, by dsimp only; omega, ?_⟩, by simp; omega, ?_⟩
        ·rw [hj]; simp; cases openL l.tail (left - 1) <;> rfl
        ·refine weak_obs ?_ (by simp [grown_pos, grownS_pos]) (by repeat (first | exact sin_empty | refine sin_set (by simp) ?_)) ?_
         ·repeat (first | exact sub_empty | refine sub_set (by simp) ?_)
         ·simp [grown_pos, grownS_pos]
          exact fun y hy => tcells_within _ y hy
     ·simp (disch := omega) [h6, grown_pos hi0, grownS_pos hi0, setOb, List.filter_cons, Nat.max_eq_right, Nat.max_eq_left, if_neg, if_pos]
      rw [wrap64 (by omega) (by omega)]
      refine callK_rel hih (by simp [toD_cells]) ?_
      intro r hr
      cases hs : openT l[xs.length] (left - 1) with
      | none =>
        rw [hs] at hr hj
        simp at hj
        obtain ⟨k', d', rfl⟩ := hr
        simp (disch := omega) [setOb, List.filter_cons, Nat.max_eq_right, Nat.max_eq_left, if_neg, if_pos, hj, shapeR]
      | some x =>
        rw [hs] at hr hj
        simp only [shapeR] at hr
        subst hr
        simp
        repeat simp (disch := omega) [setOb, List.filter_cons, Nat.max_eq_right, Nat.max_eq_left, if_neg, if_pos, wrap64]
        refine ⟨(o + 3, xs ++ [x]), ⟨by simp; omega, by dsimp only; omega, ?_⟩, by simp; omega, ?_⟩
        ·rw [hj]; simp; cases openL (List.drop (xs.length + 1) l) (left - 1) <;> simp
        ·refine weak_obs ?_ (by simp [grown_pos, grownS_pos, q0, q1, q2]) (by repeat (first | exact sin_empty | refine sin_set (by simp) ?_)) ?_
         ·repeat (first | exact sub_empty | refine sub_set (by simp) ?_)
         ·simp [grown_pos, grownS_pos]
          intro a ha y hy
          rcases ha with ⟨a, _, rfl⟩ | rfl <;> exact tcells_within _ y hy
    ·have hil : xs.length = l.length := by omega
     rw [openL_end (by omega)] at hj
     simp at hj
     have hg : ∀ σ : Sto, (xs.length ≠ 0 → E.look σ o = some ⟨.own, 2, xs.map fun x => x.cells⟩) → toD σ 10 (grown o xs.length) = some (.dat (xs.map fun x => x.cells)) := by
      intro σ hσ
      exact toD_grown (k := 9) hσ (by simp) (by simp) (by simp) (fun r hr => by simp at hr; obtain ⟨x, _, rfl⟩ := hr; exact toD_tcells _ _ _)
     have hofs : ∀ (S : Sl), (S 73 = some (.tup []) ∨ S 73 = some (.ptr 0 0 2)) → True := fun _ _ => trivial
     have m0 : (l.length : Int) = xs.length := by omega
     by_cases n0 : n = 0
     ·subst n0
      by_cases l2 : 2 ≤ l.length
      ·have l2' : (2 : Int) ≤ l.length := by omega
       by_cases l4 : l.length ≤ 4
       ·have l4' : (l.length : Int) ≤ 4 := by omega
        simp [h6, hj, l2, l4, l2', l4', offs, V.off, setOb, List.filter_cons]
        rw [hg _ (fun h => by simp (disch := omega) [grownS_pos h, List.filter_cons, q0, q1, q2, if_neg])]
        simp [shapeR, tcells_mk]
       ·have l4' : ¬ (l.length : Int) ≤ 4 := by omega
        simp [h6, hj, l2, l4, l2', l4', offs, V.off, setOb, List.filter_cons]
        rw [hg _ (fun h => by simp (disch := omega) [grownS_pos h, List.filter_cons, q0, q1, q2, if_neg])]
        simp [shapeR, tcells_mk]
      ·have l2' : ¬ (2 : Int) ≤ l.length := by omega
       simp [h6, hj, l2, l2', offs, V.off, setOb, List.filter_cons]
       rw [hg _ (fun h => by simp (disch := omega) [grownS_pos h, List.filter_cons, q0, q1, q2, if_neg])]
       simp [shapeR, tcells_mk]
     ·simp [h6, hj, n0, offs, V.off, setOb, List.filter_cons]
      rw [hg _ (fun h => by simp (disch := omega) [grownS_pos h, List.filter_cons, q0, q1, q2, if_neg])]
      simp [shapeR, tcells_mk]
   have h3' : (k = 3 ∧ n = 0 ∧ 2 ≤ l.length ∧ l.length ≤ 4) = False := by simp [h3]
   simp only [h3', if_false]
   by_cases h4 : ¬ k = 4
   ·have h4' : (k = 4 ∧ n = 0 ∧ l.length ≤ 32 ∧ left ≠ 1) = False := by simp [h4]
    simp only [h4', if_false]
    simp [cells_mk, setOb, List.filter_cons, h0', h1a, h1b, h3, h4, shapeR]
   have h4 : k = 4 := by omega
   subst h4
   by_cases n0 : ¬ n = 0
   ·simp [cells_mk, setOb, List.filter_cons, h0', n0, shapeR]
   have n0 : n = 0 := by omega
   subst n0
   by_cases h5 : ¬ l.length ≤ 32
   ·have h5' : (32 : Int) < l.length := by omega
    simp [cells_mk, setOb, List.filter_cons, h0', h5, h5', shapeR]
   have h5 : l.length ≤ 32 := by omega
   have h5' : ¬ (32 : Int) < l.length := by omega
   by_cases hl1' : left = 1
   ·subst hl1'
    simp [cells_mk, setOb, List.filter_cons, h5, h5', shapeR]
   have hl1'' : ¬ (41 - left = 40) := by omega
   simp [cells_mk, setOb, List.filter_cons, h0', h5, h5', hl1', hl1'']
   refine wm_loop (fun g : Nat × Ty => (((((Sl.empty.set 12 (.int .i64 g.1)).set 11 (.ptr 2 0 0)).set 4 (.ptr 1 0 0)).set 2 (.ptr 0 0 0)).set 1 (.int .i64 (41 - left)), [(0, ⟨.own, 3, [[.int .i64 4, .int .i64 0, tl l]]⟩), (1, ⟨.own, 2, [[.int .i64 0, .nils]]⟩), (2, ⟨.own, 2, [if g.1 = 0 then [.int .i64 0, .nils] else g.2.cells]⟩)]))
    (fun g => g.1 ≤ l.length ∧ g.2.Ok ∧ (g.1 = 0 → g.2 = .mk 0 []) ∧ foldO (.mk 0 []) l (left - 1) = foldO g.2 (l.drop g.1) (left - 1)) (fun g => l.length - g.1) (0, .mk 0 []) ⟨by simp, .mk (by simp) (by simp), by simp, by simp⟩ ?_ ?_
   ·refine weak_obs ?_ (by simp) (by repeat (first | exact sin_empty | refine sin_set (by simp) ?_)) (by simp)
    repeat (first | exact sub_empty | refine sub_set (by simp) ?_)
   rintro ⟨i, acc⟩ ⟨hi, hok, hz, hj⟩
   dsimp only at hi hok hz hj
   have hcl : (if i = 0 then [V.int .i64 0, .nils] else acc.cells).length = 2 := by split <;> simp
   have hct : (if i = 0 then [V.int .i64 0, .nils] else acc.cells).take 2 = (if i = 0 then [V.int .i64 0, .nils] else acc.cells) := List.take_of_length_le (by omega)
   have hcd : (if i = 0 then [V.int .i64 0, .nils] else acc.cells).drop 2 = [] := List.drop_eq_nil_of_le (by omega)
   have hcD : ∀ (σ : Sto) (n : Nat), mapO (toD σ (n + 1)) (if i = 0 then [V.int .i64 0, .nils] else acc.cells) = some acc.cells := by
    intro σ n
    by_cases e : i = 0
    ·rw [if_pos e, hz e, tcells_mk]; rfl
    ·rw [if_neg e]; exact toD_tcells _ _ _
   have hcR : ∀ (σ : Sto) (n : Nat), (if i = 0 then [V.int .i64 0, .nils] else acc.cells).flatMap (rch σ n) = [] := by
    intro σ n
    by_cases e : i = 0
    ·rw [if_pos e]; simp
    ·rw [if_neg e]; simp
   have hcW : ∀ {p : Nat → Bool}, ∀ y ∈ (if i = 0 then [V.int .i64 0, .nils] else acc.cells), y.within p = true := by
    intro p y hy
    by_cases e : i = 0
    ·rw [if_pos e] at hy; simp at hy; rcases hy with rfl | rfl <;> simp
    ·rw [if_neg e] at hy; exact tcells_within _ y hy
   by_cases h6 : i < l.length
   ·have hih := kid i h6
    rw [foldO_step h6] at hj
    simp [h6]
    generalize (if i = 0 then [V.int .i64 0, .nils] else acc.cells) = C at *
    rw [wrap64 (by omega) (by omega)]
    refine callK_rel hih (by simp [toD_cells]) ?_
    intro r hr
    cases hs : openT l[i] (left - 1) with
    | none =>
      rw [hs] at hr hj
      simp at hj
      obtain ⟨k', d', rfl⟩ := hr
      simp [setOb, List.filter_cons, hj, shapeR]
    | some x =>
      rw [hs] at hr hj
      dsimp only at hj
      simp only [shapeR] at hr
      subst hr
      have hxok := openT_ok hs
      simp [setOb, List.filter_cons, hcl, hct, hcd]
      refine callK_of (ref03_meet hok hxok) (by simp [toD_tcells, hcD]) ?_
      unfold meetV
      cases hjn : joinT acc x with
      | none =>
        rw [hjn] at hj
        simp at hj
        simp [setOb, List.filter_cons, hj, shapeR, hcR, hcl]
      | some y =>
        rw [hjn] at hj
        simp at hj
        have hyok := joinT_ok hok hxok hjn
        simp [setOb, List.filter_cons, hcR, hcl]
        rw [wrap64 (by omega) (by omega)]
        refine ⟨(i + 1, y), ⟨by dsimp only; omega, hyok, by simp, hj⟩, by dsimp only; omega, ?_⟩
        refine weak_obs ?_ (by simp; omega) (by repeat (first | exact sin_empty | refine sin_set (by simp) ?_)) ?_
        ·repeat (first | exact sub_empty | refine sub_set (by simp) ?_)
        ·simp
         exact fun z hz => tcells_within _ z hz
   ·have hil : i = l.length := by omega
    rw [foldO_end (by omega)] at hj
    simp [h6, hj]
    generalize (if i = 0 then [V.int .i64 0, .nils] else acc.cells) = C at *
    simp [hcl, hct, hcd, setOb, List.filter_cons]
    have e : ∀ σ : Sto, E.look σ 3 = some ⟨.own, 2, [C]⟩ → toD σ 10 (.ref 3 0 1) = some (.dat [acc.cells]) := by
     intro σ hσ
     show (match getOb σ 3 with | some x => if 0 + 1 ≤ x.cells.length ∧ x.es ≠ 0 then (mapO (mapO (toD σ 9)) ((x.cells.drop 0).take 1)).map V.dat else none | none => none) = _
     simp [getOb, hσ, hcD]
    rw [e _ (by simp)]
    simp [shapeR, tcells_mk]
theorem ref03_Right {a : Tr} (ha : a.Ok) : CallD Tryz.prog F.ref03_Right [.agg a.cells] (· = .bool (rightT a)) := by
 refine callD_by F.ref03_Right_ok ?_
 unfold F.ref03_Right_c rightT
 simp [setOb, List.filter_cons]
 refine callK_of (ref03_Size ha) (by simp [toD_cells]) ?_
 by_cases h : cntT a ≤ 1000
 ·have h1 : ¬ (1000 : Int) < min (cntT a : Int) 1001 := by omega
  have ho := ref03_open ha h (left := 40) (by omega) (by omega)
  simp [h, h1]
  refine callK_rel ho (by simp [toD_cells]) ?_
  intro r hr
  cases hs : openT a 40 with
  | none =>
    rw [hs] at hr
    obtain ⟨k', d', rfl⟩ := hr
    simp [setOb, List.filter_cons]
  | some x =>
    rw [hs] at hr
    simp only [shapeR] at hr
    subst hr
    simp [setOb, List.filter_cons]
 ·have h1 : (1000 : Int) < min (cntT a : Int) 1001 := by omega
  simp [h, h1]
theorem value_Right {a : Tr} (ha : a.Ok) : CallD Tryz.prog F.value_Right [.agg a.cells] (· = .bool (rightT a)) := by
 refine callD_by F.value_Right_ok ?_
 unfold F.value_Right_c
 rw [rightT_shape]
 simp [setOb, List.filter_cons]
 refine callK_rel (value_shape ha (left := 40) (by omega) (by omega)) (by simp [toD_cells]) ?_
 intro r hr
 cases hs : shapeT a 40 with
 | none =>
   rw [hs] at hr
   obtain ⟨k', d', rfl⟩ := hr
   simp [setOb, List.filter_cons]
 | some x =>
   rw [hs] at hr
   simp only [shapeR] at hr
   subst hr
   have hx := shapeT_ok hs
   simp [setOb, List.filter_cons]
   refine callK_of (value_closed hx) (by simp [toD_tcells]) ?_
   simp
   refine callK_of (value_TypeRight (closedT_ok hx)) (by simp [toD_tcells]) ?_
   cases hd : deepT (closedT x) 40 with
   | false => simp
   | true =>
     simp
     refine callK_of (value_Size ha) (by simp [toD_cells]) ?_
     have : (min (cntT a : Int) 1001 ≤ 1000) ↔ cntT a ≤ 1000 := by omega
     simp [this]
end Go.Proofs.YtipbefckimdkkaaGreat
